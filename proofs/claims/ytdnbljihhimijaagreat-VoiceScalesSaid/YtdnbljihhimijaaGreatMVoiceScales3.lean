/-
  Walks of functions, and plain laws (texts put together). No condition.
-/
import Derived.Test.YtdnbljihhimijaaGreatMVoiceScales1
import Derived.Test.YtdnbljihhimijaaGreatMVoiceScales2
set_option maxRecDepth 100000
set_option maxHeartbeats 1000000
set_option linter.unusedSimpArgs false
set_option linter.unusedVariables false
namespace Go.Proofs.YtdnbljihhimijaaGreat
open Go.RowKit
theorem Mem.joinX {w0 w w' : World} {ex ex' : Nat → Prop} {X X' F : List (Nat × BA)} (M : Mem w0 ex w (X ++ F)) (N : Mem w ex' w' X') (hx : ∀ b, ex' b → inL X b) : Mem w0 ex w' (X' ++ F) := by
 have hX : ∀ b, ex' b → w0.heap.size ≤ b ∨ ex b := fun b hb => by
  obtain ⟨q, hq, rfl⟩ := List.mem_map.1 (hx b hb)
  exact (M.blk q (List.mem_append_left _ hq)).1
 have hnd := M.nd
 rw [List.map_append] at hnd
 obtain ⟨n1, n2, n3⟩ := List.nodup_append.1 hnd
 refine ⟨N.os.trans M.os, N.tape.trans M.tape, N.output.trans M.output, Nat.le_trans M.size N.size, fun b hb hxb => ?_, fun q hq => ?_, ?_⟩
 ·refine (N.block b (Nat.lt_of_lt_of_le hb M.size) fun e => ?_).trans (M.block b hb hxb)
  rcases hX b e with h | h
  ·omega
  ·exact hxb h
 ·rcases List.mem_append.1 hq with hq | hq
  ·have h := N.blk q hq
   refine ⟨?_, h.2⟩
   rcases h.1 with h | h
   ·exact .inl (Nat.le_trans M.size h)
   ·exact hX _ h
  ·have h := M.blk q (List.mem_append_right _ hq)
   exact ⟨h.1, BA.same h.2 N.size (N.block _ (BA.lt h.2) fun e => by
    obtain ⟨r, hr, e2⟩ := List.mem_map.1 (hx _ e)
    exact n3 r.1 (List.mem_map.2 ⟨r, hr, rfl⟩) q.1 (List.mem_map.2 ⟨q, hq, rfl⟩) e2)⟩
 ·rw [List.map_append]
  refine List.nodup_append.2 ⟨N.nd, n2, fun a ha b hb e => ?_⟩
  obtain ⟨q, hq, rfl⟩ := List.mem_map.1 ha
  obtain ⟨r, hr, rfl⟩ := List.mem_map.1 hb
  have h2 := BA.lt (M.blk r (List.mem_append_right _ hr)).2
  rcases (N.blk q hq).1 with h1 | h1
  ·omega
  ·obtain ⟨s, hs, e2⟩ := List.mem_map.1 (hx _ h1)
   exact n3 s.1 (List.mem_map.2 ⟨s, hs, rfl⟩) r.1 (List.mem_map.2 ⟨r, hr, rfl⟩) (e2.trans e)
theorem Mem.spin {w0 w : World} {ex : Nat → Prop} (X Y Z : List (Nat × BA)) (M : Mem w0 ex w (X ++ (Y ++ Z))) : Mem w0 ex w (X ++ (Z ++ Y)) :=
 have hp : (X ++ (Y ++ Z)).Perm (X ++ (Z ++ Y)) := List.Perm.append_left X List.perm_append_comm
 ⟨M.os, M.tape, M.output, M.size, M.block, fun p h => M.blk p (hp.mem_iff.2 h), (hp.map _).nodup_iff.1 M.nd⟩
theorem Mem.wide {w0 w w' : World} {ex ex' : Nat → Prop} {L L' : List (Nat × BA)} (M : Mem w0 ex w L) (N : Mem w ex' w' L') (hx : ∀ b, ex' b → inL L b) : Mem w0 ex w' [] :=
 (Mem.joinX (F := []) (by rw [List.append_nil]; exact M) N hx).sub (Zz9 _)
theorem Sp.move {w0 w : World} {ex ex' : Nat → Prop} {L : List (Nat × BA)} {A : Option Addr} {n size b o : Nat} {xs : List Value} (M : Mem w0 ex w L) (hx : ∀ b, ex' b → inL L b) (S : Sp w0 ex [] A n size b o xs) : Sp w ex' [] A n size b o xs :=
 ⟨S.at0, S.len, fun w' L' M' _ hn => S.lt w' [] (M.wide M' hx) (List.Sublist.refl _) hn, fun w' L' M' _ j v hv => S.cell w' [] (M.wide M' hx) (List.Sublist.refl _) j v hv⟩
def Old (w : World) (ex : Nat → Prop) (g : Nat) (cs : List Value) : Prop := Bk w g cs.toArray ∧ ¬ ex g
theorem Old.move {w0 w : World} {ex ex' : Nat → Prop} {L : List (Nat × BA)} {g : Nat} {cs : List Value} (M : Mem w0 ex w L) (hx : ∀ b, ex' b → inL L b) (h : Old w0 ex g cs) : Old w ex' g cs :=
 ⟨M.old h.1 h.2, fun e => by
  obtain ⟨q, hq, rfl⟩ := List.mem_map.1 (hx _ e)
  have := h.1.lt
  rcases (M.blk q hq).1 with h1 | h1
  ·omega
  ·exact h.2 h1⟩
theorem Old.of {w0 w : World} {ex ex' : Nat → Prop} {L X : List (Nat × BA)} {g : Nat} {cs : List Value} (M : Mem w0 ex w (X ++ L)) (hx : ∀ b, ex' b → inL X b) (h : (g, BA.cells cs) ∈ L) : Old w ex' g cs :=
 ⟨M.get (List.mem_append_right _ h), fun e => by
  have hnd := M.nd
  rw [List.map_append] at hnd
  obtain ⟨s, hs, e2⟩ := List.mem_map.1 (hx _ e)
  exact (List.nodup_append.1 hnd).2.2 s.1 (List.mem_map.2 ⟨s, hs, rfl⟩) g (List.mem_map.2 ⟨_, h, rfl⟩) e2⟩
theorem Sp.of {w0 w : World} {ex ex' : Nat → Prop} {L X I : List (Nat × BA)} {A : Option Addr} {n size b o : Nat} {xs : List Value} (M : Mem w0 ex w (X ++ L)) (hx : ∀ b, ex' b → inL X b) (S : Sp w0 ex I A n size b o xs) (hI : I.Sublist L) : Sp w ex' [] A n size b o xs :=
 ⟨S.at0, S.len, fun w' L' M' _ hn => S.lt w' _ (Mem.joinX M M' hx) (hI.trans (Zsq _ _)) hn, fun w' L' M' _ j v hv => S.cell w' _ (Mem.joinX M M' hx) (hI.trans (Zsq _ _)) j v hv⟩
theorem Sp.other {w : World} {n g : Nat} {A : Option Addr} {l : List Int} {cs : List Value} (h : Rd w w.heap.size 1 A n (ic l)) (hB : Bk w g cs.toArray) (hc : ∀ v ∈ cs, ∀ k i, v ≠ .int k i) : ∃ b o, Sp w (fun b => b = g) [] A n 1 b o (ic l) := by
 rcases Nat.eq_zero_or_pos n with rfl | hn
 ·refine ⟨0, 0, by omega, h.1, fun _ _ _ _ h => absurd h (by omega), fun _ _ _ _ j u hu => ?_⟩
  have : ic l = [] := List.eq_nil_of_length_eq_zero (by have := h.1; omega)
  simp [this] at hu
 ·obtain ⟨b, o, h1, h2, h3⟩ := h.2 hn
  refine ⟨b, o, fun _ => h1, h.1, fun w' L M _ _ => Nat.lt_of_lt_of_le h2 M.size, fun w' L M _ j u hu => (World.cell?_of_block (w := w) (a := ⟨b, o + j, none⟩) (M.block b h2 fun e => ?_)).trans (h3 j u hu)⟩
  have e : b = g := e
  subst e
  have hl := h.1
  rw [ic_length] at hl
  obtain ⟨x, hx⟩ : ∃ x, l[0]? = some x := ⟨_, List.getElem?_eq_getElem (by omega)⟩
  have h4 := h3 0 (Zi x) (by unfold ic; rw [List.getElem?_map, hx]; rfl)
  rw [hB.cell] at h4
  have h5 : (cs.toArray)[o + 0]? = some (Zi x) := h4
  have h6 : Value.int .i64 x ∈ cs := by
   rw [List.getElem?_toArray] at h5
   exact List.mem_of_getElem? h5
  exact hc _ h6 _ _ rfl
def KS (best : Option (List Int)) (A : Option Addr) (n : Nat) (is : Bool) (I : List (Nat × BA)) : Prop :=
 n = (best.getD []).length ∧ n ≤ 5 ∧ is = best.isSome ∧ ∃ b o, ∀ (w : World) (ex : Nat → Prop), Sp w ex I A n 1 b o (ic (best.getD []))
theorem KS.nil (A : Option Addr) : KS none A 0 false [] := ⟨rfl, by omega, rfl, 0, 0, fun _ _ => Sp.nil⟩
def offC (is : Bool) (lb l : List Int) (new old : Value) : List Value := if ((!is) || decide (pairsP lb < pairsP l)) = true then [new, .bool true] else [old, .bool is]
theorem offer_ks {best : Option (List Int)} {l : List Int} {A Ab : Option Addr} {n nb c cb : Nat} {is : Bool} {I Ib : List (Nat × BA)} (h : KS best Ab nb is Ib) (hl : ∃ b o, ∀ (w : World) (ex : Nat → Prop), Sp w ex I A n 1 b o (ic l)) (hn : n = l.length) (hn5 : n ≤ 5) :
  ∃ A' n' c' is' I', offC is (best.getD []) l (.slice A n c) (.slice Ab nb cb) = [.slice A' n' c', .bool is'] ∧ KS (offerP best l) A' n' is' I' ∧ (I' = I ∨ I' = Ib) := by
 obtain ⟨h1, h2, rfl, h3⟩ := h
 cases best with
 | none => exact ⟨A, n, c, true, I, by simp [offC], ⟨hn, hn5, rfl, hl⟩, .inl rfl⟩
 | some b =>
  by_cases hp : pairsP b < pairsP l
  ·exact ⟨A, n, c, true, I, by simp [offC, hp], by simp only [offerP, hp, if_true]; exact ⟨hn, hn5, rfl, hl⟩, .inl rfl⟩
  ·exact ⟨Ab, nb, cb, true, Ib, by simp [offC, hp], by simp only [offerP, hp, if_false]; exact ⟨h1, h2, rfl, h3⟩, .inr rfl⟩
def UsedOk (s : Int) (l : List Int) : Prop := (0 ≤ s ∧ s < 32) ∧ ∀ k : Nat, k < 5 → hasI s k = l.contains (k : Int)
theorem UsedOk.nil : UsedOk 0 [] := ⟨by omega, fun k hk => by rw [has0 (by omega)]; rfl⟩
theorem UsedOk.with {s : Int} {l : List Int} {h : Nat} (u : UsedOk s l) (hh : h < 5) : UsedOk (withI s h) (l ++ [(h : Int)]) := by
 refine ⟨with_bd u.1 (by omega), fun k hk => ?_⟩
 rw [with_has u.1 (by omega) (by omega), u.2 k hk]
 simp [List.contains_eq_any_beq, List.any_append, eq_comm]
 try rfl
theorem UsedOk.skip {s : Int} {l : List Int} (u : UsedOk s l) : UsedOk s (l ++ [-1]) := by
 refine ⟨u.1, fun k hk => ?_⟩
 rw [u.2 k hk]
 have : ((k : Int) == -1) = false := by rw [beq_eq_false_iff_ne]; omega
 simp [List.contains_eq_any_beq, List.any_append, this]
def stG (may : Nat → Nat → Bool) (highs r : Nat) (l : List Int) (b : Option (List Int)) (h : Nat) : Option (List Int) := if h ≤ highs then partP may highs r l b h else growP may highs (r + 1) l b
theorem stG_zero (may : Nat → Nat → Bool) (highs r : Nat) (l : List Int) (b : Option (List Int)) : stG may highs r l b 0 = b := by rw [stG, if_pos (Nat.zero_le _), partP_zero]
theorem stG_skip {may : Nat → Nat → Bool} {highs r : Nat} {l : List Int} {b : Option (List Int)} {h : Nat} (hh : h < highs) (hg : goP may l h = false) : stG may highs r l b (h + 1) = stG may highs r l b h := by
 rw [stG, if_pos (by omega), stG, if_pos (by omega), partP_skip hg]
theorem stG_go {may : Nat → Nat → Bool} {highs r : Nat} {l : List Int} {b : Option (List Int)} {h : Nat} (hh : h < highs) (hg : goP may l h = true) : stG may highs r l b (h + 1) = growP may highs r (l ++ [(h : Int)]) (stG may highs r l b h) := by
 rw [stG, if_pos (by omega), stG, if_pos (by omega), partP_go hg]
theorem stG_last {may : Nat → Nat → Bool} {highs r : Nat} {l : List Int} {b : Option (List Int)} : stG may highs r l b (highs + 1) = growP may highs r (l ++ [-1]) (stG may highs r l b highs) := by
 rw [stG, if_neg (by omega), stG, if_pos (Nat.le_refl _), growP_succ]
theorem stG_end {may : Nat → Nat → Bool} {highs r : Nat} {l : List Int} {b : Option (List Int)} {h : Nat} (hh : highs < h) : stG may highs r l b h = growP may highs (r + 1) l b := by rw [stG, if_neg (by omega)]
structure GE where
 lo : Nat
 me : Nat
 hi : Nat
 ma : Nat
 gr : Nat
 kb : Nat
 mb : Nat
 tb : Nat
 fo : Nat
 lows : Nat
 highs : Nat
 A : Option Addr
 c : Nat
 LL : List LE
abbrev pV (g : Nat) : Value := Zj g
structure GEnv (e : GE) (w : World) (ex : Nat → Prop) : Prop where
 lo : Old w ex e.lo [Zi (e.lows : Int)]
 me : Old w ex e.me [.func (.func 106) #[] #[pV e.kb]]
 hi : Old w ex e.hi [Zi (e.highs : Int)]
 ma : Old w ex e.ma [.func (.func 105) #[] #[pV e.mb, pV e.tb]]
 gr : Old w ex e.gr [.func (.func 132) #[] #[pV e.lo, pV e.me, pV e.hi, pV e.ma, pV e.gr]]
 mb : Old w ex e.mb [.func (.func e.fo) #[] #[]]
 tb : Old w ex e.tb [.slice e.A e.LL.length e.c]
 sp : ∃ b o, Sp w ex [] e.A e.LL.length 1 b o (lc e.LL)
 els : ∀ x ∈ e.LL, ∃ b o, Sp w ex [] x.2.1 x.1.length 1 b o (ic x.1)
theorem GEnv.move {e : GE} {w0 w : World} {ex ex' : Nat → Prop} {L : List (Nat × BA)} (M : Mem w0 ex w L) (hx : ∀ b, ex' b → inL L b) (h : GEnv e w0 ex) : GEnv e w ex' :=
 ⟨h.lo.move M hx, h.me.move M hx, h.hi.move M hx, h.ma.move M hx, h.gr.move M hx, h.mb.move M hx, h.tb.move M hx,
  (by obtain ⟨b, o, h1⟩ := h.sp; exact ⟨b, o, h1.move M hx⟩), fun x hx' => (by obtain ⟨b, o, h1⟩ := h.els x hx'; exact ⟨b, o, h1.move M hx⟩)⟩
def GrowPost (kb : Nat) (best : Option (List Int)) (w : World) (ex : Nat → Prop) (e : Ending) (w' : World) : Prop :=
 ∃ A n c is I, e = .returned (.bool true) ∧ KS best A n is I ∧ Mem w ex w' ((kb, .cells [.slice A n c, .bool is]) :: I)
def MayOk (e : GE) (may : Nat → Nat → Bool) : Prop := ∀ (w : World) (i h : Nat), GEnv e w noEx → i < e.lows → h < e.highs → Calls Tryz.prog 105 #[Zi (i : Int), Zi (h : Int), pV e.mb, pV e.tb] w (fun en w' => en = .returned (.bool (may i h)) ∧ Below w.heap.size w w')
theorem goP_of {may : Nat → Nat → Bool} {used : Int} {l : List Int} {h : Nat} {v : Bool} (hu : UsedOk used l) (hh : h < 5) (h5 : (hasI used (h : Int) || !may l.length h) = v) : goP may l h = !v := by
 unfold goP
 rw [← hu.2 h hh, ← h5]
 cases hasI used (h : Int) <;> cases may l.length h <;> rfl
theorem stG_last' {may : Nat → Nat → Bool} {highs r : Nat} {l : List Int} {b : Option (List Int)} {h : Nat} (hh : h = highs) : stG may highs r l b (h + 1) = growP may highs r (l ++ [-1]) (stG may highs r l b h) := by subst hh; exact stG_last
def GrowSpec (e : GE) (may : Nat → Nat → Bool) (r : Nat) : Prop :=
 ∀ (w : World) (exq : Nat → Prop) (l : List Int) (A : Option Addr) (m c : Nat) (used : Int) (bo : Option (List Int)) (Ab : Option Addr) (nb cb : Nat) (is : Bool) (Il Ib : List (Nat × BA)),
  m = l.length → l.length + r = e.lows → UsedOk used l → KS bo Ab nb is Ib → (∃ b o, ∀ (w : World) (ex : Nat → Prop), Sp w ex Il A m 1 b o (ic l)) → GEnv e w exq → Mem w exq w ((e.kb, .cells [.slice Ab nb cb, .bool is]) :: (Ib ++ Il)) →
  Calls Tryz.prog 132 #[.slice A m c, Zi used, pV e.lo, pV e.me, pV e.hi, pV e.ma, pV e.gr] w (GrowPost e.kb (growP may e.highs r l bo) w exq)
theorem ic_one (l : List Int) : ∀ u ∈ ic l, u.oneCell' = true := by
 intro u hu
 obtain ⟨p, _, rfl⟩ := List.mem_map.1 hu
 rfl
theorem pairsP_take {l : List Int} {k : Nat} {x : Int} (h : l[k]? = some x) : pairsP (l.take (k + 1)) = pairsP (l.take k) + (if 0 ≤ x then 1 else 0) := by
 rw [List.take_add_one, h]
 exact pairsP_snoc _ _
theorem with_any (s n : Int) (w : World) (hn : 0 ≤ n) :
  Calls Tryz.prog 62 #[Zi s, Zi n] w fun e w' => e = .returned (Zi (withI s n)) ∧ Below w.heap.size w w' := by
 refine Zpx noEx Tryz.func62 rfl 9 rfl [Zi s, Zi n] rfl rfl (Mem.init w _) ?_
 intro ac wc T M
 refine Zsr ?_
 refine lq T (Zra rfl evc) ?_; clear T ac; intro ac T
 replace T := T.pick [1, 2] rfl
 refine Zln ?_
 refine Zsr ?_
 refine Zg5 T (Zq (Zrm rfl (T.e 0 rfl))) rfl (Zm 2 rfl rfl) rfl (fun _ T => Zq (rn_shl rfl evc (T.e 0 rfl) (by omega))) rfl (fun _ T => Zq (rn_or rfl (T.e 2 rfl) (T.e 0 rfl))) rfl (Za 0 rfl rfl) rfl ?_; clear T ac; intro ac T
 replace T := T.pick [0] rfl
 refine Zln ?_
 refine wp_ret ?_
 refine rt_1 T rfl (T.e 0 rfl) ?_
 exact ⟨rfl, M.below⟩
theorem hasT_any (s n : Int) (w : World) (hn : 0 ≤ n) :
  Calls Tryz.prog 133 #[Zi s, Zi n] w fun e w' => e = .returned (.bool (hasI s n)) ∧ Below w.heap.size w w' := by
 refine Zpx noEx Tryz.func133 rfl 10 rfl [Zi s, Zi n] rfl rfl (Mem.init w _) ?_
 intro ac wc T M
 refine Zsr ?_
 refine lq T (Zra rfl evc) ?_; clear T ac; intro ac T
 replace T := T.pick [1, 2] rfl
 refine Zln ?_
 refine Zsr ?_
 refine Zg6 T (Zq (Zrm rfl (T.e 0 rfl))) rfl (Zm 2 rfl rfl) rfl (fun _ T => Zq (rn_shr rfl (T.e 1 rfl) (T.e 0 rfl) (by omega))) rfl (fun _ T => Zq (rn_and rfl (T.e 0 rfl) evc)) rfl (fun _ T => Zq (rn_eql rfl (T.e 0 rfl) evc)) rfl (Za 0 rfl rfl) rfl ?_; clear T ac; intro ac T
 replace T := T.pick [0] rfl
 refine Zln ?_
 refine wp_ret ?_
 refine rt_1 T rfl (T.e 0 rfl) ?_
 exact ⟨rfl, M.below⟩
theorem size_any (s : Int) (w : World) (hs : 0 ≤ s ∧ s < 32) :
   Calls Tryz.prog 61 #[Zi s] w fun e w' => e = .returned (Zi (sizeI s : Nat)) ∧ Below w.heap.size w w' := by
 refine Zpx noEx Tryz.func61 rfl 13 rfl [Zi s] rfl rfl (Mem.init w _) ?_
 intro ac wc T M
 refine Zsr ?_
 refine lq T (Zra rfl evc) ?_; clear T ac; intro ac T
 replace T := T.pick [1] rfl
 refine Zln ?_
 refine Zsr ?_
 refine lq T (Zra rfl evc) ?_; clear T ac; intro ac T
 refine Zln ?_
 refine wp_seq ?_
 refine wp_block ?_
 refine wp_loop_n (fun mz ac wc => ∃ (r k : Int), mz = r.toNat ∧ (0 ≤ r ∧ r < 32) ∧ (0 ≤ k ∧ k ≤ 32 - r) ∧ ((sizeI s : Int) = k + (sizeI r : Nat)) ∧ Tm ac 13 [(0, Zi r), (3, Zi k)] ∧ Mem w noEx wc []) ?_ ?_
 ·exact ⟨_, s, 0, rfl, (by omega), (by omega), (by omega), T.pick [1, 0] rfl, M.mask [] rfl⟩
 clear T M
 rintro mz ac wc ⟨r, k, hmm1, hr, hk, H, T, M⟩
 refine wp_seq ?_
 refine Zsr ?_
 refine Zg2 T (Zq (Zrm rfl (T.e 0 rfl))) rfl (fun _ T => Zq (rn_gtr rfl (T.e 0 rfl) evc)) rfl ?_; clear T ac; intro ac T
 replace T := T.pick [0, 2, 3] rfl
 refine Zln ?_
 refine wp_if (T.e 0 rfl) ?_ ?_
 ·intro h1
  have hz := size_step (s := r) (by omega)
  refine Zsk ?_
  refine wp_seq ?_
  refine wp_block ?_
  refine wp_region_lit ?_
  refine Zg2 T (Zq (Zrm rfl (T.e 2 rfl))) rfl (fun _ T => Zq (rn_add rfl (T.e 0 rfl) evc (by omega))) rfl ?_; clear T ac; intro ac T
  refine l_q (v := (Zi (k + 1))) (T.pick [0, 1, 2, 3] rfl) rfl rfl rfl rfl (Zra rfl (T.e 0 rfl)) ?_; clear T ac; intro ac T
  refine wpList_nil ?_
  replace T := T.pick [0, 4] rfl
  refine Znb ?_
  refine nm_then ?_
  refine wp_region_lit ?_
  refine Zg4 T (Zq (Zrm rfl (T.e 1 rfl))) rfl (Zm 2 rfl rfl) rfl (fun _ T => Zq (rn_sub rfl (T.e 0 rfl) evc (by omega))) rfl (fun _ T => Zq (rn_and rfl (T.e 2 rfl) (T.e 0 rfl))) rfl ?_; clear T ac; intro ac T
  refine l_q (v := (Zi (andI r (r - 1)))) (T.pick [0, 1, 2, 3, 4] rfl) rfl rfl rfl rfl (Zra rfl (T.e 0 rfl)) ?_; clear T ac; intro ac T
  replace T := T.pick [0, 5] rfl
  refine Zln ?_
  exact ⟨_, by omega, _, _, rfl, (by omega), (by omega), (by omega), T.pick [0, 1] rfl, M.mask [] rfl⟩
 intro h1
 obtain rfl : r = 0 := by omega
 rw [size0] at H
 refine wp_exit ?_
 refine Zet ?_
 refine Zet ?_
 refine ex_hit ?_
 refine nm_then ?_
 refine Zsr ?_
 refine Zg2 T (Zq (Zrm rfl (T.e 2 rfl))) rfl (Za 0 rfl rfl) rfl ?_; clear T ac; intro ac T
 replace T := T.pick [0] rfl
 refine Zln ?_
 refine wp_ret ?_
 refine rt_1 T rfl (T.e 0 rfl) ?_
 exact ⟨ret_int (by omega), M.below⟩
theorem pairs_any (A : Option Addr) (m c : Nat) (l : List Int) (w : World) (hr : Rd w w.heap.size 1 A m (ic l)) (hm : m ≤ 1000000)  :
   Calls Tryz.prog 58 #[.slice A m c] w fun e w' => e = .returned (Zi (pairsP l)) ∧ Below w.heap.size w w' := by
 have hml := hr.len1
 obtain ⟨bA, oA, SA⟩ := Sp.old hr
 refine Zpx noEx Tryz.func58 rfl 18 rfl [.slice A m c] rfl rfl (Mem.init w _) ?_
 intro ac wc T M
 refine Zsr ?_
 refine lq T (Zra rfl evc) ?_; clear T ac; intro ac T
 replace T := T.pick [1] rfl
 refine Zln ?_
 refine Zsr ?_
 refine lq T (Zra rfl evc) ?_; clear T ac; intro ac T
 refine Zln ?_
 refine wp_seq ?_
 refine Zsr ?_
 refine Zg3 T (Zq (Zrm rfl (T.e 1 rfl))) rfl (Zl Tryz.underlying33 0 rfl rfl) rfl (fun _ T => Zq (Zrm rfl evc)) rfl ?_; clear T ac; intro ac T
 replace T := T.pick [0, 1, 2, 3] rfl
 refine Zln ?_
 refine wp_block ?_
 refine wp_loop_n (fun mz ac wc => ∃ (k : Nat) (q : Int), mz = m - k ∧ (k ≤ m) ∧ (0 ≤ q ∧ q ≤ k) ∧ (q = pairsP (l.take k)) ∧ Tm ac 18 [(3, Zi q), (6, .slice A m c), (7, Zi ((m : Nat) : Int)), (8, Zi (k : Int))] ∧ Mem w noEx wc []) ?_ ?_
 ·exact ⟨_, 0, 0, rfl, (Nat.zero_le _), (by omega), rfl, T.pick [3, 2, 1, 0] rfl, M.mask [] rfl⟩
 clear T M
 rintro mz ac wc ⟨k, q, hmm1, hk, hq, H, T, M⟩
 refine Zsr ?_
 refine lq T (rn_lss rfl (T.e 3 rfl) (T.e 2 rfl)) ?_; clear T ac; intro ac T
 refine Zln ?_
 refine wp_seq ?_
 refine wp_if (T.e 0 rfl) ?_ ?_
 ·intro h1
  obtain ⟨x, hkx, -⟩ := ic_next (l := l) (k := k) (by omega)
  have hpt := pairsP_take hkx
  refine Zsk ?_
  refine cut_seq (fun ac wc => Tm ac 18 [(3, Zi (if 0 ≤ x then (q + 1) else q)), (6, .slice A m c), (7, Zi ((m : Nat) : Int)), (8, Zi (k : Int))] ∧ Mem w noEx wc []) ?_ ?_
  ·refine wp_block ?_
   refine Zsr ?_
   refine Zg3 T (Zq (Zri (size := 1) k rfl (T.e 2 rfl) (T.e 4 rfl) ⟨_, Tryz.underlying33, by kernel_rfl⟩ rfl (by omega) (SA.at0 (by omega)))) rfl (fun _ T => Zq (rn_cell (Sp.ic0 SA M (Zz9 _) hkx) rfl (T.e 0 rfl))) rfl (Za 0 rfl rfl) rfl ?_; clear T ac; intro ac T
   replace T := T.pick [0, 4, 5, 6, 7] rfl
   refine Zln ?_
   refine Zsr ?_
   refine Zg2 T (Zq (Zrm rfl (T.e 0 rfl))) rfl (fun _ T => Zq (rn_geq rfl (T.e 0 rfl) evc)) rfl ?_; clear T ac; intro ac T
   replace T := T.pick [0, 3, 4, 5, 6] rfl
   refine Zln ?_
   refine wp_if (T.e 0 rfl) ?_ ?_
   ·intro h2
    refine wp_region_lit ?_
    refine Zg2 T (Zq (Zrm rfl (T.e 1 rfl))) rfl (fun _ T => Zq (rn_add rfl (T.e 0 rfl) evc (by omega))) rfl ?_; clear T ac; intro ac T
    refine l_q (v := (Zi (q + 1))) (T.pick [0, 1, 2, 4, 5, 6] rfl) rfl rfl rfl rfl (Zra rfl (T.e 0 rfl)) ?_; clear T ac; intro ac T
    refine wpList_nil ?_
    replace T := T.pick [0, 4, 5, 6] rfl
    refine Znb ?_
    exact ⟨(T.pick (E' := [(3, Zi (q + 1)), (6, .slice A m c), (7, Zi ((m : Nat) : Int)), (8, Zi (k : Int))]) [0, 1, 2, 3] rfl).as (by (try rw [show (decide (0 ≤ x)) = true from (Zdt h2)]); (try simp only [if_pos h2]); (try rfl)), M.mask [] rfl⟩
   intro h2
   refine wp_skip ?_
   refine Znb ?_
   exact ⟨(T.pick (E' := [(3, Zi q), (6, .slice A m c), (7, Zi ((m : Nat) : Int)), (8, Zi (k : Int))]) [1, 2, 3, 4] rfl).as (by (try rw [show (decide (0 ≤ x)) = false from (Zdf h2)]); (try simp only [if_neg h2]); (try rfl)), M.mask [] rfl⟩
  clear T M
  rintro ac wc ⟨T, M⟩
  refine wp_region_lit ?_
  refine lq T (rn_add rfl (T.e 3 rfl) evc (by omega)) ?_; clear T ac; intro ac T
  refine l_q (v := (Zi ((k : Int) + 1))) (T.pick [0, 1, 2, 3] rfl) rfl rfl rfl rfl (Zrm rfl (T.e 0 rfl)) ?_; clear T ac; intro ac T
  replace T := T.pick [0, 2, 3, 4] rfl
  refine Zln ?_
  exact ⟨_, by omega, k + 1, _, rfl, (by omega), (by (try split) <;> omega), (by rw [hpt, ← H]; (try split) <;> omega), T.pick [1, 2, 3, 0] rfl, M.mask [] rfl⟩
 intro h1
 rw [List.take_of_length_le (by omega)] at H
 refine wp_exit ?_
 refine Zet ?_
 refine Zet ?_
 refine ex_hit ?_
 refine nm_then ?_
 refine Zsr ?_
 refine Zg2 T (Zq (Zrm rfl (T.e 1 rfl))) rfl (Za 0 rfl rfl) rfl ?_; clear T ac; intro ac T
 replace T := T.pick [0] rfl
 refine Zln ?_
 refine wp_ret ?_
 refine rt_1 T rfl (T.e 0 rfl) ?_
 exact ⟨ret_int H, M.below⟩
theorem always_any (x : Int) (w : World)  :
  Calls Tryz.prog 56 #[Zi x] w fun e w' => e = .returned (.bool (decide (x = 1))) ∧ Below w.heap.size w w' := by
 refine Zpx noEx Tryz.func56 rfl 5 rfl [Zi x] rfl rfl (Mem.init w _) ?_
 intro ac wc T M
 refine Zsr ?_
 refine lq T (Zra rfl evc) ?_; clear T ac; intro ac T
 replace T := T.pick [1] rfl
 refine Zln ?_
 refine Zsr ?_
 refine Zg3 T (Zq (Zrm rfl (T.e 0 rfl))) rfl (fun _ T => Zq (rn_eql rfl (T.e 0 rfl) evc)) rfl (Za 0 rfl rfl) rfl ?_; clear T ac; intro ac T
 replace T := T.pick [0] rfl
 refine Zln ?_
 refine wp_ret ?_
 refine rt_1 T rfl (T.e 0 rfl) ?_
 exact ⟨rfl, M.below⟩
theorem maybe_any (x : Int) (w : World)  :
  Calls Tryz.prog 66 #[Zi x] w fun e w' => e = .returned (.bool (!decide (x = 2))) ∧ Below w.heap.size w w' := by
 refine Zpx noEx Tryz.func66 rfl 5 rfl [Zi x] rfl rfl (Mem.init w _) ?_
 intro ac wc T M
 refine Zsr ?_
 refine lq T (Zra rfl evc) ?_; clear T ac; intro ac T
 replace T := T.pick [1] rfl
 refine Zln ?_
 refine Zsr ?_
 refine Zg3 T (Zq (Zrm rfl (T.e 0 rfl))) rfl (fun _ T => Zq (rn_neq rfl (T.e 0 rfl) evc)) rfl (Za 0 rfl rfl) rfl ?_; clear T ac; intro ac T
 replace T := T.pick [0] rfl
 refine Zln ?_
 refine wp_ret ?_
 refine rt_1 T rfl (T.e 0 rfl) ?_
 exact ⟨rfl, M.below⟩
theorem better_any (A : Option Addr) (m c : Nat) (l : List Int) (B : Option Addr) (d f : Nat) (lb : List Int) (w : World) (hl : Rd w w.heap.size 1 A m (ic l)) (hm : m ≤ 1000000) (hb : Rd w w.heap.size 1 B d (ic lb)) (hd : d ≤ 1000000)  :
  Calls Tryz.prog 108 #[.slice A m c, .slice B d f] w fun e w' => e = .returned (.bool (decide (pairsP lb < pairsP l))) ∧ Below w.heap.size w w' := by
 obtain ⟨bA, oA, SA⟩ := Sp.old hl
 obtain ⟨bB, oB, SB⟩ := Sp.old hb
 refine Zpx noEx Tryz.func108 rfl 10 rfl [.slice A m c, .slice B d f] rfl rfl (Mem.init w _) ?_
 intro ac wc T M
 refine Zsr ?_
 refine lq T (Zra rfl evc) ?_; clear T ac; intro ac T
 replace T := T.pick [1, 2] rfl
 refine Zln ?_
 refine Zsr ?_
 refine lq T (Zrm rfl (T.e 0 rfl)) ?_; clear T ac; intro ac T
 refine Zl2 ?_
 refine Zoc (first := []) (cap := []) T rfl rfl rfl rfl evf (.cons (T.e 0 rfl) .nil) Tryz.func58 rfl rfl ?_
 refine Calls.mono (pairs_any _ _ _ l _ (SA.rd M (Zz9 _)) (by omega)) ?_
 clear T; rintro e wc ⟨rfl, hb⟩ ac T
 replace M := M.call hb; clear hb
 refine lq T (Zrm rfl (T.e 3 rfl)) ?_; clear T ac; intro ac T
 refine Zl2 ?_
 refine Zoc (first := []) (cap := []) T rfl rfl rfl rfl evf (.cons (T.e 0 rfl) .nil) Tryz.func58 rfl rfl ?_
 refine Calls.mono (pairs_any _ _ _ lb _ (SB.rd M (Zz9 _)) (by omega)) ?_
 clear T; rintro e wc ⟨rfl, hb⟩ ac T
 replace M := M.call hb; clear hb
 refine Zg2 T (Zq (rn_gtr rfl (T.e 2 rfl) (T.e 0 rfl))) rfl (Za 0 rfl rfl) rfl ?_; clear T ac; intro ac T
 replace T := T.pick [0] rfl
 refine Zln ?_
 refine wp_ret ?_
 refine rt_1 T rfl (T.e 0 rfl) ?_
 exact ⟨rfl, M.below⟩
def OfferPost (kb : Nat) (is : Bool) (lb l : List Int) (new old : Value) (v : Value) (w : World) (e : Ending) (w' : World) : Prop := e = .returned v ∧ Mem w (fun b => b = kb) w' [(kb, .cells (offC is lb l new old))]
theorem offer_any (kb : Nat) (is : Bool) (A : Option Addr) (m c : Nat) (l : List Int) (B : Option Addr) (d f : Nat) (lb : List Int) (w : World) (hl : Rd w w.heap.size 1 A m (ic l)) (hm : m ≤ 1000000) (hb : Rd w w.heap.size 1 B d (ic lb)) (hd : d ≤ 1000000) (hk : Bk w kb #[.slice B d f, .bool is]) :
   Calls Tryz.prog 107 #[Zj kb, .slice A m c, .func (.func 108) #[] #[]] w (OfferPost kb is lb l (.slice A m c) (.slice B d f) (.tuple #[]) w) := by
 obtain ⟨bA, oA, SA⟩ := Sp.other hl hk (by intro v hv k i; simp only [List.mem_cons, List.not_mem_nil, or_false] at hv; rcases hv with rfl | rfl <;> simp)
 obtain ⟨bB, oB, SB⟩ := Sp.other hb hk (by intro v hv k i; simp only [List.mem_cons, List.not_mem_nil, or_false] at hv; rcases hv with rfl | rfl <;> simp)
 refine Zpx (fun b => b = kb) Tryz.func107 rfl 27 rfl [Zj kb, .slice A m c, .func (.func 108) #[] #[]] rfl rfl (Mem.initEx (p := .cells [.slice B d f, .bool is]) hk) ?_
 intro ac wc T M
 refine cut_seq (fun ac wc => Tm ac 27 [(0, Zj kb), (1, .slice A m c), (19, .bool ((!is) || (decide (pairsP lb < pairsP l))))] ∧ Mem w (fun b => b = kb) wc [(kb, .cells [.slice B d f, .bool is])]) ?_ ?_
 ·refine wp_region_lit ?_
  refine Zg6 (v3 := (.pointer (some ⟨kb, 1, none⟩))) T (Zq (Zrm rfl (T.e 0 rfl))) rfl (fun _ T => Zq (rn_nil rfl (T.e 0 rfl))) rfl (Zf 1 0 rfl rfl) rfl (Zo M 0 0 rfl rfl rfl rfl) rfl (fun _ T => Zq (rn_not rfl (T.e 0 rfl))) rfl (Zm 0 rfl rfl) rfl ?_; clear T ac; intro ac T
  rcases Bool.eq_false_or_eq_true (!is) with h1 | h1
  ·refine Zg8 T (Zp (Zwn rfl rfl (T.e 0 rfl) h1)) rfl (fun _ T => Zp (Zwn rfl rfl (T.e 1 rfl) h1)) rfl (fun _ T => Zp (Zwn rfl rfl (T.e 2 rfl) h1)) rfl (fun _ T => Zp (Zwn rfl rfl (T.e 3 rfl) h1)) rfl (fun _ T => Zp (Zwn rfl rfl (T.e 4 rfl) h1)) rfl (fun _ T => Zp (Zwn rfl rfl (T.e 5 rfl) h1)) rfl (fun _ T => Zp (Zwn rfl rfl (T.e 6 rfl) h1)) rfl (fun _ T => Zq (Zr1 rfl (T.e 7 rfl) h1 evc)) rfl ?_; clear T ac; intro ac T
   refine wpList_nil ?_
   replace T := T.pick [0, 14, 15] rfl
   exact ⟨(T.pick (E' := [(0, Zj kb), (1, .slice A m c), (19, .bool true)]) [1, 2, 0] rfl).as (by (try rw [show (!is) = true from h1]); (try rfl)), M.mask [true] rfl⟩
  refine Zg6 (v5 := (Zj kb)) T (Zw (Zwy rfl rfl (T.e 0 rfl) h1) (Zrm rfl (T.e 8 rfl))) rfl (fun _ T => Zw (Zwy rfl rfl (T.e 1 rfl) h1) (Zrm rfl (T.e 8 rfl))) rfl (fun _ T => Zw (Zwy rfl rfl (T.e 2 rfl) h1) (Zrm rfl (T.e 8 rfl))) rfl (fun _ T => Zw (Zwy rfl rfl (T.e 3 rfl) h1) (rn_nil rfl (T.e 0 rfl))) rfl (fun _ T => Zw (Zwy rfl rfl (T.e 4 rfl) h1) (Zrf (off := 0) rfl (T.e 0 rfl) (fun _ _ _ => by kernel_rfl))) rfl (fun _ T => Zw (Zwy rfl rfl (T.e 5 rfl) h1) (Zro (Mem.nth M 0 rfl) rfl (T.e 0 rfl) rfl)) rfl ?_; clear T ac; intro ac T
  refine l_w (Zwy rfl rfl (T.e 6 rfl) h1) ?_; intro K hK
  refine Zoc (first := []) (cap := []) T rfl rfl rfl rfl (T.e 5 rfl) (.cons (T.e 4 rfl) (.cons (T.e 0 rfl) .nil)) Tryz.func108 rfl rfl ?_
  refine Calls.mono (better_any _ _ _ l _ _ _ lb _ (SA.rd M (Zz9 _)) hm (SB.rd M (Zz9 _)) hd) ?_
  clear T; rintro e wc ⟨rfl, hb⟩ ac T
  replace M := M.call hb; clear hb
  refine Zso hK _ _ ?_; clear hK K
  refine lq T (Zr0 rfl (T.e 7 rfl) h1 (T.e 0 rfl)) ?_; clear T ac; intro ac T
  refine wpList_nil ?_
  replace T := T.pick [0, 14, 15] rfl
  exact ⟨(T.pick (E' := [(0, Zj kb), (1, .slice A m c), (19, .bool (decide (pairsP lb < pairsP l)))]) [1, 2, 0] rfl).as (by (try rw [show (!is) = false from h1]); (try rfl)), M.mask [true] rfl⟩
 clear T M
 rintro ac wc ⟨T, M⟩
 refine wp_cond_split (T.e 2 rfl) ?_ ?_
 ·intro h2
  (have h2' := h2; try simp only [Zb1, Zb2, Zb3, Zb4, Zb5, Zb6, Zb7] at h2')
  refine wp_region_lit ?_
  refine Zg5 (v5 := (Zj kb)) T (Zq (Zrm rfl (T.e 0 rfl))) rfl (Zm 1 rfl rfl) rfl (Zm 3 rfl rfl) rfl (fun _ T => Zq (rn_nil rfl (T.e 2 rfl))) rfl (Zf 0 0 rfl rfl) rfl ?_; clear T ac; intro ac T
  refine Zl2 ?_
  refine Zos M T rfl rfl (T.e 0 rfl) (T.e 2 rfl) rfl .head rfl (by simp) rfl (by kernel_rfl) ?_; clear M T; intro wc ac M T
  refine Zg2 (v2 := (.pointer (some ⟨kb, 1, none⟩))) T (Zq (rn_nil rfl (T.e 3 rfl))) rfl (Zf 1 0 rfl rfl) rfl ?_; clear T ac; intro ac T
  refine Zl2 ?_
  refine Zos M T rfl rfl (T.e 0 rfl) evc rfl .head rfl (by simp) rfl (by kernel_rfl) ?_; clear M T; intro wc ac M T
  refine wpList_nil ?_
  replace T := T.pick [] rfl
  refine nm_0 T rfl ?_
  exact ⟨rfl, by unfold offC; rw [if_pos (by simp_all)]; exact M⟩
 intro h2
 (have h2' := h2; try simp only [Zb1, Zb2, Zb3, Zb4, Zb5, Zb6, Zb7] at h2')
 refine wp_skip ?_
 refine nm_0 T rfl ?_
 exact ⟨rfl, by unfold offC; rw [if_neg (by simp_all)]; exact M⟩
theorem met_any (kb : Nat) (is : Bool) (A : Option Addr) (m c : Nat) (l : List Int) (B : Option Addr) (d f : Nat) (lb : List Int) (w : World) (hl : Rd w w.heap.size 1 A m (ic l)) (hm : m ≤ 1000000) (hb : Rd w w.heap.size 1 B d (ic lb)) (hd : d ≤ 1000000) (hk : Bk w kb #[.slice B d f, .bool is]) :
  Calls Tryz.prog 106 #[.slice A m c, Zj kb] w (OfferPost kb is lb l (.slice A m c) (.slice B d f) (.bool true) w) := by
 obtain ⟨bA, oA, SA⟩ := Sp.other hl hk (by intro v hv k i; simp only [List.mem_cons, List.not_mem_nil, or_false] at hv; rcases hv with rfl | rfl <;> simp)
 obtain ⟨bB, oB, SB⟩ := Sp.other hb hk (by intro v hv k i; simp only [List.mem_cons, List.not_mem_nil, or_false] at hv; rcases hv with rfl | rfl <;> simp)
 refine Zpx (fun b => b = kb) Tryz.func106 rfl 6 rfl [.slice A m c, Zj kb] rfl rfl (Mem.initEx (p := .cells [.slice B d f, .bool is]) hk) ?_
 intro ac wc T M
 refine Zsr ?_
 refine lq T (Zra rfl evc) ?_; clear T ac; intro ac T
 replace T := T.pick [1, 2] rfl
 refine Zln ?_
 refine Zsr ?_
 refine lq T (Zrm rfl (T.e 0 rfl)) ?_; clear T ac; intro ac T
 refine Zl2 ?_
 refine Zoc (first := []) (cap := []) T rfl rfl rfl rfl evf (.cons (T.e 2 rfl) (.cons (T.e 0 rfl) (.cons evf .nil))) Tryz.func107 rfl rfl ?_
 refine Calls.mono (offer_any kb is _ _ _ l _ _ _ lb _ (SA.rd M (Zz9 _)) hm (SB.rd M (Zz9 _)) hd (M.nth 0 rfl)) ?_
 clear T; rintro e wc ⟨rfl, N⟩ ac T
 replace M := Mem.joinX (X := [(kb, .cells [.slice B d f, .bool is])]) (F := []) M N (fun b h => by subst h; exact Zz2)
 clear N
 replace T := T.pick [] rfl
 refine Zln ?_
 refine Zsr ?_
 refine lq T (Zra rfl evc) ?_; clear T ac; intro ac T
 refine Zln ?_
 refine wp_ret ?_
 refine rt_1 T rfl (T.e 0 rfl) ?_
 exact ⟨rfl, M⟩
theorem may_always (mb tb : Nat) (A : Option Addr) (c : Nat) (LL : List LE) (i k : Nat) (x : List Int) (B : Option Addr) (d : Nat) (y : Int) (w : World) (hmb : Bk w mb #[.func (.func 56) #[] #[]]) (htb : Bk w tb #[.slice A LL.length c]) (hA : Rd w w.heap.size 1 A LL.length (lc LL)) (hx : LL[i]? = some (x, B, d)) (hB : Rd w w.heap.size 1 B x.length (ic x)) (hy : x[k]? = some y) :
  Calls Tryz.prog 105 #[Zi (i : Int), Zi (k : Int), Zj mb, Zj tb] w fun e w' => e = .returned (.bool (decide (y = 1))) ∧ Below w.heap.size w w' := by
 obtain ⟨bA, oA, SA⟩ := Sp.old hA
 obtain ⟨bB, oB, SB⟩ := Sp.old hB
 have hi := (List.getElem?_eq_some_iff.1 hx).1
 have hk := (List.getElem?_eq_some_iff.1 hy).1
 refine Zpx noEx Tryz.func105 rfl 16 rfl [Zi (i : Int), Zi (k : Int), Zj mb, Zj tb] rfl rfl (Mem.init w _) ?_
 intro ac wc T M
 refine Zsr ?_
 refine lq T (Zra rfl evc) ?_; clear T ac; intro ac T
 replace T := T.pick [1, 2, 3, 4] rfl
 refine Zln ?_
 refine wp_seq ?_
 refine Zgs M (M.mask [] rfl) 10 (by kernel_rfl) rfl (by kernel_rfl) ?_
 clear M; intro wc M
 refine gq T 0 1 rfl (fun B w' hD hl hS => (Zro (Mem.old (show Mem w noEx w' _ from hS) hmb (fun h => h)) rfl (T.e 2 rfl) rfl)) ?_; clear T ac; intro ac T
 refine gq T 1 3 rfl (fun B w' hD hl hS => (Zro (Mem.old (show Mem w noEx w' _ from hS) htb (fun h => h)) rfl (T.e 4 rfl) rfl)) ?_; clear T ac; intro ac T
 refine gq T 2 7 rfl (fun _ _ _ _ _ => (Zrm rfl (T.e 2 rfl))) ?_; clear T ac; intro ac T
 refine gq T 3 15 rfl (fun _ _ _ _ _ => (Zri (size := 1) i rfl (T.e 1 rfl) (T.e 0 rfl) ⟨_, Tryz.underlying55, by kernel_rfl⟩ rfl (by omega) (SA.at0 (by omega)))) ?_; clear T ac; intro ac T
 refine gq (v := (.slice B x.length d)) T 4 31 rfl (fun B w' hD hl hS => (rn_cell (Sp.lc0 SA (show Mem w noEx w' _ from hS) (Zz9 _) hx) rfl (T.e 0 rfl))) ?_; clear T ac; intro ac T
 refine gq T 5 63 rfl (fun _ _ _ _ _ => (Zrm rfl (T.e 6 rfl))) ?_; clear T ac; intro ac T
 refine gq T 6 127 rfl (fun _ _ _ _ _ => (Zri (size := 1) k rfl (T.e 1 rfl) (T.e 0 rfl) ⟨_, Tryz.underlying33, by kernel_rfl⟩ rfl (by omega) (SB.at0 (by omega)))) ?_; clear T ac; intro ac T
 refine gq T 7 255 rfl (fun B w' hD hl hS => (rn_cell (Sp.ic0 SB (show Mem w noEx w' _ from hS) (Zz9 _) hy) rfl (T.e 0 rfl))) ?_; clear T ac; intro ac T
 refine gw 8 511 ?_; intro K hK
 refine Zoc (first := []) (cap := []) T rfl rfl rfl rfl (T.e 7 rfl) (.cons (T.e 0 rfl) .nil) Tryz.func56 rfl rfl ?_
 refine Calls.mono (always_any y _) ?_
 clear T; rintro e wc ⟨rfl, hb⟩ ac T
 replace M := M.call hb; clear hb
 refine Zso hK _ _ (M.mask [] rfl) ?_; clear hK K
 refine gq T 9 1023 rfl (fun _ _ _ _ _ => (Zra rfl (T.e 0 rfl))) ?_; clear T ac; intro ac T
 refine Zgd (by kernel_rfl) ?_
 replace T := T.pick [0] rfl
 refine Znr ?_
 refine rt_1 T rfl (T.e 0 rfl) ?_
 exact ⟨rfl, M.below⟩
theorem may_maybe (mb tb : Nat) (A : Option Addr) (c : Nat) (LL : List LE) (i k : Nat) (x : List Int) (B : Option Addr) (d : Nat) (y : Int) (w : World) (hmb : Bk w mb #[.func (.func 66) #[] #[]]) (htb : Bk w tb #[.slice A LL.length c]) (hA : Rd w w.heap.size 1 A LL.length (lc LL)) (hx : LL[i]? = some (x, B, d)) (hB : Rd w w.heap.size 1 B x.length (ic x)) (hy : x[k]? = some y) :
  Calls Tryz.prog 105 #[Zi (i : Int), Zi (k : Int), Zj mb, Zj tb] w fun e w' => e = .returned (.bool (!decide (y = 2))) ∧ Below w.heap.size w w' := by
 obtain ⟨bA, oA, SA⟩ := Sp.old hA
 obtain ⟨bB, oB, SB⟩ := Sp.old hB
 have hi := (List.getElem?_eq_some_iff.1 hx).1
 have hk := (List.getElem?_eq_some_iff.1 hy).1
 refine Zpx noEx Tryz.func105 rfl 16 rfl [Zi (i : Int), Zi (k : Int), Zj mb, Zj tb] rfl rfl (Mem.init w _) ?_
 intro ac wc T M
 refine Zsr ?_
 refine lq T (Zra rfl evc) ?_; clear T ac; intro ac T
 replace T := T.pick [1, 2, 3, 4] rfl
 refine Zln ?_
 refine wp_seq ?_
 refine Zgs M (M.mask [] rfl) 10 (by kernel_rfl) rfl (by kernel_rfl) ?_
 clear M; intro wc M
 refine gq T 0 1 rfl (fun B w' hD hl hS => (Zro (Mem.old (show Mem w noEx w' _ from hS) hmb (fun h => h)) rfl (T.e 2 rfl) rfl)) ?_; clear T ac; intro ac T
 refine gq T 1 3 rfl (fun B w' hD hl hS => (Zro (Mem.old (show Mem w noEx w' _ from hS) htb (fun h => h)) rfl (T.e 4 rfl) rfl)) ?_; clear T ac; intro ac T
 refine gq T 2 7 rfl (fun _ _ _ _ _ => (Zrm rfl (T.e 2 rfl))) ?_; clear T ac; intro ac T
 refine gq T 3 15 rfl (fun _ _ _ _ _ => (Zri (size := 1) i rfl (T.e 1 rfl) (T.e 0 rfl) ⟨_, Tryz.underlying55, by kernel_rfl⟩ rfl (by omega) (SA.at0 (by omega)))) ?_; clear T ac; intro ac T
 refine gq (v := (.slice B x.length d)) T 4 31 rfl (fun B w' hD hl hS => (rn_cell (Sp.lc0 SA (show Mem w noEx w' _ from hS) (Zz9 _) hx) rfl (T.e 0 rfl))) ?_; clear T ac; intro ac T
 refine gq T 5 63 rfl (fun _ _ _ _ _ => (Zrm rfl (T.e 6 rfl))) ?_; clear T ac; intro ac T
 refine gq T 6 127 rfl (fun _ _ _ _ _ => (Zri (size := 1) k rfl (T.e 1 rfl) (T.e 0 rfl) ⟨_, Tryz.underlying33, by kernel_rfl⟩ rfl (by omega) (SB.at0 (by omega)))) ?_; clear T ac; intro ac T
 refine gq T 7 255 rfl (fun B w' hD hl hS => (rn_cell (Sp.ic0 SB (show Mem w noEx w' _ from hS) (Zz9 _) hy) rfl (T.e 0 rfl))) ?_; clear T ac; intro ac T
 refine gw 8 511 ?_; intro K hK
 refine Zoc (first := []) (cap := []) T rfl rfl rfl rfl (T.e 7 rfl) (.cons (T.e 0 rfl) .nil) Tryz.func66 rfl rfl ?_
 refine Calls.mono (maybe_any y _) ?_
 clear T; rintro e wc ⟨rfl, hb⟩ ac T
 replace M := M.call hb; clear hb
 refine Zso hK _ _ (M.mask [] rfl) ?_; clear hK K
 refine gq T 9 1023 rfl (fun _ _ _ _ _ => (Zra rfl (T.e 0 rfl))) ?_; clear T ac; intro ac T
 refine Zgd (by kernel_rfl) ?_
 replace T := T.pick [0] rfl
 refine Znr ?_
 refine rt_1 T rfl (T.e 0 rfl) ?_
 exact ⟨rfl, M.below⟩
theorem grow_step (ge : GE) (may : Nat → Nat → Bool) (r : Nat) (exq : Nat → Prop) (l : List Int) (A : Option Addr) (c : Nat) (used : Int) (bo : Option (List Int)) (Ab : Option Addr) (nb cb : Nat) (is : Bool) (Il Ib : List (Nat × BA)) (w : World) (hlo : ge.lows ≤ 4) (hhi : ge.highs ≤ 5) (hmay : MayOk ge may) (ih : ∀ r', r = r' + 1 → GrowSpec ge may r') (hlr : l.length + r = ge.lows) (hu : UsedOk used l) (hks : KS bo Ab nb is Ib) (hl : ∃ b o, ∀ (w : World) (ex : Nat → Prop), Sp w ex Il A l.length 1 b o (ic l)) (genv : GEnv ge w exq) (M0 : Mem w exq w ((ge.kb, .cells [.slice Ab nb cb, .bool is]) :: (Ib ++ Il))) :
   Calls Tryz.prog 132 #[.slice A l.length c, Zi used, .pointer (some ⟨ge.lo, 0, none⟩), .pointer (some ⟨ge.me, 0, none⟩), .pointer (some ⟨ge.hi, 0, none⟩), .pointer (some ⟨ge.ma, 0, none⟩), .pointer (some ⟨ge.gr, 0, none⟩)] w (GrowPost ge.kb (growP may ge.highs r l bo) w exq) := by
 have hls := hl
 obtain ⟨bl, ol, hSl⟩ := hls
 have Sl0 := hSl w exq
 have hks0 := hks
 obtain ⟨hkn, hk5, hki, bb, ob, hSb⟩ := hks0
 have Sb0 := hSb w exq
 refine Zpx exq Tryz.func132 rfl 60 rfl [.slice A l.length c, Zi used, .pointer (some ⟨ge.lo, 0, none⟩), .pointer (some ⟨ge.me, 0, none⟩), .pointer (some ⟨ge.hi, 0, none⟩), .pointer (some ⟨ge.ma, 0, none⟩), .pointer (some ⟨ge.gr, 0, none⟩)] rfl rfl M0 ?_
 intro ac wc T M
 refine Zsr ?_
 refine lq T (Zra rfl evc) ?_; clear T ac; intro ac T
 replace T := T.pick [1, 2, 3, 4, 5, 6, 7] rfl
 refine Zln ?_
 refine wp_scope_straight ?_
 refine wp_seq ?_
 refine Zsr ?_
 refine Zg4 T (Zq (Zrm rfl (T.e 0 rfl))) rfl (Zl Tryz.underlying33 0 rfl rfl) rfl (fun _ T => Zq (Zro (Mem.old M genv.lo.1 genv.lo.2) rfl (T.e 4 rfl) rfl)) rfl (fun _ T => Zq (rn_eql rfl (T.e 1 rfl) (T.e 0 rfl))) rfl ?_; clear T ac; intro ac T
 replace T := T.pick [0, 4, 5, 7, 8, 9, 10] rfl
 refine Zln ?_
 refine wp_if (T.e 0 rfl) ?_ ?_
 ·intro h1
  obtain rfl : r = 0 := by omega
  refine Zsr ?_
  refine Zg2 T (Zq (Zro (Mem.old M genv.me.1 genv.me.2) rfl (T.e 3 rfl) rfl)) rfl (Zm 2 rfl rfl) rfl ?_; clear T ac; intro ac T
  refine Zl2 ?_
  refine Zoc (first := []) (cap := [.pointer (some ⟨ge.kb, 0, none⟩)]) T rfl rfl rfl rfl (T.e 1 rfl) (.cons (T.e 0 rfl) .nil) Tryz.func106 rfl rfl ?_
  refine Calls.mono (met_any ge.kb is _ _ _ l _ _ _ (bo.getD []) _ (Sl0.rd M (.cons _ (Zsq _ _))) (by omega) (Sb0.rd M (.cons _ (subL (List.Sublist.refl _)))) (by omega) (M.nth 0 rfl)) ?_
  clear T; rintro e wc ⟨rfl, N⟩ ac T
  obtain ⟨Au1, nu1, cu1, iu1, Iu1, hocu1, hksu1, hIu1⟩ := offer_ks (c := c) (cb := cb) hks hl rfl (by omega)
  rw [hocu1] at N
  replace M := Mem.joinX (X := [(ge.kb, .cells [.slice Ab nb cb, .bool is])]) (F := Ib ++ Il) M N (fun b h => by subst h; exact Zz2)
  clear N
  replace M : Mem w exq wc ((ge.kb, .cells [.slice Au1 nu1 cu1, .bool iu1]) :: (Ib ++ Il)) := M
  refine lq T (Zra rfl (T.e 0 rfl)) ?_; clear T ac; intro ac T
  replace T := T.pick [0] rfl
  refine Zln ?_
  refine wp_ret ?_
  refine Zrt ?_
  refine rt_ng ?_
  refine rt_1 T rfl (T.e 0 rfl) ?_
  refine ⟨Au1, nu1, cu1, iu1, Iu1, rfl, hksu1, M.sub (.cons_cons _ ?_)⟩
  rcases hIu1 with rfl | rfl
  · exact Zsq _ _
  · exact Zsl _ _
 intro h1
 obtain ⟨r1, rfl⟩ : ∃ k, r = k + 1 := ⟨r - 1, by omega⟩
 have ih1 := ih r1 rfl
 refine Zsk ?_
 refine Zsr ?_
 refine Zg3 (v2 := (.func (.func 133) #[Zi used] #[])) T (Zq (Zrm rfl (T.e 2 rfl))) rfl (fun _ T => Zq (rn_makeFunc rfl (.cons (T.e 0 rfl) .nil) .nil)) rfl (Za 0 rfl rfl) rfl ?_; clear T ac; intro ac T
 replace T := T.pick [0, 4, 5, 7, 8, 9] rfl
 refine Zln ?_
 refine wp_seq ?_
 refine wp_label ?_
 refine Zns ?_
 refine Zsr ?_
 refine Zg3 T (Zq (Zro (Mem.old M genv.hi.1 genv.hi.2) rfl (T.e 3 rfl) rfl)) rfl (fun _ T => Zq (rn_add rfl (T.e 0 rfl) evc (by omega))) rfl (fun _ T => Zq (Zrm rfl evc)) rfl ?_; clear T ac; intro ac T
 replace T := T.pick [0, 1, 3, 4, 5, 6, 7, 8] rfl
 refine Zln ?_
 refine wp_block ?_
 refine wp_loop_n (fun mz ac wc => ∃ (h : Nat) (A3 : Option Addr) (n3 c3 : Nat) (i3 : Bool) (I3 : List (Nat × BA)), mz = ge.highs + 1 - h ∧ (h ≤ ge.highs + 1) ∧ (KS (stG may ge.highs r1 l bo h) A3 n3 i3 I3) ∧ Tm ac 60 [(0, .slice A l.length c), (1, Zi used), (4, .pointer (some ⟨ge.hi, 0, none⟩)), (5, .pointer (some ⟨ge.ma, 0, none⟩)), (6, .pointer (some ⟨ge.gr, 0, none⟩)), (10, .func (.func 133) #[Zi used] #[]), (24, Zi (((ge.highs : Nat) : Int) + 1)), (25, Zi (h : Int))] ∧ Mem w exq wc ((ge.kb, .cells [.slice A3 n3 c3, .bool i3]) :: (I3 ++ Il))) ?_ ?_
 ·exact ⟨_, 0, Ab, nb, cb, is, Ib, rfl, (by omega), (by rw [stG_zero]; exact hks), T.pick [3, 4, 5, 6, 7, 2, 1, 0] rfl, M.mask [true] rfl⟩
 clear T M
 rintro mz ac wc ⟨h, A3, n3, c3, i3, I3, hmm1, hh, hKs, T, M⟩
 refine Zsr ?_
 refine lq T (rn_lss rfl (T.e 7 rfl) (T.e 6 rfl)) ?_; clear T ac; intro ac T
 refine Zln ?_
 refine wp_seq ?_
 refine wp_if (T.e 0 rfl) ?_ ?_
 ·intro h2
  refine Zsk ?_
  refine wp_seq ?_
  refine wp_block ?_
  refine Zsr ?_
  refine Zg2 T (Zq (Zrm rfl (T.e 8 rfl))) rfl (Za 0 rfl rfl) rfl ?_; clear T ac; intro ac T
  replace T := T.pick [0, 3, 4, 5, 6, 7, 8, 9, 10] rfl
  refine Zln ?_
  refine Zsr ?_
  refine Zg4 T (Zq (Zrm rfl (T.e 0 rfl))) rfl (Zm 3 rfl rfl) rfl (Za 1 rfl rfl) rfl (Za 1 rfl rfl) rfl ?_; clear T ac; intro ac T
  replace T := T.pick [0, 1, 4, 5, 6, 7, 8, 9, 10, 11, 12] rfl
  refine Zln ?_
  refine wp_seq ?_
  refine wp_block ?_
  refine Zsr ?_
  refine Zg4 T (Zq (Zrm rfl (T.e 2 rfl))) rfl (fun _ T => Zq (Zro (Mem.old M genv.hi.1 genv.hi.2) rfl (T.e 6 rfl) rfl)) rfl (fun _ T => Zq (rn_eql rfl (T.e 1 rfl) (T.e 0 rfl))) rfl (Za 0 rfl rfl) rfl ?_; clear T ac; intro ac T
  replace T := T.pick [0, 4, 5, 6, 7, 8, 9, 10, 11, 12, 13, 14] rfl
  refine Zln ?_
  refine wp_if (T.e 0 rfl) ?_ ?_
  ·intro h3
   refine wp_region_lit ?_
   refine l_q (v := (Zi (-1))) (T.pick [0, 1, 3, 4, 5, 6, 7, 8, 9, 10, 11] rfl) rfl rfl rfl rfl (Zra rfl evc) ?_; clear T ac; intro ac T
   refine wpList_nil ?_
   replace T := T.pick [0, 2, 4, 5, 6, 7, 8, 9, 10, 11] rfl
   refine Znb ?_
   refine Zns ?_
   refine Zgs M (M.perm [] rfl rfl) 10 (by kernel_rfl) rfl (by kernel_rfl) ?_
   clear M; intro wc M
   refine gq T 0 1 rfl (fun B w' hD hl hS => (Zro (Mem.old (show Mem w exq w' _ from hS) genv.gr.1 genv.gr.2) rfl (T.e 6 rfl) rfl)) ?_; clear T ac; intro ac T
   refine gq T 2 5 rfl (fun _ _ _ _ _ => (Zrm rfl (T.e 3 rfl))) ?_; clear T ac; intro ac T
   refine gq T 4 21 rfl (fun _ _ _ _ _ => (Zrm rfl (T.e 2 rfl))) ?_; clear T ac; intro ac T
   refine gq T 7 149 rfl (fun _ _ _ _ _ => (Zrm rfl (T.e 4 rfl))) ?_; clear T ac; intro ac T
   refine g_m2 (i := 1) (j := 5) (by kernel_rfl) ?_ ?_
   ·refine gi 151 ?_; intro K hK
    refine ow_bs0 (e := 3) M T rfl rfl rfl rfl (fun _ => by kernel_rfl) ?_; clear M T; intro gr12_1 wc ac M T
    refine Zso hK _ _ (M.perm [] rfl rfl) ?_; clear hK K
    refine g_m2 (i := 3) (j := 5) (by kernel_rfl) ?_ ?_
    ·refine gi 159 ?_; intro K hK
     refine ow_appS Tryz.info3 M T rfl rfl rfl rfl (fun g w => Tryz.append0i _ _ g _ w) Tryz.underlying33 rfl rfl rfl (by omega) (T.e 0 rfl) (T.e 3 rfl) (Sl0.rd M (.cons _ (.cons _ (Zsq _ _)))) (ic_one _) ?_; clear M T; intro Au12_3 cu12_3 Iu12_3 wc ac hSm12_3 M T
     replace M : Mem w exq wc ((ge.kb, .cells [.slice A3 n3 c3, .bool i3]) :: (I3 ++ Il ++ Iu12_3)) := M.swapI
     refine Zso hK _ _ (M.perm [] rfl rfl) ?_; clear hK K
     refine gw 5 191 ?_; intro K hK
     refine ow_bs (e := 3) [Zi (-1)] M T rfl rfl rfl rfl (.cons (T.e 3 rfl) .nil) (fun _ => by kernel_rfl) ?_; clear M T; intro gr12_5 wc ac M T
     refine Zso hK _ _ (M.perm [] rfl rfl) ?_; clear hK K
     refine gw 6 255 ?_; intro K hK
     refine ow_appM (((gr12_5, .cells [Zi (-1)]) :: (ge.kb, .cells [.slice A3 n3 c3, .bool i3]) :: (I3 ++ Il))) Tryz.info3 hSm12_3 M (by first | rfl | simp) T rfl rfl rfl rfl Tryz.underlying33 rfl rfl rfl (by omega) (T.e 1 rfl) (T.e 0 rfl) (Zne (i := 0) rfl) rfl rfl ?_; clear M T; intro ga12_6 ca12_6 wc ac M T
     refine Zso hK _ _ (M.perm [] rfl rfl) ?_; clear hK K
     refine gw 8 511 ?_; intro K hK
     have Mq : Mem w exq wc ((ge.kb, .cells [.slice A3 n3 c3, .bool i3]) :: (ga12_6, .row 3 1 (l.length + 1) (ic l ++ [Zi (-1)]) ca12_6) :: (I3 ++ Il)) := M.permT [2, 0] 3 rfl rfl rfl rfl
     have My : Mem w exq wc ((ge.kb, .cells [.slice A3 n3 c3, .bool i3]) :: (ga12_6, .row 3 1 (l.length + 1) (ic l ++ [Zi (-1)]) ca12_6) :: I3) := Mq.sub ((Zsl I3 Il).cons_cons _ |>.cons_cons _)
     have Mx : Mem wc (inL ((ge.kb, .cells [.slice A3 n3 c3, .bool i3]) :: (ga12_6, .row 3 1 (l.length + 1) (ic l ++ [Zi (-1)]) ca12_6) :: I3)) wc ((ge.kb, .cells [.slice A3 n3 c3, .bool i3]) :: (I3 ++ [(ga12_6, .row 3 1 (l.length + 1) (ic l ++ [Zi (-1)]) ca12_6)])) := Mem.spin [(ge.kb, .cells [.slice A3 n3 c3, .bool i3])] [(ga12_6, .row 3 1 (l.length + 1) (ic l ++ [Zi (-1)]) ca12_6)] I3 My.rebase
     have gx := genv.move (ex' := inL ((ge.kb, .cells [.slice A3 n3 c3, .bool i3]) :: (ga12_6, .row 3 1 (l.length + 1) (ic l ++ [Zi (-1)]) ca12_6) :: I3)) Mq (fun b hb => by unfold inL at hb ⊢; exact (((Zsl I3 Il).cons_cons _).cons_cons _ |>.map _).subset hb)
     refine Zoc (first := []) (cap := [.pointer (some ⟨ge.lo, 0, none⟩), .pointer (some ⟨ge.me, 0, none⟩), .pointer (some ⟨ge.hi, 0, none⟩), .pointer (some ⟨ge.ma, 0, none⟩), .pointer (some ⟨ge.gr, 0, none⟩)]) T rfl rfl rfl rfl (T.e 7 rfl) (.cons (T.e 0 rfl) (.cons (T.e 4 rfl) .nil)) Tryz.func132 rfl rfl ?_
     refine Calls.mono (ih1 wc _ (l ++ [-1]) _ _ _ _ _ _ _ _ _ [(ga12_6, .row 3 1 (l.length + 1) (ic l ++ [Zi (-1)]) ca12_6)] I3 (by simp) (by simp only [List.length_append, List.length_cons, List.length_nil]; omega) hu.skip hKs ⟨_, _, fun w ex => by rw [← ic_snoc]; exact Sp.row (by simp [ic_length])⟩ gx Mx) ?_
     clear T; rintro e wc ⟨Aur12_8, nur12_8, cur12_8, iur12_8, Iur12_8, rfl, hksur12_8, N⟩ ac T
     replace M := Mem.joinX (X := (ge.kb, .cells [.slice A3 n3 c3, .bool i3]) :: (ga12_6, .row 3 1 (l.length + 1) (ic l ++ [Zi (-1)]) ca12_6) :: I3) (F := Il) Mq N (fun b h => h)
     clear N Mq My Mx gx
     replace M : Mem w exq wc ((ge.kb, .cells [.slice Aur12_8 nur12_8 cur12_8, .bool iur12_8]) :: (Iur12_8 ++ Il)) := M
     refine Zso hK _ _ (M.perm [] rfl rfl) ?_; clear hK K
     refine gq (v := (.bool false)) T 9 1023 rfl (fun _ _ _ _ _ => (Zrq (rn_not rfl (T.e 0 rfl)) (by simp))) ?_; clear T ac; intro ac T
     refine Zgd (by kernel_rfl) ?_
     replace T := T.pick [0, 12, 13, 14, 15, 16, 17, 18, 19] rfl
     refine nm_then ?_
     refine wp_cond_false (T.e 0 rfl) ?_
     refine wp_skip ?_
     refine Znb ?_
     refine nm_then ?_
     refine wp_region_lit ?_
     refine lq T (rn_add rfl (T.e 8 rfl) evc (by omega)) ?_; clear T ac; intro ac T
     refine l_q (v := (Zi ((h : Int) + 1))) (T.pick [0, 1, 2, 3, 4, 5, 6, 7, 8] rfl) rfl rfl rfl rfl (Zrm rfl (T.e 0 rfl)) ?_; clear T ac; intro ac T
     replace T := T.pick [0, 3, 4, 5, 6, 7, 8, 9] rfl
     refine Zln ?_
     exact ⟨_, by omega, h + 1, Aur12_8, nur12_8, cur12_8, iur12_8, Iur12_8, rfl, (by omega), (by rw [stG_last' (by omega)]; exact hksur12_8), T.pick [1, 2, 3, 4, 5, 6, 7, 0] rfl, M⟩
    refine gi 183 ?_; intro K hK
    refine ow_bs (e := 3) [Zi (-1)] M T rfl rfl rfl rfl (.cons (T.e 2 rfl) .nil) (fun _ => by kernel_rfl) ?_; clear M T; intro gr12_5 wc ac M T
    refine Zso hK _ _ (M.perm [] rfl rfl) ?_; clear hK K
    refine gw 3 191 ?_; intro K hK
    replace M := M.permT [1, 0, 2] 3 rfl rfl rfl rfl
    refine ow_appS Tryz.info3 M T rfl rfl rfl rfl (fun g w => Tryz.append0i _ _ g _ w) Tryz.underlying33 rfl rfl rfl (by omega) (T.e 1 rfl) (T.e 4 rfl) (Sl0.rd M (.cons _ (.cons _ (.cons _ (Zsq _ _))))) (ic_one _) ?_; clear M T; intro Au12_3 cu12_3 Iu12_3 wc ac hSm12_3 M T
    replace M : Mem w exq wc ((gr12_5, .cells [Zi (-1)]) :: (ge.kb, .cells [.slice A3 n3 c3, .bool i3]) :: (I3 ++ Il ++ Iu12_3)) := M.swapI
    refine Zso hK _ _ (M.perm [] rfl rfl) ?_; clear hK K
    refine gw 6 255 ?_; intro K hK
    refine ow_appM (((gr12_5, .cells [Zi (-1)]) :: (ge.kb, .cells [.slice A3 n3 c3, .bool i3]) :: (I3 ++ Il))) Tryz.info3 hSm12_3 M (by first | rfl | simp) T rfl rfl rfl rfl Tryz.underlying33 rfl rfl rfl (by omega) (T.e 0 rfl) (T.e 1 rfl) (Zne (i := 0) rfl) rfl rfl ?_; clear M T; intro ga12_6 ca12_6 wc ac M T
    refine Zso hK _ _ (M.perm [] rfl rfl) ?_; clear hK K
    refine gw 8 511 ?_; intro K hK
    have Mq : Mem w exq wc ((ge.kb, .cells [.slice A3 n3 c3, .bool i3]) :: (ga12_6, .row 3 1 (l.length + 1) (ic l ++ [Zi (-1)]) ca12_6) :: (I3 ++ Il)) := M.permT [2, 0] 3 rfl rfl rfl rfl
    have My : Mem w exq wc ((ge.kb, .cells [.slice A3 n3 c3, .bool i3]) :: (ga12_6, .row 3 1 (l.length + 1) (ic l ++ [Zi (-1)]) ca12_6) :: I3) := Mq.sub ((Zsl I3 Il).cons_cons _ |>.cons_cons _)
    have Mx : Mem wc (inL ((ge.kb, .cells [.slice A3 n3 c3, .bool i3]) :: (ga12_6, .row 3 1 (l.length + 1) (ic l ++ [Zi (-1)]) ca12_6) :: I3)) wc ((ge.kb, .cells [.slice A3 n3 c3, .bool i3]) :: (I3 ++ [(ga12_6, .row 3 1 (l.length + 1) (ic l ++ [Zi (-1)]) ca12_6)])) := Mem.spin [(ge.kb, .cells [.slice A3 n3 c3, .bool i3])] [(ga12_6, .row 3 1 (l.length + 1) (ic l ++ [Zi (-1)]) ca12_6)] I3 My.rebase
    have gx := genv.move (ex' := inL ((ge.kb, .cells [.slice A3 n3 c3, .bool i3]) :: (ga12_6, .row 3 1 (l.length + 1) (ic l ++ [Zi (-1)]) ca12_6) :: I3)) Mq (fun b hb => by unfold inL at hb ⊢; exact (((Zsl I3 Il).cons_cons _).cons_cons _ |>.map _).subset hb)
    refine Zoc (first := []) (cap := [.pointer (some ⟨ge.lo, 0, none⟩), .pointer (some ⟨ge.me, 0, none⟩), .pointer (some ⟨ge.hi, 0, none⟩), .pointer (some ⟨ge.ma, 0, none⟩), .pointer (some ⟨ge.gr, 0, none⟩)]) T rfl rfl rfl rfl (T.e 7 rfl) (.cons (T.e 0 rfl) (.cons (T.e 4 rfl) .nil)) Tryz.func132 rfl rfl ?_
    refine Calls.mono (ih1 wc _ (l ++ [-1]) _ _ _ _ _ _ _ _ _ [(ga12_6, .row 3 1 (l.length + 1) (ic l ++ [Zi (-1)]) ca12_6)] I3 (by simp) (by simp only [List.length_append, List.length_cons, List.length_nil]; omega) hu.skip hKs ⟨_, _, fun w ex => by rw [← ic_snoc]; exact Sp.row (by simp [ic_length])⟩ gx Mx) ?_
    clear T; rintro e wc ⟨Aur12_8, nur12_8, cur12_8, iur12_8, Iur12_8, rfl, hksur12_8, N⟩ ac T
    replace M := Mem.joinX (X := (ge.kb, .cells [.slice A3 n3 c3, .bool i3]) :: (ga12_6, .row 3 1 (l.length + 1) (ic l ++ [Zi (-1)]) ca12_6) :: I3) (F := Il) Mq N (fun b h => h)
    clear N Mq My Mx gx
    replace M : Mem w exq wc ((ge.kb, .cells [.slice Aur12_8 nur12_8 cur12_8, .bool iur12_8]) :: (Iur12_8 ++ Il)) := M
    refine Zso hK _ _ (M.perm [] rfl rfl) ?_; clear hK K
    refine gq (v := (.bool false)) T 9 1023 rfl (fun _ _ _ _ _ => (Zrq (rn_not rfl (T.e 0 rfl)) (by simp))) ?_; clear T ac; intro ac T
    refine Zgd (by kernel_rfl) ?_
    replace T := T.pick [0, 12, 13, 14, 15, 16, 17, 18, 19] rfl
    refine nm_then ?_
    refine wp_cond_false (T.e 0 rfl) ?_
    refine wp_skip ?_
    refine Znb ?_
    refine nm_then ?_
    refine wp_region_lit ?_
    refine lq T (rn_add rfl (T.e 8 rfl) evc (by omega)) ?_; clear T ac; intro ac T
    refine l_q (v := (Zi ((h : Int) + 1))) (T.pick [0, 1, 2, 3, 4, 5, 6, 7, 8] rfl) rfl rfl rfl rfl (Zrm rfl (T.e 0 rfl)) ?_; clear T ac; intro ac T
    replace T := T.pick [0, 3, 4, 5, 6, 7, 8, 9] rfl
    refine Zln ?_
    exact ⟨_, by omega, h + 1, Aur12_8, nur12_8, cur12_8, iur12_8, Iur12_8, rfl, (by omega), (by rw [stG_last' (by omega)]; exact hksur12_8), T.pick [1, 2, 3, 4, 5, 6, 7, 0] rfl, M⟩
   refine gi 181 ?_; intro K hK
   refine ow_bs (e := 3) [Zi (-1)] M T rfl rfl rfl rfl (.cons (T.e 1 rfl) .nil) (fun _ => by kernel_rfl) ?_; clear M T; intro gr12_5 wc ac M T
   refine Zso hK _ _ (M.perm [] rfl rfl) ?_; clear hK K
   refine gw 1 183 ?_; intro K hK
   refine ow_bs0 (e := 3) M T rfl rfl rfl rfl (fun _ => by kernel_rfl) ?_; clear M T; intro gr12_1 wc ac M T
   refine Zso hK _ _ (M.perm [] rfl rfl) ?_; clear hK K
   refine gw 3 191 ?_; intro K hK
   refine ow_appS Tryz.info3 M T rfl rfl rfl rfl (fun g w => Tryz.append0i _ _ g _ w) Tryz.underlying33 rfl rfl rfl (by omega) (T.e 0 rfl) (T.e 4 rfl) (Sl0.rd M (.cons _ (.cons _ (.cons _ (Zsq _ _))))) (ic_one _) ?_; clear M T; intro Au12_3 cu12_3 Iu12_3 wc ac hSm12_3 M T
   replace M : Mem w exq wc ((gr12_5, .cells [Zi (-1)]) :: (ge.kb, .cells [.slice A3 n3 c3, .bool i3]) :: (I3 ++ Il ++ Iu12_3)) := M.swapI
   refine Zso hK _ _ (M.perm [] rfl rfl) ?_; clear hK K
   refine gw 6 255 ?_; intro K hK
   refine ow_appM (((gr12_5, .cells [Zi (-1)]) :: (ge.kb, .cells [.slice A3 n3 c3, .bool i3]) :: (I3 ++ Il))) Tryz.info3 hSm12_3 M (by first | rfl | simp) T rfl rfl rfl rfl Tryz.underlying33 rfl rfl rfl (by omega) (T.e 0 rfl) (T.e 2 rfl) (Zne (i := 0) rfl) rfl rfl ?_; clear M T; intro ga12_6 ca12_6 wc ac M T
   refine Zso hK _ _ (M.perm [] rfl rfl) ?_; clear hK K
   refine gw 8 511 ?_; intro K hK
   have Mq : Mem w exq wc ((ge.kb, .cells [.slice A3 n3 c3, .bool i3]) :: (ga12_6, .row 3 1 (l.length + 1) (ic l ++ [Zi (-1)]) ca12_6) :: (I3 ++ Il)) := M.permT [2, 0] 3 rfl rfl rfl rfl
   have My : Mem w exq wc ((ge.kb, .cells [.slice A3 n3 c3, .bool i3]) :: (ga12_6, .row 3 1 (l.length + 1) (ic l ++ [Zi (-1)]) ca12_6) :: I3) := Mq.sub ((Zsl I3 Il).cons_cons _ |>.cons_cons _)
   have Mx : Mem wc (inL ((ge.kb, .cells [.slice A3 n3 c3, .bool i3]) :: (ga12_6, .row 3 1 (l.length + 1) (ic l ++ [Zi (-1)]) ca12_6) :: I3)) wc ((ge.kb, .cells [.slice A3 n3 c3, .bool i3]) :: (I3 ++ [(ga12_6, .row 3 1 (l.length + 1) (ic l ++ [Zi (-1)]) ca12_6)])) := Mem.spin [(ge.kb, .cells [.slice A3 n3 c3, .bool i3])] [(ga12_6, .row 3 1 (l.length + 1) (ic l ++ [Zi (-1)]) ca12_6)] I3 My.rebase
   have gx := genv.move (ex' := inL ((ge.kb, .cells [.slice A3 n3 c3, .bool i3]) :: (ga12_6, .row 3 1 (l.length + 1) (ic l ++ [Zi (-1)]) ca12_6) :: I3)) Mq (fun b hb => by unfold inL at hb ⊢; exact (((Zsl I3 Il).cons_cons _).cons_cons _ |>.map _).subset hb)
   refine Zoc (first := []) (cap := [.pointer (some ⟨ge.lo, 0, none⟩), .pointer (some ⟨ge.me, 0, none⟩), .pointer (some ⟨ge.hi, 0, none⟩), .pointer (some ⟨ge.ma, 0, none⟩), .pointer (some ⟨ge.gr, 0, none⟩)]) T rfl rfl rfl rfl (T.e 7 rfl) (.cons (T.e 0 rfl) (.cons (T.e 4 rfl) .nil)) Tryz.func132 rfl rfl ?_
   refine Calls.mono (ih1 wc _ (l ++ [-1]) _ _ _ _ _ _ _ _ _ [(ga12_6, .row 3 1 (l.length + 1) (ic l ++ [Zi (-1)]) ca12_6)] I3 (by simp) (by simp only [List.length_append, List.length_cons, List.length_nil]; omega) hu.skip hKs ⟨_, _, fun w ex => by rw [← ic_snoc]; exact Sp.row (by simp [ic_length])⟩ gx Mx) ?_
   clear T; rintro e wc ⟨Aur12_8, nur12_8, cur12_8, iur12_8, Iur12_8, rfl, hksur12_8, N⟩ ac T
   replace M := Mem.joinX (X := (ge.kb, .cells [.slice A3 n3 c3, .bool i3]) :: (ga12_6, .row 3 1 (l.length + 1) (ic l ++ [Zi (-1)]) ca12_6) :: I3) (F := Il) Mq N (fun b h => h)
   clear N Mq My Mx gx
   replace M : Mem w exq wc ((ge.kb, .cells [.slice Aur12_8 nur12_8 cur12_8, .bool iur12_8]) :: (Iur12_8 ++ Il)) := M
   refine Zso hK _ _ (M.perm [] rfl rfl) ?_; clear hK K
   refine gq (v := (.bool false)) T 9 1023 rfl (fun _ _ _ _ _ => (Zrq (rn_not rfl (T.e 0 rfl)) (by simp))) ?_; clear T ac; intro ac T
   refine Zgd (by kernel_rfl) ?_
   replace T := T.pick [0, 12, 13, 14, 15, 16, 17, 18, 19] rfl
   refine nm_then ?_
   refine wp_cond_false (T.e 0 rfl) ?_
   refine wp_skip ?_
   refine Znb ?_
   refine nm_then ?_
   refine wp_region_lit ?_
   refine lq T (rn_add rfl (T.e 8 rfl) evc (by omega)) ?_; clear T ac; intro ac T
   refine l_q (v := (Zi ((h : Int) + 1))) (T.pick [0, 1, 2, 3, 4, 5, 6, 7, 8] rfl) rfl rfl rfl rfl (Zrm rfl (T.e 0 rfl)) ?_; clear T ac; intro ac T
   replace T := T.pick [0, 3, 4, 5, 6, 7, 8, 9] rfl
   refine Zln ?_
   exact ⟨_, by omega, h + 1, Aur12_8, nur12_8, cur12_8, iur12_8, Iur12_8, rfl, (by omega), (by rw [stG_last' (by omega)]; exact hksur12_8), T.pick [1, 2, 3, 4, 5, 6, 7, 0] rfl, M⟩
  intro h3
  refine cut_seq (fun ac wc => Tm ac 60 [(0, .slice A l.length c), (1, Zi used), (4, .pointer (some ⟨ge.hi, 0, none⟩)), (5, .pointer (some ⟨ge.ma, 0, none⟩)), (6, .pointer (some ⟨ge.gr, 0, none⟩)), (10, .func (.func 133) #[Zi used] #[]), (11, Zi (h : Int)), (12, Zi (h : Int)), (24, Zi (((ge.highs : Nat) : Int) + 1)), (25, Zi (h : Int)), (37, .bool ((hasI used (h : Int)) || (!(may l.length h))))] ∧ Mem w exq wc ((ge.kb, .cells [.slice A3 n3 c3, .bool i3]) :: (I3 ++ Il))) ?_ ?_
  ·refine wp_region_lit ?_
   refine Zg2 T (Zq (Zrm rfl (T.e 9 rfl))) rfl (Zm 4 rfl rfl) rfl ?_; clear T ac; intro ac T
   refine Zl2 ?_
   refine Zoc (first := [Zi used]) (cap := []) T rfl rfl rfl rfl (T.e 1 rfl) (.cons (T.e 0 rfl) .nil) Tryz.func133 rfl rfl ?_
   refine Calls.mono (hasT_any used (h : Int) _ (by omega)) ?_
   clear T; rintro e wc ⟨rfl, hb⟩ ac T
   replace M := M.call hb; clear hb
   refine lq T (Zrm rfl (T.e 0 rfl)) ?_; clear T ac; intro ac T
   rcases Bool.eq_false_or_eq_true (hasI used (h : Int)) with h4 | h4
   ·refine Zg8 T (Zp (Zwn rfl rfl (T.e 0 rfl) h4)) rfl (fun _ T => Zp (Zwn rfl rfl (T.e 1 rfl) h4)) rfl (fun _ T => Zp (Zwn rfl rfl (T.e 2 rfl) h4)) rfl (fun _ T => Zp (Zwn rfl rfl (T.e 3 rfl) h4)) rfl (fun _ T => Zp (Zwn rfl rfl (T.e 4 rfl) h4)) rfl (fun _ T => Zp (Zwn rfl rfl (T.e 5 rfl) h4)) rfl (fun _ T => Zq (Zr1 rfl (T.e 6 rfl) h4 evc)) rfl (Za 0 rfl rfl) rfl ?_; clear T ac; intro ac T
    refine wpList_nil ?_
    replace T := T.pick [0, 2, 3, 4, 5, 6, 7, 14, 15, 16, 17, 18, 19, 20, 21, 22, 23] rfl
    exact ⟨(T.pick (E' := [(0, .slice A l.length c), (1, Zi used), (4, .pointer (some ⟨ge.hi, 0, none⟩)), (5, .pointer (some ⟨ge.ma, 0, none⟩)), (6, .pointer (some ⟨ge.gr, 0, none⟩)), (10, .func (.func 133) #[Zi used] #[]), (11, Zi (h : Int)), (12, Zi (h : Int)), (24, Zi (((ge.highs : Nat) : Int) + 1)), (25, Zi (h : Int)), (37, .bool true)]) [9, 10, 11, 12, 13, 14, 8, 7, 15, 16, 0] rfl).as (by (try rw [show (hasI used (h : Int)) = true from h4]); (try rfl)), M.mask [true] rfl⟩
   refine Zg4 T (Zw (Zwy rfl rfl (T.e 0 rfl) h4) (Zro (Mem.old M genv.ma.1 genv.ma.2) rfl (T.e 11 rfl) rfl)) rfl (fun _ T => Zw (Zwy rfl rfl (T.e 1 rfl) h4) (Zrm rfl (T.e 9 rfl))) rfl (fun _ T => Zw (Zwy rfl rfl (T.e 2 rfl) h4) (Zrl rfl Tryz.underlying33 (T.e 0 rfl))) rfl (fun _ T => Zw (Zwy rfl rfl (T.e 3 rfl) h4) (Zrm rfl (T.e 10 rfl))) rfl ?_; clear T ac; intro ac T
   refine l_w (Zwy rfl rfl (T.e 4 rfl) h4) ?_; intro K hK
   refine Zoc (first := []) (cap := [.pointer (some ⟨ge.mb, 0, none⟩), .pointer (some ⟨ge.tb, 0, none⟩)]) T rfl rfl rfl rfl (T.e 3 rfl) (.cons (T.e 1 rfl) (.cons (T.e 0 rfl) .nil)) Tryz.func105 rfl rfl ?_
   refine Calls.mono (hmay _ l.length h (genv.move M (fun _ h => h.elim)) (by omega) (by omega)) ?_
   clear T; rintro e wc ⟨rfl, hb⟩ ac T
   replace M := M.call hb; clear hb
   refine Zso hK _ _ ?_; clear hK K
   refine Zg3 T (Zw (Zwy rfl rfl (T.e 5 rfl) h4) (rn_not rfl (T.e 0 rfl))) rfl (fun _ T => Zq (Zr0 rfl (T.e 6 rfl) h4 (T.e 0 rfl))) rfl (Za 0 rfl rfl) rfl ?_; clear T ac; intro ac T
   refine wpList_nil ?_
   replace T := T.pick [0, 2, 3, 4, 5, 6, 7, 14, 15, 16, 17, 18, 19, 20, 21, 22, 23] rfl
   exact ⟨(T.pick (E' := [(0, .slice A l.length c), (1, Zi used), (4, .pointer (some ⟨ge.hi, 0, none⟩)), (5, .pointer (some ⟨ge.ma, 0, none⟩)), (6, .pointer (some ⟨ge.gr, 0, none⟩)), (10, .func (.func 133) #[Zi used] #[]), (11, Zi (h : Int)), (12, Zi (h : Int)), (24, Zi (((ge.highs : Nat) : Int) + 1)), (25, Zi (h : Int)), (37, .bool (!(may l.length h)))]) [9, 10, 11, 12, 13, 14, 8, 7, 15, 16, 0] rfl).as (by (try rw [show (hasI used (h : Int)) = false from h4]); (try rfl)), M.mask [true] rfl⟩
  clear T M
  rintro ac wc ⟨T, M⟩
  refine wp_cond_split (T.e 10 rfl) ?_ ?_
  ·intro h5
   (have h5' := h5; try simp only [Zb1, Zb2, Zb3, Zb4, Zb5, Zb6, Zb7] at h5')
   refine wp_exit ?_
   refine ex_miss rfl ?_
   refine Zet ?_
   refine ex_hit ?_
   refine nm_then ?_
   refine wp_region_lit ?_
   refine lq T (rn_add rfl (T.e 9 rfl) evc (by omega)) ?_; clear T ac; intro ac T
   refine l_q (v := (Zi ((h : Int) + 1))) (T.pick [0, 1, 2, 3, 4, 5, 6, 7, 8, 9, 11] rfl) rfl rfl rfl rfl (Zrm rfl (T.e 0 rfl)) ?_; clear T ac; intro ac T
   replace T := T.pick [0, 2, 3, 4, 5, 6, 7, 10] rfl
   refine Zln ?_
   exact ⟨_, by omega, h + 1, A3, n3, c3, i3, I3, rfl, (by omega), (by rw [stG_skip (by omega) (goP_of hu (by omega) h5)]; exact hKs), T.pick [1, 2, 3, 4, 5, 6, 7, 0] rfl, M⟩
  intro h5
  (have h5' := h5; try simp only [Zb1, Zb2, Zb3, Zb4, Zb5, Zb6, Zb7] at h5')
  refine wp_region_lit ?_
  refine Zg2 T (Zq (Zrm rfl (T.e 1 rfl))) rfl (Zm 7 rfl rfl) rfl ?_; clear T ac; intro ac T
  refine Zl2 ?_
  refine Zoc (first := []) (cap := []) T rfl rfl rfl rfl evf (.cons (T.e 1 rfl) (.cons (T.e 0 rfl) .nil)) Tryz.func62 rfl rfl ?_
  refine Calls.mono (with_any used (h : Int) _ (by omega)) ?_
  clear T; rintro e wc ⟨rfl, hb⟩ ac T
  replace M := M.call hb; clear hb
  refine lq T (Zra rfl (T.e 0 rfl)) ?_; clear T ac; intro ac T
  refine wpList_nil ?_
  replace T := T.pick [0, 4, 5, 6, 7, 8, 9, 11, 12, 13] rfl
  refine Znb ?_
  refine Zns ?_
  refine Zgs M (M.perm [] rfl rfl) 10 (by kernel_rfl) rfl (by kernel_rfl) ?_
  clear M; intro wc M
  refine gq T 0 1 rfl (fun B w' hD hl hS => (Zro (Mem.old (show Mem w exq w' _ from hS) genv.gr.1 genv.gr.2) rfl (T.e 5 rfl) rfl)) ?_; clear T ac; intro ac T
  refine gq T 2 5 rfl (fun _ _ _ _ _ => (Zrm rfl (T.e 2 rfl))) ?_; clear T ac; intro ac T
  refine gq T 4 21 rfl (fun _ _ _ _ _ => (Zrm rfl (T.e 9 rfl))) ?_; clear T ac; intro ac T
  refine gq T 7 149 rfl (fun _ _ _ _ _ => (Zrm rfl (T.e 3 rfl))) ?_; clear T ac; intro ac T
  refine g_m2 (i := 1) (j := 5) (by kernel_rfl) ?_ ?_
  ·refine gi 151 ?_; intro K hK
   refine ow_bs0 (e := 3) M T rfl rfl rfl rfl (fun _ => by kernel_rfl) ?_; clear M T; intro gr12_1 wc ac M T
   refine Zso hK _ _ (M.perm [] rfl rfl) ?_; clear hK K
   refine g_m2 (i := 3) (j := 5) (by kernel_rfl) ?_ ?_
   ·refine gi 159 ?_; intro K hK
    refine ow_appS Tryz.info3 M T rfl rfl rfl rfl (fun g w => Tryz.append0i _ _ g _ w) Tryz.underlying33 rfl rfl rfl (by omega) (T.e 0 rfl) (T.e 3 rfl) (Sl0.rd M (.cons _ (.cons _ (Zsq _ _)))) (ic_one _) ?_; clear M T; intro Au12_3 cu12_3 Iu12_3 wc ac hSm12_3 M T
    replace M : Mem w exq wc ((ge.kb, .cells [.slice A3 n3 c3, .bool i3]) :: (I3 ++ Il ++ Iu12_3)) := M.swapI
    refine Zso hK _ _ (M.perm [] rfl rfl) ?_; clear hK K
    refine gw 5 191 ?_; intro K hK
    refine ow_bs (e := 3) [Zi (h : Int)] M T rfl rfl rfl rfl (.cons (T.e 3 rfl) .nil) (fun _ => by kernel_rfl) ?_; clear M T; intro gr12_5 wc ac M T
    refine Zso hK _ _ (M.perm [] rfl rfl) ?_; clear hK K
    refine gw 6 255 ?_; intro K hK
    refine ow_appM (((gr12_5, .cells [Zi (h : Int)]) :: (ge.kb, .cells [.slice A3 n3 c3, .bool i3]) :: (I3 ++ Il))) Tryz.info3 hSm12_3 M (by first | rfl | simp) T rfl rfl rfl rfl Tryz.underlying33 rfl rfl rfl (by omega) (T.e 1 rfl) (T.e 0 rfl) (Zne (i := 0) rfl) rfl rfl ?_; clear M T; intro ga12_6 ca12_6 wc ac M T
    refine Zso hK _ _ (M.perm [] rfl rfl) ?_; clear hK K
    refine gw 8 511 ?_; intro K hK
    have Mq : Mem w exq wc ((ge.kb, .cells [.slice A3 n3 c3, .bool i3]) :: (ga12_6, .row 3 1 (l.length + 1) (ic l ++ [Zi (h : Int)]) ca12_6) :: (I3 ++ Il)) := M.permT [2, 0] 3 rfl rfl rfl rfl
    have My : Mem w exq wc ((ge.kb, .cells [.slice A3 n3 c3, .bool i3]) :: (ga12_6, .row 3 1 (l.length + 1) (ic l ++ [Zi (h : Int)]) ca12_6) :: I3) := Mq.sub ((Zsl I3 Il).cons_cons _ |>.cons_cons _)
    have Mx : Mem wc (inL ((ge.kb, .cells [.slice A3 n3 c3, .bool i3]) :: (ga12_6, .row 3 1 (l.length + 1) (ic l ++ [Zi (h : Int)]) ca12_6) :: I3)) wc ((ge.kb, .cells [.slice A3 n3 c3, .bool i3]) :: (I3 ++ [(ga12_6, .row 3 1 (l.length + 1) (ic l ++ [Zi (h : Int)]) ca12_6)])) := Mem.spin [(ge.kb, .cells [.slice A3 n3 c3, .bool i3])] [(ga12_6, .row 3 1 (l.length + 1) (ic l ++ [Zi (h : Int)]) ca12_6)] I3 My.rebase
    have gx := genv.move (ex' := inL ((ge.kb, .cells [.slice A3 n3 c3, .bool i3]) :: (ga12_6, .row 3 1 (l.length + 1) (ic l ++ [Zi (h : Int)]) ca12_6) :: I3)) Mq (fun b hb => by unfold inL at hb ⊢; exact (((Zsl I3 Il).cons_cons _).cons_cons _ |>.map _).subset hb)
    refine Zoc (first := []) (cap := [.pointer (some ⟨ge.lo, 0, none⟩), .pointer (some ⟨ge.me, 0, none⟩), .pointer (some ⟨ge.hi, 0, none⟩), .pointer (some ⟨ge.ma, 0, none⟩), .pointer (some ⟨ge.gr, 0, none⟩)]) T rfl rfl rfl rfl (T.e 7 rfl) (.cons (T.e 0 rfl) (.cons (T.e 4 rfl) .nil)) Tryz.func132 rfl rfl ?_
    refine Calls.mono (ih1 wc _ (l ++ [(h : Int)]) _ _ _ _ _ _ _ _ _ [(ga12_6, .row 3 1 (l.length + 1) (ic l ++ [Zi (h : Int)]) ca12_6)] I3 (by simp) (by simp only [List.length_append, List.length_cons, List.length_nil]; omega) (hu.with (by omega)) hKs ⟨_, _, fun w ex => by rw [← ic_snoc]; exact Sp.row (by simp [ic_length])⟩ gx Mx) ?_
    clear T; rintro e wc ⟨Aur12_8, nur12_8, cur12_8, iur12_8, Iur12_8, rfl, hksur12_8, N⟩ ac T
    replace M := Mem.joinX (X := (ge.kb, .cells [.slice A3 n3 c3, .bool i3]) :: (ga12_6, .row 3 1 (l.length + 1) (ic l ++ [Zi (h : Int)]) ca12_6) :: I3) (F := Il) Mq N (fun b h => h)
    clear N Mq My Mx gx
    replace M : Mem w exq wc ((ge.kb, .cells [.slice Aur12_8 nur12_8 cur12_8, .bool iur12_8]) :: (Iur12_8 ++ Il)) := M
    refine Zso hK _ _ (M.perm [] rfl rfl) ?_; clear hK K
    refine gq (v := (.bool false)) T 9 1023 rfl (fun _ _ _ _ _ => (Zrq (rn_not rfl (T.e 0 rfl)) (by simp))) ?_; clear T ac; intro ac T
    refine Zgd (by kernel_rfl) ?_
    replace T := T.pick [0, 11, 12, 13, 14, 15, 16, 18, 19] rfl
    refine nm_then ?_
    refine wp_cond_false (T.e 0 rfl) ?_
    refine wp_skip ?_
    refine Znb ?_
    refine nm_then ?_
    refine wp_region_lit ?_
    refine lq T (rn_add rfl (T.e 8 rfl) evc (by omega)) ?_; clear T ac; intro ac T
    refine l_q (v := (Zi ((h : Int) + 1))) (T.pick [0, 1, 2, 3, 4, 5, 6, 7, 8] rfl) rfl rfl rfl rfl (Zrm rfl (T.e 0 rfl)) ?_; clear T ac; intro ac T
    replace T := T.pick [0, 3, 4, 5, 6, 7, 8, 9] rfl
    refine Zln ?_
    exact ⟨_, by omega, h + 1, Aur12_8, nur12_8, cur12_8, iur12_8, Iur12_8, rfl, (by omega), (by rw [stG_go (by omega) (goP_of hu (by omega) h5)]; exact hksur12_8), T.pick [1, 2, 3, 4, 5, 6, 7, 0] rfl, M⟩
   refine gi 183 ?_; intro K hK
   refine ow_bs (e := 3) [Zi (h : Int)] M T rfl rfl rfl rfl (.cons (T.e 2 rfl) .nil) (fun _ => by kernel_rfl) ?_; clear M T; intro gr12_5 wc ac M T
   refine Zso hK _ _ (M.perm [] rfl rfl) ?_; clear hK K
   refine gw 3 191 ?_; intro K hK
   replace M := M.permT [1, 0, 2] 3 rfl rfl rfl rfl
   refine ow_appS Tryz.info3 M T rfl rfl rfl rfl (fun g w => Tryz.append0i _ _ g _ w) Tryz.underlying33 rfl rfl rfl (by omega) (T.e 1 rfl) (T.e 4 rfl) (Sl0.rd M (.cons _ (.cons _ (.cons _ (Zsq _ _))))) (ic_one _) ?_; clear M T; intro Au12_3 cu12_3 Iu12_3 wc ac hSm12_3 M T
   replace M : Mem w exq wc ((gr12_5, .cells [Zi (h : Int)]) :: (ge.kb, .cells [.slice A3 n3 c3, .bool i3]) :: (I3 ++ Il ++ Iu12_3)) := M.swapI
   refine Zso hK _ _ (M.perm [] rfl rfl) ?_; clear hK K
   refine gw 6 255 ?_; intro K hK
   refine ow_appM (((gr12_5, .cells [Zi (h : Int)]) :: (ge.kb, .cells [.slice A3 n3 c3, .bool i3]) :: (I3 ++ Il))) Tryz.info3 hSm12_3 M (by first | rfl | simp) T rfl rfl rfl rfl Tryz.underlying33 rfl rfl rfl (by omega) (T.e 0 rfl) (T.e 1 rfl) (Zne (i := 0) rfl) rfl rfl ?_; clear M T; intro ga12_6 ca12_6 wc ac M T
   refine Zso hK _ _ (M.perm [] rfl rfl) ?_; clear hK K
   refine gw 8 511 ?_; intro K hK
   have Mq : Mem w exq wc ((ge.kb, .cells [.slice A3 n3 c3, .bool i3]) :: (ga12_6, .row 3 1 (l.length + 1) (ic l ++ [Zi (h : Int)]) ca12_6) :: (I3 ++ Il)) := M.permT [2, 0] 3 rfl rfl rfl rfl
   have My : Mem w exq wc ((ge.kb, .cells [.slice A3 n3 c3, .bool i3]) :: (ga12_6, .row 3 1 (l.length + 1) (ic l ++ [Zi (h : Int)]) ca12_6) :: I3) := Mq.sub ((Zsl I3 Il).cons_cons _ |>.cons_cons _)
   have Mx : Mem wc (inL ((ge.kb, .cells [.slice A3 n3 c3, .bool i3]) :: (ga12_6, .row 3 1 (l.length + 1) (ic l ++ [Zi (h : Int)]) ca12_6) :: I3)) wc ((ge.kb, .cells [.slice A3 n3 c3, .bool i3]) :: (I3 ++ [(ga12_6, .row 3 1 (l.length + 1) (ic l ++ [Zi (h : Int)]) ca12_6)])) := Mem.spin [(ge.kb, .cells [.slice A3 n3 c3, .bool i3])] [(ga12_6, .row 3 1 (l.length + 1) (ic l ++ [Zi (h : Int)]) ca12_6)] I3 My.rebase
   have gx := genv.move (ex' := inL ((ge.kb, .cells [.slice A3 n3 c3, .bool i3]) :: (ga12_6, .row 3 1 (l.length + 1) (ic l ++ [Zi (h : Int)]) ca12_6) :: I3)) Mq (fun b hb => by unfold inL at hb ⊢; exact (((Zsl I3 Il).cons_cons _).cons_cons _ |>.map _).subset hb)
   refine Zoc (first := []) (cap := [.pointer (some ⟨ge.lo, 0, none⟩), .pointer (some ⟨ge.me, 0, none⟩), .pointer (some ⟨ge.hi, 0, none⟩), .pointer (some ⟨ge.ma, 0, none⟩), .pointer (some ⟨ge.gr, 0, none⟩)]) T rfl rfl rfl rfl (T.e 7 rfl) (.cons (T.e 0 rfl) (.cons (T.e 4 rfl) .nil)) Tryz.func132 rfl rfl ?_
   refine Calls.mono (ih1 wc _ (l ++ [(h : Int)]) _ _ _ _ _ _ _ _ _ [(ga12_6, .row 3 1 (l.length + 1) (ic l ++ [Zi (h : Int)]) ca12_6)] I3 (by simp) (by simp only [List.length_append, List.length_cons, List.length_nil]; omega) (hu.with (by omega)) hKs ⟨_, _, fun w ex => by rw [← ic_snoc]; exact Sp.row (by simp [ic_length])⟩ gx Mx) ?_
   clear T; rintro e wc ⟨Aur12_8, nur12_8, cur12_8, iur12_8, Iur12_8, rfl, hksur12_8, N⟩ ac T
   replace M := Mem.joinX (X := (ge.kb, .cells [.slice A3 n3 c3, .bool i3]) :: (ga12_6, .row 3 1 (l.length + 1) (ic l ++ [Zi (h : Int)]) ca12_6) :: I3) (F := Il) Mq N (fun b h => h)
   clear N Mq My Mx gx
   replace M : Mem w exq wc ((ge.kb, .cells [.slice Aur12_8 nur12_8 cur12_8, .bool iur12_8]) :: (Iur12_8 ++ Il)) := M
   refine Zso hK _ _ (M.perm [] rfl rfl) ?_; clear hK K
   refine gq (v := (.bool false)) T 9 1023 rfl (fun _ _ _ _ _ => (Zrq (rn_not rfl (T.e 0 rfl)) (by simp))) ?_; clear T ac; intro ac T
   refine Zgd (by kernel_rfl) ?_
   replace T := T.pick [0, 11, 12, 13, 14, 15, 16, 18, 19] rfl
   refine nm_then ?_
   refine wp_cond_false (T.e 0 rfl) ?_
   refine wp_skip ?_
   refine Znb ?_
   refine nm_then ?_
   refine wp_region_lit ?_
   refine lq T (rn_add rfl (T.e 8 rfl) evc (by omega)) ?_; clear T ac; intro ac T
   refine l_q (v := (Zi ((h : Int) + 1))) (T.pick [0, 1, 2, 3, 4, 5, 6, 7, 8] rfl) rfl rfl rfl rfl (Zrm rfl (T.e 0 rfl)) ?_; clear T ac; intro ac T
   replace T := T.pick [0, 3, 4, 5, 6, 7, 8, 9] rfl
   refine Zln ?_
   exact ⟨_, by omega, h + 1, Aur12_8, nur12_8, cur12_8, iur12_8, Iur12_8, rfl, (by omega), (by rw [stG_go (by omega) (goP_of hu (by omega) h5)]; exact hksur12_8), T.pick [1, 2, 3, 4, 5, 6, 7, 0] rfl, M⟩
  refine gi 181 ?_; intro K hK
  refine ow_bs (e := 3) [Zi (h : Int)] M T rfl rfl rfl rfl (.cons (T.e 1 rfl) .nil) (fun _ => by kernel_rfl) ?_; clear M T; intro gr12_5 wc ac M T
  refine Zso hK _ _ (M.perm [] rfl rfl) ?_; clear hK K
  refine gw 1 183 ?_; intro K hK
  refine ow_bs0 (e := 3) M T rfl rfl rfl rfl (fun _ => by kernel_rfl) ?_; clear M T; intro gr12_1 wc ac M T
  refine Zso hK _ _ (M.perm [] rfl rfl) ?_; clear hK K
  refine gw 3 191 ?_; intro K hK
  refine ow_appS Tryz.info3 M T rfl rfl rfl rfl (fun g w => Tryz.append0i _ _ g _ w) Tryz.underlying33 rfl rfl rfl (by omega) (T.e 0 rfl) (T.e 4 rfl) (Sl0.rd M (.cons _ (.cons _ (.cons _ (Zsq _ _))))) (ic_one _) ?_; clear M T; intro Au12_3 cu12_3 Iu12_3 wc ac hSm12_3 M T
  replace M : Mem w exq wc ((gr12_5, .cells [Zi (h : Int)]) :: (ge.kb, .cells [.slice A3 n3 c3, .bool i3]) :: (I3 ++ Il ++ Iu12_3)) := M.swapI
  refine Zso hK _ _ (M.perm [] rfl rfl) ?_; clear hK K
  refine gw 6 255 ?_; intro K hK
  refine ow_appM (((gr12_5, .cells [Zi (h : Int)]) :: (ge.kb, .cells [.slice A3 n3 c3, .bool i3]) :: (I3 ++ Il))) Tryz.info3 hSm12_3 M (by first | rfl | simp) T rfl rfl rfl rfl Tryz.underlying33 rfl rfl rfl (by omega) (T.e 0 rfl) (T.e 2 rfl) (Zne (i := 0) rfl) rfl rfl ?_; clear M T; intro ga12_6 ca12_6 wc ac M T
  refine Zso hK _ _ (M.perm [] rfl rfl) ?_; clear hK K
  refine gw 8 511 ?_; intro K hK
  have Mq : Mem w exq wc ((ge.kb, .cells [.slice A3 n3 c3, .bool i3]) :: (ga12_6, .row 3 1 (l.length + 1) (ic l ++ [Zi (h : Int)]) ca12_6) :: (I3 ++ Il)) := M.permT [2, 0] 3 rfl rfl rfl rfl
  have My : Mem w exq wc ((ge.kb, .cells [.slice A3 n3 c3, .bool i3]) :: (ga12_6, .row 3 1 (l.length + 1) (ic l ++ [Zi (h : Int)]) ca12_6) :: I3) := Mq.sub ((Zsl I3 Il).cons_cons _ |>.cons_cons _)
  have Mx : Mem wc (inL ((ge.kb, .cells [.slice A3 n3 c3, .bool i3]) :: (ga12_6, .row 3 1 (l.length + 1) (ic l ++ [Zi (h : Int)]) ca12_6) :: I3)) wc ((ge.kb, .cells [.slice A3 n3 c3, .bool i3]) :: (I3 ++ [(ga12_6, .row 3 1 (l.length + 1) (ic l ++ [Zi (h : Int)]) ca12_6)])) := Mem.spin [(ge.kb, .cells [.slice A3 n3 c3, .bool i3])] [(ga12_6, .row 3 1 (l.length + 1) (ic l ++ [Zi (h : Int)]) ca12_6)] I3 My.rebase
  have gx := genv.move (ex' := inL ((ge.kb, .cells [.slice A3 n3 c3, .bool i3]) :: (ga12_6, .row 3 1 (l.length + 1) (ic l ++ [Zi (h : Int)]) ca12_6) :: I3)) Mq (fun b hb => by unfold inL at hb ⊢; exact (((Zsl I3 Il).cons_cons _).cons_cons _ |>.map _).subset hb)
  refine Zoc (first := []) (cap := [.pointer (some ⟨ge.lo, 0, none⟩), .pointer (some ⟨ge.me, 0, none⟩), .pointer (some ⟨ge.hi, 0, none⟩), .pointer (some ⟨ge.ma, 0, none⟩), .pointer (some ⟨ge.gr, 0, none⟩)]) T rfl rfl rfl rfl (T.e 7 rfl) (.cons (T.e 0 rfl) (.cons (T.e 4 rfl) .nil)) Tryz.func132 rfl rfl ?_
  refine Calls.mono (ih1 wc _ (l ++ [(h : Int)]) _ _ _ _ _ _ _ _ _ [(ga12_6, .row 3 1 (l.length + 1) (ic l ++ [Zi (h : Int)]) ca12_6)] I3 (by simp) (by simp only [List.length_append, List.length_cons, List.length_nil]; omega) (hu.with (by omega)) hKs ⟨_, _, fun w ex => by rw [← ic_snoc]; exact Sp.row (by simp [ic_length])⟩ gx Mx) ?_
  clear T; rintro e wc ⟨Aur12_8, nur12_8, cur12_8, iur12_8, Iur12_8, rfl, hksur12_8, N⟩ ac T
  replace M := Mem.joinX (X := (ge.kb, .cells [.slice A3 n3 c3, .bool i3]) :: (ga12_6, .row 3 1 (l.length + 1) (ic l ++ [Zi (h : Int)]) ca12_6) :: I3) (F := Il) Mq N (fun b h => h)
  clear N Mq My Mx gx
  replace M : Mem w exq wc ((ge.kb, .cells [.slice Aur12_8 nur12_8 cur12_8, .bool iur12_8]) :: (Iur12_8 ++ Il)) := M
  refine Zso hK _ _ (M.perm [] rfl rfl) ?_; clear hK K
  refine gq (v := (.bool false)) T 9 1023 rfl (fun _ _ _ _ _ => (Zrq (rn_not rfl (T.e 0 rfl)) (by simp))) ?_; clear T ac; intro ac T
  refine Zgd (by kernel_rfl) ?_
  replace T := T.pick [0, 11, 12, 13, 14, 15, 16, 18, 19] rfl
  refine nm_then ?_
  refine wp_cond_false (T.e 0 rfl) ?_
  refine wp_skip ?_
  refine Znb ?_
  refine nm_then ?_
  refine wp_region_lit ?_
  refine lq T (rn_add rfl (T.e 8 rfl) evc (by omega)) ?_; clear T ac; intro ac T
  refine l_q (v := (Zi ((h : Int) + 1))) (T.pick [0, 1, 2, 3, 4, 5, 6, 7, 8] rfl) rfl rfl rfl rfl (Zrm rfl (T.e 0 rfl)) ?_; clear T ac; intro ac T
  replace T := T.pick [0, 3, 4, 5, 6, 7, 8, 9] rfl
  refine Zln ?_
  exact ⟨_, by omega, h + 1, Aur12_8, nur12_8, cur12_8, iur12_8, Iur12_8, rfl, (by omega), (by rw [stG_go (by omega) (goP_of hu (by omega) h5)]; exact hksur12_8), T.pick [1, 2, 3, 4, 5, 6, 7, 0] rfl, M⟩
 intro h2
 rw [stG_end (by omega)] at hKs
 refine wp_exit ?_
 refine Zet ?_
 refine Zet ?_
 refine ex_hit ?_
 refine nm_then ?_
 refine Zsr ?_
 refine lq T (Zra rfl evc) ?_; clear T ac; intro ac T
 replace T := T.pick [0] rfl
 refine Zln ?_
 refine wp_ret ?_
 refine rt_ng ?_
 refine rt_1 T rfl (T.e 0 rfl) ?_
 exact ⟨A3, n3, c3, i3, I3, rfl, hKs, M.sub (.cons_cons _ (Zsl _ _))⟩
theorem grow_any (ge : GE) (may : Nat → Nat → Bool) (hlo : ge.lows ≤ 4) (hhi : ge.highs ≤ 5) (hmay : MayOk ge may) : ∀ r : Nat, GrowSpec ge may r
 | 0 => fun w exq l A m c used bo Ab nb cb is Il Ib hm hlr hu hks hl genv M0 => by
  subst hm
  exact grow_step ge may 0 exq l A c used bo Ab nb cb is Il Ib w hlo hhi hmay (fun _ h => by cases h) hlr hu hks hl genv M0
 | r + 1 => fun w exq l A m c used bo Ab nb cb is Il Ib hm hlr hu hks hl genv M0 => by
  subst hm
  exact grow_step ge may (r + 1) exq l A c used bo Ab nb cb is Il Ib w hlo hhi hmay (fun r' h => by injection h with h; subst h; exact grow_any ge may hlo hhi hmay _) hlr hu hks hl genv M0
def PairPost (kb : Nat) (best : Option (List Int)) (w : World) (e : Ending) (w' : World) : Prop :=
 ∃ A n c is I, e = .returned (.tuple #[]) ∧ KS best A n is I ∧ Mem w (fun b => b = kb) w' ((kb, .cells [.slice A n c, .bool is]) :: I)
def MostPost (l : List Int) (w : World) (e : Ending) (w' : World) : Prop := ∃ A c I, e = .returned (.slice A l.length c) ∧ l.length ≤ 5 ∧ (∃ b o, ∀ (w : World) (ex : Nat → Prop), Sp w ex I A l.length 1 b o (ic l)) ∧ Mem w noEx w' I
theorem pairings_any (lows highs kb mb tb fo : Nat) (A : Option Addr) (c : Nat) (LL : List LE) (may : Nat → Nat → Bool) (w : World) (hlo : lows ≤ 4) (hhi : highs ≤ 5) (hmay : ∀ lo me hi ma gr, MayOk ⟨lo, me, hi, ma, gr, kb, mb, tb, fo, lows, highs, A, c, LL⟩ may) (hmb : Old w (fun b => b = kb) mb [.func (.func fo) #[] #[]]) (htb : Old w (fun b => b = kb) tb [.slice A LL.length c]) (hA : ∃ b o, Sp w (fun b => b = kb) [] A LL.length 1 b o (lc LL)) (hE : ∀ x ∈ LL, ∃ b o, Sp w (fun b => b = kb) [] x.2.1 x.1.length 1 b o (ic x.1)) (hk : Bk w kb #[.slice none 0 0, .bool false]) :
  Calls Tryz.prog 104 #[Zi ((lows : Nat) : Int), Zi ((highs : Nat) : Int), .func (.func 105) #[] #[Zj mb, Zj tb], .func (.func 106) #[] #[Zj kb]] w (PairPost kb (growP may highs lows [] none) w) := by
 refine Zpx (fun b => b = kb) Tryz.func104 rfl 12 rfl [Zi ((lows : Nat) : Int), Zi ((highs : Nat) : Int), .func (.func 105) #[] #[Zj mb, Zj tb], .func (.func 106) #[] #[Zj kb]] rfl rfl (Mem.initEx (p := .cells [.slice none 0 0, .bool false]) hk) ?_
 intro ac wc T M
 refine Zsr ?_
 refine Zl2 ?_
 refine Zob M T rfl rfl rfl rfl (T.e 0 rfl) rfl ?_; clear M T; intro g1 wc ac M T
 refine Zl2 ?_
 refine Zob M T rfl rfl rfl rfl (T.e 2 rfl) rfl ?_; clear M T; intro g2 wc ac M T
 refine Zl2 ?_
 refine Zob M T rfl rfl rfl rfl (T.e 4 rfl) rfl ?_; clear M T; intro g3 wc ac M T
 refine Zl2 ?_
 refine Zob M T rfl rfl rfl rfl (T.e 6 rfl) rfl ?_; clear M T; intro g4 wc ac M T
 replace T := T.pick [0, 1, 2, 3] rfl
 refine Zln ?_
 refine Zsr ?_
 refine Zl2 ?_
 refine Zoa M T rfl rfl rfl rfl ?_; clear M T; intro g5 wc ac M T
 refine Zln ?_
 refine Zsr ?_
 refine lq (v := (.func (.func 132) #[] #[Zj g1, Zj g4, Zj g2, Zj g3, Zj g5])) T (rn_makeFunc rfl .nil (.cons (T.e 4 rfl) (.cons (T.e 1 rfl) (.cons (T.e 3 rfl) (.cons (T.e 2 rfl) (.cons (T.e 0 rfl) .nil)))))) ?_; clear T ac; intro ac T
 refine Zl2 ?_
 refine Zos M T rfl rfl (T.e 1 rfl) (T.e 0 rfl) rfl .head rfl (by simp) rfl (by kernel_rfl) ?_; clear M T; intro wc ac M T
 replace T := T.pick [1] rfl
 refine Zln ?_
 refine wp_region_lit ?_
 refine lq T (Zro (Mem.nth M 0 rfl) rfl (T.e 0 rfl) rfl) ?_; clear T ac; intro ac T
 refine Zl2 ?_
 have Mq : Mem w (fun b => b = kb) wc ([(kb, .cells [.slice none 0 0, .bool false])] ++ [(g1, .cells [Zi ((lows : Nat) : Int)]), (g4, .cells [.func (.func 106) #[] #[Zj kb]]), (g2, .cells [Zi ((highs : Nat) : Int)]), (g3, .cells [.func (.func 105) #[] #[Zj mb, Zj tb]]), (g5, .cells [.func (.func 132) #[] #[Zj g1, Zj g4, Zj g2, Zj g3, Zj g5]])]) := M.perm [5, 4, 1, 3, 2, 0] rfl rfl
 have hi0 : ∀ b, inL [(kb, .cells [.slice none 0 0, .bool false])] b → inL ([(kb, .cells [.slice none 0 0, .bool false])] ++ [(g1, .cells [Zi ((lows : Nat) : Int)]), (g4, .cells [.func (.func 106) #[] #[Zj kb]]), (g2, .cells [Zi ((highs : Nat) : Int)]), (g3, .cells [.func (.func 105) #[] #[Zj mb, Zj tb]]), (g5, .cells [.func (.func 132) #[] #[Zj g1, Zj g4, Zj g2, Zj g3, Zj g5]])]) b := fun b hb => by unfold inL at hb ⊢; exact ((Zsl _ _).map _).subset hb
 have gx : GEnv (⟨g1, g4, g2, g3, g5, kb, mb, tb, fo, lows, highs, A, c, LL⟩ : GE) wc (inL [(kb, .cells [.slice none 0 0, .bool false])]) := ⟨Old.of Mq (fun _ h => h) (Zne (i := 0) rfl), Old.of Mq (fun _ h => h) (Zne (i := 1) rfl), Old.of Mq (fun _ h => h) (Zne (i := 2) rfl), Old.of Mq (fun _ h => h) (Zne (i := 3) rfl), Old.of Mq (fun _ h => h) (Zne (i := 4) rfl), hmb.move Mq hi0, htb.move Mq hi0, (by obtain ⟨b9, o9, h9⟩ := hA; exact ⟨b9, o9, h9.move Mq hi0⟩), fun x hx => (by obtain ⟨b9, o9, h9⟩ := hE x hx; exact ⟨b9, o9, h9.move Mq hi0⟩)⟩
 have My : Mem w (fun b => b = kb) wc [(kb, .cells [.slice none 0 0, .bool false])] := Mq.sub (Zsl _ _)
 refine Zoc (first := []) (cap := [Zj g1, Zj g4, Zj g2, Zj g3, Zj g5]) T rfl rfl rfl rfl (T.e 0 rfl) (.cons evc (.cons evc .nil)) Tryz.func132 rfl rfl ?_
 refine Calls.mono (grow_any (⟨g1, g4, g2, g3, g5, kb, mb, tb, fo, lows, highs, A, c, LL⟩ : GE) may hlo hhi (hmay _ _ _ _ _) lows wc _ [] none 0 0 0 none none 0 0 false [] [] rfl (by simp) UsedOk.nil (KS.nil _) ⟨0, 0, fun _ _ => Sp.nil⟩ gx My.rebase) ?_
 clear T; rintro e wc ⟨Au1, nu1, cu1, iu1, Iu1, rfl, hksu1, N⟩ ac T
 replace M := Mem.joinX (X := [(kb, .cells [.slice none 0 0, .bool false])]) (F := []) My N (fun b h => h)
 clear N Mq My gx
 rw [List.append_nil] at M
 replace M : Mem w (fun b => b = kb) wc ((kb, .cells [.slice Au1 nu1 cu1, .bool iu1]) :: Iu1) := M
 refine wpList_nil ?_
 replace T := T.pick [] rfl
 refine nm_0 T rfl ?_
 exact ⟨Au1, nu1, cu1, iu1, Iu1, rfl, hksu1, M⟩
theorem lc_at {LL : List LE} {T : List (List Int)} (h : LL.map (·.1) = T) {i : Nat} (hi : i < T.length) : ∃ B d, LL[i]? = some (T.getD i [], B, d) := by
 subst h
 have hi' : i < LL.length := by simpa using hi
 refine ⟨LL[i].2.1, LL[i].2.2, ?_⟩
 rw [List.getElem?_eq_getElem hi']
 congr 1
 have : (LL.map (·.1)).getD i [] = LL[i].1 := by rw [List.getD_eq_getElem?_getD, List.getElem?_map, List.getElem?_eq_getElem hi']; rfl
 rw [this]
theorem tableP_len (b : Bx) : (tableP b).length = b.lows.length ∧ ∀ x ∈ tableP b, x.length = b.highs.length := by
 refine ⟨by simp [tableP], fun x hx => ?_⟩
 obtain ⟨y, _, rfl⟩ := List.mem_map.1 hx
 exact rowP_length b y
def okA (v : Int) : Bool := decide (v = 1)
def okM (v : Int) : Bool := !decide (v = 2)
theorem mayok_always {T : List (List Int)} {lows highs : Nat} {LL : List LE} (h : LL.map (·.1) = T) (hl : T.length = lows) (hh : ∀ x ∈ T, x.length = highs) (lo me hi ma gr kb mb tb : Nat) (A : Option Addr) (c : Nat) :
   MayOk ⟨lo, me, hi, ma, gr, kb, mb, tb, 56, lows, highs, A, c, LL⟩ (tabP T okA) := fun w i k g hi' hk' => by
 have hi2 : i < T.length := by rw [hl]; exact hi'
 obtain ⟨B, d, hx⟩ := lc_at h hi2
 have hxT : T.getD i [] ∈ T := by rw [List.getD_eq_getElem?_getD, List.getElem?_eq_getElem hi2]; exact List.getElem_mem _
 have hk2 : k < (T.getD i []).length := by rw [hh _ hxT]; exact hk'
 have hy : (T.getD i [])[k]? = some ((T.getD i []).getD k 0) := by rw [List.getD_eq_getElem?_getD (l := T.getD i []), List.getElem?_eq_getElem hk2]; rfl
 obtain ⟨b1, o1, S1⟩ := g.sp
 obtain ⟨b2, o2, S2⟩ := g.els _ (List.mem_of_getElem? hx)
 exact may_always mb tb A c LL i k (T.getD i []) B d ((T.getD i []).getD k 0) w g.mb.1 g.tb.1 (S1.rd (Mem.init w _) (List.Sublist.refl _)) hx (S2.rd (Mem.init w _) (List.Sublist.refl _)) hy
theorem mayok_maybe {T : List (List Int)} {lows highs : Nat} {LL : List LE} (h : LL.map (·.1) = T) (hl : T.length = lows) (hh : ∀ x ∈ T, x.length = highs) (lo me hi ma gr kb mb tb : Nat) (A : Option Addr) (c : Nat) :
   MayOk ⟨lo, me, hi, ma, gr, kb, mb, tb, 66, lows, highs, A, c, LL⟩ (tabP T okM) := fun w i k g hi' hk' => by
 have hi2 : i < T.length := by rw [hl]; exact hi'
 obtain ⟨B, d, hx⟩ := lc_at h hi2
 have hxT : T.getD i [] ∈ T := by rw [List.getD_eq_getElem?_getD, List.getElem?_eq_getElem hi2]; exact List.getElem_mem _
 have hk2 : k < (T.getD i []).length := by rw [hh _ hxT]; exact hk'
 have hy : (T.getD i [])[k]? = some ((T.getD i []).getD k 0) := by rw [List.getD_eq_getElem?_getD (l := T.getD i []), List.getElem?_eq_getElem hk2]; rfl
 obtain ⟨b1, o1, S1⟩ := g.sp
 obtain ⟨b2, o2, S2⟩ := g.els _ (List.mem_of_getElem? hx)
 exact may_maybe mb tb A c LL i k (T.getD i []) B d ((T.getD i []).getD k 0) w g.mb.1 g.tb.1 (S1.rd (Mem.init w _) (List.Sublist.refl _)) hx (S2.rd (Mem.init w _) (List.Sublist.refl _)) hy
theorem most_always (b : Bx) (A : Option Addr) (c : Nat) (B : Option Addr) (d : Nat) (w : World) (hA : Rd w w.heap.size 4 A b.lows.length (sc b.lows)) (hB : Rd w w.heap.size 4 B b.highs.length (sc b.highs)) (gb : b.good) :
  Calls Tryz.prog 55 #[bxV b A c B d, .func (.func 56) #[] #[]] w (MostPost (mostP (tableP b) okA b.lows.length b.highs.length) w) := by
 have hlA := hA.len4
 have hlB := hB.len4
 obtain ⟨bA, oA, SA⟩ := Sp.old hA
 obtain ⟨bB, oB, SB⟩ := Sp.old hB
 refine Zpx noEx Tryz.func55 rfl 20 rfl [.agg #[Zi b.first, Zi b.step, Zi b.span, Zi b.press, Zi b.note, .slice A b.lows.length c, .slice B b.highs.length d, Zi b.t0, Zi b.t1, Zi b.r0, Zi b.r1, Zi b.u0, Zi b.u1, Zi b.d0, Zi b.d1, Zi b.a0, Zi b.a1, Zi b.b0, Zi b.b1, Zi b.le, Zi b.me], .func (.func 56) #[] #[]] rfl rfl (Mem.init w _) ?_
 intro ac wc T M
 refine Zsr ?_
 refine Zl2 ?_
 refine Zob M T rfl rfl rfl rfl (T.e 0 rfl) rfl ?_; clear M T; intro g1 wc ac M T
 refine Zl2 ?_
 refine Zob M T rfl rfl rfl rfl (T.e 2 rfl) rfl ?_; clear M T; intro g2 wc ac M T
 refine lq T (Zra rfl evc) ?_; clear T ac; intro ac T
 replace T := T.pick [1, 2] rfl
 refine Zln ?_
 refine Zsr ?_
 refine lq T (Zrr (Mem.nth M 1 rfl) rfl (T.e 1 rfl) rfl) ?_; clear T ac; intro ac T
 refine Zl2 ?_
 refine Zoc (first := []) (cap := []) T rfl rfl rfl rfl evf (.cons (T.e 0 rfl) .nil) Tryz.func59 rfl rfl ?_
 refine Calls.mono (table_any b A c B d _ (SA.rd M (Zz9 _)) (SB.rd M (Zz9 _)) gb) ?_
 clear T; rintro e wc ⟨Au1, cu1, LLu1, Iu1, rfl, hLu1, hSu1, hEu1, N⟩ ac T
 replace M := (M.join N).swapI
 replace M : Mem w noEx wc ((g2, .cells [.func (.func 56) #[] #[]]) :: (g1, .cells [Zi b.first, Zi b.step, Zi b.span, Zi b.press, Zi b.note, .slice A b.lows.length c, .slice B b.highs.length d, Zi b.t0, Zi b.t1, Zi b.r0, Zi b.r1, Zi b.u0, Zi b.u1, Zi b.d0, Zi b.d1, Zi b.a0, Zi b.a1, Zi b.b0, Zi b.b1, Zi b.le, Zi b.me]) :: Iu1) := M
 clear N
 refine Zl2 ?_
 refine Zoa M T rfl rfl rfl rfl ?_; clear M T; intro g3 wc ac M T
 refine Zl2 ?_
 refine Zos M T rfl rfl (T.e 0 rfl) (T.e 1 rfl) rfl .head rfl (by simp) rfl (by kernel_rfl) ?_; clear M T; intro wc ac M T
 replace T := T.pick [0, 3, 4] rfl
 refine Zln ?_
 refine Zsr ?_
 refine Zl2 ?_
 refine Zoa M T rfl rfl rfl rfl ?_; clear M T; intro g4 wc ac M T
 refine Zln ?_
 refine Zsr ?_
 refine Zg8 (v1 := (.pointer (some ⟨g1, 5, none⟩))) (v4 := (.pointer (some ⟨g1, 6, none⟩))) (v7 := (.func (.func 105) #[] #[Zj g2, Zj g3])) (v8 := (.func (.func 106) #[] #[Zj g4])) T (Zq (Zrf (off := 5) rfl (T.e 3 rfl) (fun _ _ _ => by kernel_rfl))) rfl (Zo M 3 0 rfl rfl rfl rfl) rfl (Zl Tryz.underlying24 0 rfl rfl) rfl (Zf 6 6 rfl rfl) rfl (Zo M 3 0 rfl rfl rfl rfl) rfl (Zl Tryz.underlying24 0 rfl rfl) rfl (fun _ T => Zq (rn_makeFunc rfl .nil (.cons (T.e 8 rfl) (.cons (T.e 7 rfl) .nil)))) rfl (fun _ T => Zq (rn_makeFunc rfl .nil (.cons (T.e 7 rfl) .nil))) rfl ?_; clear T ac; intro ac T
 refine Zl2 ?_
 have Mq : Mem w noEx wc ([(g4, .cells [.slice none 0 0, .bool false])] ++ ((g3, .cells [.slice Au1 LLu1.length cu1]) :: (g2, .cells [.func (.func 56) #[] #[]]) :: (g1, .cells [Zi b.first, Zi b.step, Zi b.span, Zi b.press, Zi b.note, .slice A b.lows.length c, .slice B b.highs.length d, Zi b.t0, Zi b.t1, Zi b.r0, Zi b.r1, Zi b.u0, Zi b.u1, Zi b.d0, Zi b.d1, Zi b.a0, Zi b.a1, Zi b.b0, Zi b.b1, Zi b.le, Zi b.me]) :: Iu1)) := M.permT [0, 1, 2, 3] 4 rfl rfl rfl rfl
 have hi0 : ∀ b, (fun b => b = g4) b → inL [(g4, .cells [.slice none 0 0, .bool false])] b := fun b hb => by subst hb; exact Zz2
 refine Zoc (first := []) (cap := []) T rfl rfl rfl rfl evf (.cons (T.e 5 rfl) (.cons (T.e 2 rfl) (.cons (T.e 1 rfl) (.cons (T.e 0 rfl) .nil)))) Tryz.func104 rfl rfl ?_
 refine Calls.mono (pairings_any b.lows.length b.highs.length g4 g2 g3 56 Au1 cu1 LLu1 (tabP (tableP b) okA) _ gb.lows.1 gb.highs.1 (fun _ _ _ _ _ => mayok_always hLu1 (tableP_len b).1 (tableP_len b).2 _ _ _ _ _ _ _ _ _ _) (Old.of Mq hi0 (Zne (i := 1) rfl)) (Old.of Mq hi0 (Zne (i := 0) rfl)) (by obtain ⟨b9, o9, h9⟩ := hSu1; exact ⟨b9, o9, Sp.of Mq hi0 (h9 w noEx) (.cons _ (.cons _ (.cons _ (List.Sublist.refl _))))⟩) (fun x hx => by obtain ⟨b9, o9, h9⟩ := hEu1 x hx; exact ⟨b9, o9, Sp.of Mq hi0 (h9 w noEx) (.cons _ (.cons _ (.cons _ (List.Sublist.refl _))))⟩) (M.nth 0 rfl)) ?_
 clear T; rintro e wc ⟨Au2, nu2, cu2, iu2, Iu2, rfl, hksu2, N⟩ ac T
 replace M := (Mem.joinX (X := [(g4, .cells [.slice none 0 0, .bool false])]) (F := ((g3, .cells [.slice Au1 LLu1.length cu1]) :: (g2, .cells [.func (.func 56) #[] #[]]) :: (g1, .cells [Zi b.first, Zi b.step, Zi b.span, Zi b.press, Zi b.note, .slice A b.lows.length c, .slice B b.highs.length d, Zi b.t0, Zi b.t1, Zi b.r0, Zi b.r1, Zi b.u0, Zi b.u1, Zi b.d0, Zi b.d1, Zi b.a0, Zi b.a1, Zi b.b0, Zi b.b1, Zi b.le, Zi b.me]) :: Iu1)) Mq N hi0).sub (Zsl _ _)
 clear N Mq
 replace M : Mem w noEx wc ((g4, .cells [.slice Au2 nu2 cu2, .bool iu2]) :: Iu2) := M
 replace T := T.pick [9] rfl
 refine Zln ?_
 refine Zsr ?_
 refine Zg3 (v1 := (Zj g4)) T (Zq (Zrf (off := 0) rfl (T.e 0 rfl) (fun _ _ _ => by kernel_rfl))) rfl (Zo M 0 0 rfl rfl rfl rfl) rfl (Za 0 rfl rfl) rfl ?_; clear T ac; intro ac T
 refine wpList_nil ?_
 replace T := T.pick [0] rfl
 replace M := M.mask [false] rfl
 refine Znr ?_
 refine rt_1 T rfl (T.e 0 rfl) ?_
 obtain ⟨hn1, hn2, hn3, hn4⟩ := hksu2
 subst hn1
 refine ⟨Au2, cu2, Iu2, rfl, hn2, hn4, M⟩
theorem most_maybe (b : Bx) (A : Option Addr) (c : Nat) (B : Option Addr) (d : Nat) (w : World) (hA : Rd w w.heap.size 4 A b.lows.length (sc b.lows)) (hB : Rd w w.heap.size 4 B b.highs.length (sc b.highs)) (gb : b.good) :
  Calls Tryz.prog 55 #[bxV b A c B d, .func (.func 66) #[] #[]] w (MostPost (mostP (tableP b) okM b.lows.length b.highs.length) w) := by
 have hlA := hA.len4
 have hlB := hB.len4
 obtain ⟨bA, oA, SA⟩ := Sp.old hA
 obtain ⟨bB, oB, SB⟩ := Sp.old hB
 refine Zpx noEx Tryz.func55 rfl 20 rfl [.agg #[Zi b.first, Zi b.step, Zi b.span, Zi b.press, Zi b.note, .slice A b.lows.length c, .slice B b.highs.length d, Zi b.t0, Zi b.t1, Zi b.r0, Zi b.r1, Zi b.u0, Zi b.u1, Zi b.d0, Zi b.d1, Zi b.a0, Zi b.a1, Zi b.b0, Zi b.b1, Zi b.le, Zi b.me], .func (.func 66) #[] #[]] rfl rfl (Mem.init w _) ?_
 intro ac wc T M
 refine Zsr ?_
 refine Zl2 ?_
 refine Zob M T rfl rfl rfl rfl (T.e 0 rfl) rfl ?_; clear M T; intro g1 wc ac M T
 refine Zl2 ?_
 refine Zob M T rfl rfl rfl rfl (T.e 2 rfl) rfl ?_; clear M T; intro g2 wc ac M T
 refine lq T (Zra rfl evc) ?_; clear T ac; intro ac T
 replace T := T.pick [1, 2] rfl
 refine Zln ?_
 refine Zsr ?_
 refine lq T (Zrr (Mem.nth M 1 rfl) rfl (T.e 1 rfl) rfl) ?_; clear T ac; intro ac T
 refine Zl2 ?_
 refine Zoc (first := []) (cap := []) T rfl rfl rfl rfl evf (.cons (T.e 0 rfl) .nil) Tryz.func59 rfl rfl ?_
 refine Calls.mono (table_any b A c B d _ (SA.rd M (Zz9 _)) (SB.rd M (Zz9 _)) gb) ?_
 clear T; rintro e wc ⟨Au1, cu1, LLu1, Iu1, rfl, hLu1, hSu1, hEu1, N⟩ ac T
 replace M := (M.join N).swapI
 replace M : Mem w noEx wc ((g2, .cells [.func (.func 66) #[] #[]]) :: (g1, .cells [Zi b.first, Zi b.step, Zi b.span, Zi b.press, Zi b.note, .slice A b.lows.length c, .slice B b.highs.length d, Zi b.t0, Zi b.t1, Zi b.r0, Zi b.r1, Zi b.u0, Zi b.u1, Zi b.d0, Zi b.d1, Zi b.a0, Zi b.a1, Zi b.b0, Zi b.b1, Zi b.le, Zi b.me]) :: Iu1) := M
 clear N
 refine Zl2 ?_
 refine Zoa M T rfl rfl rfl rfl ?_; clear M T; intro g3 wc ac M T
 refine Zl2 ?_
 refine Zos M T rfl rfl (T.e 0 rfl) (T.e 1 rfl) rfl .head rfl (by simp) rfl (by kernel_rfl) ?_; clear M T; intro wc ac M T
 replace T := T.pick [0, 3, 4] rfl
 refine Zln ?_
 refine Zsr ?_
 refine Zl2 ?_
 refine Zoa M T rfl rfl rfl rfl ?_; clear M T; intro g4 wc ac M T
 refine Zln ?_
 refine Zsr ?_
 refine Zg8 (v1 := (.pointer (some ⟨g1, 5, none⟩))) (v4 := (.pointer (some ⟨g1, 6, none⟩))) (v7 := (.func (.func 105) #[] #[Zj g2, Zj g3])) (v8 := (.func (.func 106) #[] #[Zj g4])) T (Zq (Zrf (off := 5) rfl (T.e 3 rfl) (fun _ _ _ => by kernel_rfl))) rfl (Zo M 3 0 rfl rfl rfl rfl) rfl (Zl Tryz.underlying24 0 rfl rfl) rfl (Zf 6 6 rfl rfl) rfl (Zo M 3 0 rfl rfl rfl rfl) rfl (Zl Tryz.underlying24 0 rfl rfl) rfl (fun _ T => Zq (rn_makeFunc rfl .nil (.cons (T.e 8 rfl) (.cons (T.e 7 rfl) .nil)))) rfl (fun _ T => Zq (rn_makeFunc rfl .nil (.cons (T.e 7 rfl) .nil))) rfl ?_; clear T ac; intro ac T
 refine Zl2 ?_
 have Mq : Mem w noEx wc ([(g4, .cells [.slice none 0 0, .bool false])] ++ ((g3, .cells [.slice Au1 LLu1.length cu1]) :: (g2, .cells [.func (.func 66) #[] #[]]) :: (g1, .cells [Zi b.first, Zi b.step, Zi b.span, Zi b.press, Zi b.note, .slice A b.lows.length c, .slice B b.highs.length d, Zi b.t0, Zi b.t1, Zi b.r0, Zi b.r1, Zi b.u0, Zi b.u1, Zi b.d0, Zi b.d1, Zi b.a0, Zi b.a1, Zi b.b0, Zi b.b1, Zi b.le, Zi b.me]) :: Iu1)) := M.permT [0, 1, 2, 3] 4 rfl rfl rfl rfl
 have hi0 : ∀ b, (fun b => b = g4) b → inL [(g4, .cells [.slice none 0 0, .bool false])] b := fun b hb => by subst hb; exact Zz2
 refine Zoc (first := []) (cap := []) T rfl rfl rfl rfl evf (.cons (T.e 5 rfl) (.cons (T.e 2 rfl) (.cons (T.e 1 rfl) (.cons (T.e 0 rfl) .nil)))) Tryz.func104 rfl rfl ?_
 refine Calls.mono (pairings_any b.lows.length b.highs.length g4 g2 g3 66 Au1 cu1 LLu1 (tabP (tableP b) okM) _ gb.lows.1 gb.highs.1 (fun _ _ _ _ _ => mayok_maybe hLu1 (tableP_len b).1 (tableP_len b).2 _ _ _ _ _ _ _ _ _ _) (Old.of Mq hi0 (Zne (i := 1) rfl)) (Old.of Mq hi0 (Zne (i := 0) rfl)) (by obtain ⟨b9, o9, h9⟩ := hSu1; exact ⟨b9, o9, Sp.of Mq hi0 (h9 w noEx) (.cons _ (.cons _ (.cons _ (List.Sublist.refl _))))⟩) (fun x hx => by obtain ⟨b9, o9, h9⟩ := hEu1 x hx; exact ⟨b9, o9, Sp.of Mq hi0 (h9 w noEx) (.cons _ (.cons _ (.cons _ (List.Sublist.refl _))))⟩) (M.nth 0 rfl)) ?_
 clear T; rintro e wc ⟨Au2, nu2, cu2, iu2, Iu2, rfl, hksu2, N⟩ ac T
 replace M := (Mem.joinX (X := [(g4, .cells [.slice none 0 0, .bool false])]) (F := ((g3, .cells [.slice Au1 LLu1.length cu1]) :: (g2, .cells [.func (.func 66) #[] #[]]) :: (g1, .cells [Zi b.first, Zi b.step, Zi b.span, Zi b.press, Zi b.note, .slice A b.lows.length c, .slice B b.highs.length d, Zi b.t0, Zi b.t1, Zi b.r0, Zi b.r1, Zi b.u0, Zi b.u1, Zi b.d0, Zi b.d1, Zi b.a0, Zi b.a1, Zi b.b0, Zi b.b1, Zi b.le, Zi b.me]) :: Iu1)) Mq N hi0).sub (Zsl _ _)
 clear N Mq
 replace M : Mem w noEx wc ((g4, .cells [.slice Au2 nu2 cu2, .bool iu2]) :: Iu2) := M
 replace T := T.pick [9] rfl
 refine Zln ?_
 refine Zsr ?_
 refine Zg3 (v1 := (Zj g4)) T (Zq (Zrf (off := 0) rfl (T.e 0 rfl) (fun _ _ _ => by kernel_rfl))) rfl (Zo M 0 0 rfl rfl rfl rfl) rfl (Za 0 rfl rfl) rfl ?_; clear T ac; intro ac T
 refine wpList_nil ?_
 replace T := T.pick [0] rfl
 replace M := M.mask [false] rfl
 refine Znr ?_
 refine rt_1 T rfl (T.e 0 rfl) ?_
 obtain ⟨hn1, hn2, hn3, hn4⟩ := hksu2
 subst hn1
 refine ⟨Au2, cu2, Iu2, rfl, hn2, hn4, M⟩
def moreP (up : Int) : List Int → Nat → Int
 | [], _ => up
 | v :: r, h => moreP (if v = 1 then withI up h else up) r (h + 1)
def shortP (T : List (List Int)) (n : Nat) : Nat → List Int → Nat → Int → Option (List Int)
 | 0, l, _, up => if sizeI up < l.length then some l else none
 | k + 1, l, first, up => (List.range' first (n - first)).findSome? fun (i : Nat) => shortP T n k (l ++ [(i : Int)]) (i + 1) (moreP up (T.getD i []) 0)
def sFrom (T : List (List Int)) (n k : Nat) (l : List Int) (up : Int) (i : Nat) : Option (List Int) := (List.range' i (n - i)).findSome? fun (i : Nat) => shortP T n k (l ++ [(i : Int)]) (i + 1) (moreP up (T.getD i []) 0)
theorem shortP_succ (T : List (List Int)) (n k : Nat) (l : List Int) (first : Nat) (up : Int) : shortP T n (k + 1) l first up = sFrom T n k l up first := rfl
theorem sFrom_some {T : List (List Int)} {n k : Nat} {l : List Int} {up : Int} {i : Nat} (hi : i < n) (h : (shortP T n k (l ++ [(i : Int)]) (i + 1) (moreP up (T.getD i []) 0)).isSome = true) : sFrom T n k l up i = shortP T n k (l ++ [(i : Int)]) (i + 1) (moreP up (T.getD i []) 0) := by
 unfold sFrom
 obtain ⟨d, hd⟩ : ∃ d, n - i = d + 1 := ⟨n - i - 1, by omega⟩
 rw [hd, List.range'_succ, List.findSome?_cons]
 obtain ⟨q, hq⟩ := Option.isSome_iff_exists.1 h
 rw [hq]
theorem sFrom_none {T : List (List Int)} {n k : Nat} {l : List Int} {up : Int} {i : Nat} (hi : i < n) (h : (shortP T n k (l ++ [(i : Int)]) (i + 1) (moreP up (T.getD i []) 0)).isSome = false) : sFrom T n k l up i = sFrom T n k l up (i + 1) := by
 unfold sFrom
 obtain ⟨d, hd⟩ : ∃ d, n - i = d + 1 := ⟨n - i - 1, by omega⟩
 rw [hd, List.range'_succ, List.findSome?_cons]
 have : shortP T n k (l ++ [(i : Int)]) (i + 1) (moreP up (T.getD i []) 0) = none := by simpa using h
 rw [this, show n - (i + 1) = d by omega]
theorem sFrom_end {T : List (List Int)} {n k : Nat} {l : List Int} {up : Int} {i : Nat} (hi : n ≤ i) : sFrom T n k l up i = none := by
 unfold sFrom
 rw [show n - i = 0 by omega]
 rfl
def sizeF (T : List (List Int)) (n s : Nat) : Option (List Int) := (List.range' s (n + 1 - s)).findSome? fun (s : Nat) => if s = 0 then none else shortP T n s [] 0 0
theorem sizeF_zero (T : List (List Int)) (n : Nat) : sizeF T n 0 = sizeF T n 1 := by
 unfold sizeF
 rw [show n + 1 - 0 = n + 1 by omega, List.range'_succ, List.findSome?_cons]
 simp
theorem sizeF_some {T : List (List Int)} {n s : Nat} (hs : s ≤ n) (h0 : 0 < s) (h : (shortP T n s [] 0 0).isSome = true) : sizeF T n s = shortP T n s [] 0 0 := by
 unfold sizeF
 obtain ⟨d, hd⟩ : ∃ d, n + 1 - s = d + 1 := ⟨n - s, by omega⟩
 rw [hd, List.range'_succ, List.findSome?_cons, if_neg (by omega)]
 obtain ⟨q, hq⟩ := Option.isSome_iff_exists.1 h
 rw [hq]
theorem sizeF_none {T : List (List Int)} {n s : Nat} (hs : s ≤ n) (h0 : 0 < s) (h : (shortP T n s [] 0 0).isSome = false) : sizeF T n s = sizeF T n (s + 1) := by
 unfold sizeF
 obtain ⟨d, hd⟩ : ∃ d, n + 1 - s = d + 1 := ⟨n - s, by omega⟩
 have : shortP T n s [] 0 0 = none := by simpa using h
 rw [hd, List.range'_succ, List.findSome?_cons, if_neg (by omega), this, show n + 1 - (s + 1) = d by omega]
theorem sizeF_end {T : List (List Int)} {n s : Nat} (hs : n < s) : sizeF T n s = none := by
 unfold sizeF
 rw [show n + 1 - s = 0 by omega]
 rfl
def FS (res : Option (List Int)) (A : Option Addr) (n c : Nat) (I : List (Nat × BA)) : Prop :=
 (res = none ∧ A = none ∧ n = 0 ∧ c = 0 ∧ I = []) ∨ ∃ l, res = some l ∧ n = l.length ∧ n ≤ 5 ∧ A.isSome = true ∧ ∃ b o, ∀ (w : World) (ex : Nat → Prop), Sp w ex I A n 1 b o (ic l)
theorem FS.none {res : Option (List Int)} {A : Option Addr} {n c : Nat} {I : List (Nat × BA)} (h : FS res A n c I) (h0 : res.isSome = false) : A = .none ∧ n = 0 ∧ c = 0 ∧ I = [] := by
 rcases h with ⟨_, h⟩ | ⟨l, rfl, _⟩
 · exact h
 · cases h0
theorem FS.len {res : Option (List Int)} {A : Option Addr} {n c : Nat} {I : List (Nat × BA)} (h : FS res A n c I) : n = (res.getD []).length ∧ n ≤ 5 := by
 rcases h with ⟨rfl, _, rfl, _⟩ | ⟨l, rfl, h1, h2, _⟩
 · exact ⟨rfl, by omega⟩
 · exact ⟨h1, h2⟩
theorem FS.sp {res : Option (List Int)} {A : Option Addr} {n c : Nat} {I : List (Nat × BA)} (h : FS res A n c I) : ∃ b o, ∀ (w : World) (ex : Nat → Prop), Sp w ex I A n 1 b o (ic (res.getD [])) := by
 rcases h with ⟨rfl, _, rfl, _⟩ | ⟨l, rfl, _, _, _, h⟩
 · exact ⟨0, 0, fun _ _ => ⟨fun h => absurd h (by omega), by simp [ic], fun _ _ _ _ h => absurd h (by omega), fun _ _ _ _ j u hu => by simp [ic] at hu⟩⟩
 · exact h
structure SE where
 fo : Nat
 bb : Nat
 tb : Nat
 gr : Nat
 b : Bx
 A0 : Option Addr
 c0 : Nat
 B0 : Option Addr
 d0 : Nat
 A : Option Addr
 c : Nat
 LL : List LE
abbrev bxC (b : Bx) (A : Option Addr) (c : Nat) (B : Option Addr) (d : Nat) : List Value := [Zi b.first, Zi b.step, Zi b.span, Zi b.press, Zi b.note, .slice A b.lows.length c, .slice B b.highs.length d, Zi b.t0, Zi b.t1, Zi b.r0, Zi b.r1, Zi b.u0, Zi b.u1, Zi b.d0, Zi b.d1, Zi b.a0, Zi b.a1, Zi b.b0, Zi b.b1, Zi b.le, Zi b.me]
structure SEnv (e : SE) (w : World) (ex : Nat → Prop) : Prop where
 bb : Old w ex e.bb (bxC e.b e.A0 e.c0 e.B0 e.d0)
 tb : Old w ex e.tb [.slice e.A e.LL.length e.c]
 gr : Old w ex e.gr [.func (.func 60) #[] #[pV e.fo, pV e.bb, pV e.tb, pV e.gr]]
 sp : ∃ b o, Sp w ex [] e.A e.LL.length 1 b o (lc e.LL)
 els : ∀ x ∈ e.LL, ∃ b o, Sp w ex [] x.2.1 x.1.length 1 b o (ic x.1)
theorem SEnv.move {e : SE} {w0 w : World} {ex ex' : Nat → Prop} {L : List (Nat × BA)} (M : Mem w0 ex w L) (hx : ∀ b, ex' b → inL L b) (h : SEnv e w0 ex) : SEnv e w ex' :=
 ⟨h.bb.move M hx, h.tb.move M hx, h.gr.move M hx, (by obtain ⟨b, o, h1⟩ := h.sp; exact ⟨b, o, h1.move M hx⟩), fun x hx' => (by obtain ⟨b, o, h1⟩ := h.els x hx'; exact ⟨b, o, h1.move M hx⟩)⟩
def FoundPost (fo : Nat) (res : Option (List Int)) (w : World) (ex : Nat → Prop) (e : Ending) (w' : World) : Prop :=
 ∃ A n c I, e = .returned (.bool res.isSome) ∧ FS res A n c I ∧ Mem w ex w' ((fo, .cells [.slice A n c]) :: I)
def ShortSpec (e : SE) (T : List (List Int)) (k : Nat) : Prop :=
 ∀ (w : World) (exq : Nat → Prop) (l : List Int) (A : Option Addr) (m c : Nat) (fi lf : Int) (first : Nat) (up : Int) (Il : List (Nat × BA)),
  m = l.length → l.length + k ≤ 5 → fi = (first : Nat) → lf = (k : Nat) → first ≤ 5 → 0 ≤ up ∧ up < 32 → (∃ b o, ∀ (w : World) (ex : Nat → Prop), Sp w ex Il A m 1 b o (ic l)) → SEnv e w exq → Mem w exq w ((e.fo, .cells [.slice none 0 0]) :: Il) →
  Calls Tryz.prog 60 #[.slice A m c, Zi fi, Zi lf, Zi up, pV e.fo, pV e.bb, pV e.tb, pV e.gr] w (FoundPost e.fo (shortP T e.b.lows.length k l first up) w exq)
theorem neqS33 {x : Operand} (A : Option Addr) (m c : Nat) (w : World) : (do eqGuard .neq 33 x (.const (.slice none 0 0)) (.slice A m c) (.slice none 0 0); binOp .neq 33 (.slice A m c) (.slice none 0 0) : Sem Value).run Tryz.prog w = .ok (.bool A.isSome) w := by
 cases A <;> go_simp
theorem found_step (se : SE) (Tb : List (List Int)) (k : Nat) (exq : Nat → Prop) (l : List Int) (A : Option Addr) (c : Nat) (lf : Int) (first : Nat) (up : Int) (Il : List (Nat × BA)) (w : World) (hLL : se.LL.map (·.1) = Tb) (hT1 : Tb.length = se.b.lows.length) (hT2 : ∀ x ∈ Tb, x.length ≤ 5) (hlo : se.b.lows.length ≤ 4) (ih : ∀ k', k = k' + 1 → ShortSpec se Tb k') (hlk : l.length + k ≤ 5) (hlf : lf = (k : Nat)) (hf5 : first ≤ 5) (hup : 0 ≤ up ∧ up < 32) (hl : ∃ b o, ∀ (w : World) (ex : Nat → Prop), Sp w ex Il A l.length 1 b o (ic l)) (senv : SEnv se w exq) (M0 : Mem w exq w ((se.fo, .cells [.slice none 0 0]) :: Il)) :
   Calls Tryz.prog 60 #[.slice A l.length c, Zi (first : Int), Zi lf, Zi up, .pointer (some ⟨se.fo, 0, none⟩), .pointer (some ⟨se.bb, 0, none⟩), .pointer (some ⟨se.tb, 0, none⟩), .pointer (some ⟨se.gr, 0, none⟩)] w (FoundPost se.fo (shortP Tb se.b.lows.length k l first up) w exq) := by
 have hls := hl
 obtain ⟨bl, ol, hSl⟩ := hls
 have Sl0 := hSl w exq
 obtain ⟨bt, ot, St⟩ := senv.sp
 refine Zpx exq Tryz.func60 rfl 65 rfl [.slice A l.length c, Zi (first : Int), Zi lf, Zi up, .pointer (some ⟨se.fo, 0, none⟩), .pointer (some ⟨se.bb, 0, none⟩), .pointer (some ⟨se.tb, 0, none⟩), .pointer (some ⟨se.gr, 0, none⟩)] rfl rfl M0 ?_
 intro ac wc T M
 refine Zsr ?_
 refine lq T (Zra rfl evc) ?_; clear T ac; intro ac T
 replace T := T.pick [1, 2, 3, 4, 5, 6, 7, 8] rfl
 refine Zln ?_
 refine wp_seq ?_
 refine Zsr ?_
 refine Zg2 T (Zq (Zrm rfl (T.e 2 rfl))) rfl (fun _ T => Zq (rn_eql rfl (T.e 0 rfl) evc)) rfl ?_; clear T ac; intro ac T
 replace T := T.pick [0, 2, 3, 4, 5, 6, 7, 8, 9] rfl
 refine Zln ?_
 refine wp_if (T.e 0 rfl) ?_ ?_
 ·intro h1
  obtain rfl : k = 0 := by omega
  refine wp_seq ?_
  refine Zsr ?_
  refine lq T (Zrm rfl (T.e 4 rfl)) ?_; clear T ac; intro ac T
  refine Zl2 ?_
  refine Zoc (first := []) (cap := []) T rfl rfl rfl rfl evf (.cons (T.e 0 rfl) .nil) Tryz.func61 rfl rfl ?_
  refine Calls.mono (size_any up _ (by omega)) ?_
  clear T; rintro e wc ⟨rfl, hb⟩ ac T
  replace M := M.call hb; clear hb
  refine Zg3 T (Zq (Zrm rfl (T.e 3 rfl))) rfl (Zl Tryz.underlying33 0 rfl rfl) rfl (fun _ T => Zq (rn_lss rfl (T.e 2 rfl) (T.e 0 rfl))) rfl ?_; clear T ac; intro ac T
  replace T := T.pick [0, 6, 10] rfl
  refine Zln ?_
  refine wp_if (T.e 0 rfl) ?_ ?_
  ·intro h2
   refine wp_region_lit ?_
   refine lq T (Zrm rfl (T.e 1 rfl)) ?_; clear T ac; intro ac T
   refine Zl2 ?_
   refine Zos M T rfl rfl (T.e 3 rfl) (T.e 0 rfl) rfl .head rfl (by simp) rfl (by kernel_rfl) ?_; clear M T; intro wc ac M T
   replace T := T.pick [3] rfl
   refine Zln ?_
   refine Zsr ?_
   refine Zg3 (v2 := (.bool A.isSome)) T (Zq (Zro (Mem.nth M 0 rfl) rfl (T.e 0 rfl) rfl)) rfl (fun _ T => Zq (rn_bin rfl (T.e 0 rfl) evc (neqS33 _ _ _ _))) rfl (Za 0 rfl rfl) rfl ?_; clear T ac; intro ac T
   replace T := T.pick [0] rfl
   refine Zln ?_
   refine wp_ret ?_
   refine Zrt ?_
   refine rt_1 T rfl (T.e 0 rfl) ?_
   have hAs : A.isSome = true := by rw [Sl0.at0 (by omega)]; rfl
   have hsh : shortP Tb se.b.lows.length 0 l first up = some l := by simp only [shortP]; rw [if_pos (by omega)]
   exact ⟨A, l.length, c, Il, by rw [hsh, hAs]; rfl, .inr ⟨l, hsh, rfl, by omega, hAs, hl⟩, M⟩
  intro h2
  refine Zsk ?_
  refine Zsr ?_
  refine Zg3 (v2 := (.bool false)) T (Zq (Zro (Mem.nth M 0 rfl) rfl (T.e 2 rfl) rfl)) rfl (fun _ T => Zq (rn_bin rfl (T.e 0 rfl) evc (by kernel_rfl))) rfl (Za 0 rfl rfl) rfl ?_; clear T ac; intro ac T
  replace T := T.pick [0] rfl
  refine Zln ?_
  refine wp_ret ?_
  refine Zrt ?_
  refine rt_1 T rfl (T.e 0 rfl) ?_
  exact ⟨none, 0, 0, [], by simp only [shortP]; rw [if_neg (by omega)]; rfl, .inl ⟨by simp only [shortP]; rw [if_neg (by omega)], rfl, rfl, rfl, rfl⟩, M.sub (.cons_cons _ (Zz9 _))⟩
 intro h1
 obtain ⟨k1, rfl⟩ : ∃ k', k = k' + 1 := ⟨k - 1, by omega⟩
 have ih1 := ih k1 rfl
 refine Zsk ?_
 refine wp_seq ?_
 refine Zsr ?_
 refine Zg2 T (Zq (Zrm rfl (T.e 2 rfl))) rfl (Za 0 rfl rfl) rfl ?_; clear T ac; intro ac T
 replace T := T.pick [0, 3, 5, 6, 8, 9, 10] rfl
 refine Zln ?_
 refine wp_block ?_
 refine wp_loop_n (fun mz ac wc => ∃ (i : Nat), mz = 5 - i ∧ (first ≤ i) ∧ (i ≤ 5) ∧ (shortP Tb se.b.lows.length (k1 + 1) l first up = sFrom Tb se.b.lows.length k1 l up i) ∧ Tm ac 65 [(0, .slice A l.length c), (2, Zi lf), (3, Zi up), (5, .pointer (some ⟨se.bb, 0, none⟩)), (6, .pointer (some ⟨se.tb, 0, none⟩)), (7, .pointer (some ⟨se.gr, 0, none⟩)), (13, Zi (i : Int))] ∧ Mem w exq wc ((se.fo, .cells [.slice none 0 0]) :: Il)) ?_ ?_
 ·exact ⟨_, first, rfl, (Nat.le_refl _), hf5, (shortP_succ _ _ _ _ _ _), T.pick [1, 2, 3, 4, 5, 6, 0] rfl, M.mask [true] rfl⟩
 clear T M
 rintro mz ac wc ⟨i, hmm1, hi, hi5, H, T, M⟩
 refine wp_seq ?_
 refine Zsr ?_
 refine Zg5 (v2 := (.pointer (some ⟨se.bb, 5, none⟩))) T (Zq (Zrm rfl (T.e 6 rfl))) rfl (Zf 5 4 rfl rfl) rfl (fun _ T => Zq (Zro (Mem.old M senv.bb.1 senv.bb.2) rfl (T.e 0 rfl) rfl)) rfl (Zl Tryz.underlying24 0 rfl rfl) rfl (fun _ T => Zq (rn_lss rfl (T.e 3 rfl) (T.e 0 rfl))) rfl ?_; clear T ac; intro ac T
 replace T := T.pick [0, 5, 6, 7, 8, 9, 10, 11] rfl
 refine Zln ?_
 refine wp_if (T.e 0 rfl) ?_ ?_
 ·intro h3
  have hiT : i < Tb.length := by omega
  obtain ⟨Br, dr, hkx⟩ := lc_at hLL hiT
  have hrow : (Tb.getD i []).length ≤ 5 := by rw [List.getD_eq_getElem?_getD, List.getElem?_eq_getElem hiT]; exact hT2 _ (List.getElem_mem _)
  obtain ⟨br, orr, Sr⟩ := senv.els _ (List.mem_of_getElem? hkx)
  obtain ⟨xr, hxr⟩ : ∃ q, q = Tb.getD i [] := ⟨_, rfl⟩
  rw [← hxr] at hkx hrow Sr
  have hir := (List.getElem?_eq_some_iff.1 hkx).1
  dsimp only at Sr
  refine Zsk ?_
  refine wp_seq ?_
  refine wp_block ?_
  refine Zsr ?_
  refine Zg2 T (Zq (Zrm rfl (T.e 3 rfl))) rfl (Za 0 rfl rfl) rfl ?_; clear T ac; intro ac T
  replace T := T.pick [0, 3, 4, 5, 6, 7, 8, 9] rfl
  refine Zln ?_
  refine wp_seq ?_
  refine Zsr ?_
  refine Zg6 (v4 := (.slice Br xr.length dr)) T (Zq (Zro (Mem.old M senv.tb.1 senv.tb.2) rfl (T.e 5 rfl) rfl)) rfl (Zm 8 rfl rfl) rfl (fun _ T => Zq (Zri (size := 1) i rfl (T.e 1 rfl) (T.e 0 rfl) ⟨_, Tryz.underlying55, by kernel_rfl⟩ rfl (by omega) (St.at0 (by omega)))) rfl (fun _ T => Zq (rn_cell (Sp.lc0 St M (Zz9 _) hkx) rfl (T.e 0 rfl))) rfl (Zl Tryz.underlying33 0 rfl rfl) rfl (fun _ T => Zq (Zrm rfl evc)) rfl ?_; clear T ac; intro ac T
  replace T := T.pick [0, 1, 2, 6, 7, 8, 9, 10, 11, 12, 13] rfl
  refine Zln ?_
  refine wp_block ?_
  refine wp_loop_n (fun mz ac wc => ∃ (h : Nat) (mo : Int), mz = xr.length - h ∧ (h ≤ xr.length) ∧ (0 ≤ mo ∧ mo < 32) ∧ (moreP up xr 0 = moreP mo (xr.drop h) h) ∧ Tm ac 65 [(0, .slice A l.length c), (2, Zi lf), (3, Zi up), (5, .pointer (some ⟨se.bb, 0, none⟩)), (6, .pointer (some ⟨se.tb, 0, none⟩)), (7, .pointer (some ⟨se.gr, 0, none⟩)), (13, Zi (i : Int)), (14, Zi mo), (39, .slice Br xr.length dr), (40, Zi ((xr.length : Nat) : Int)), (41, Zi (h : Int))] ∧ Mem w exq wc ((se.fo, .cells [.slice none 0 0]) :: Il)) ?_ ?_
  ·exact ⟨_, 0, up, rfl, (Nat.zero_le _), hup, rfl, T.pick [4, 5, 6, 7, 8, 9, 10, 3, 2, 1, 0] rfl, M.mask [true] rfl⟩
  clear T M
  rintro mz ac wc ⟨h, mo, hmm2, hh, hmo, Hm, T, M⟩
  refine Zsr ?_
  refine lq T (rn_lss rfl (T.e 10 rfl) (T.e 9 rfl)) ?_; clear T ac; intro ac T
  refine Zln ?_
  refine wp_seq ?_
  refine wp_if (T.e 0 rfl) ?_ ?_
  ·intro h4
   obtain ⟨yv, hky, hdy⟩ := ic_next (l := xr) (k := h) (by omega)
   rw [hdy, moreP] at Hm
   refine Zsk ?_
   refine wp_seq ?_
   refine wp_block ?_
   refine Zsr ?_
   refine Zg5 T (Zq (Zrm rfl (T.e 11 rfl))) rfl (fun _ T => Zq (Zri (size := 1) h rfl (T.e 10 rfl) (T.e 12 rfl) ⟨_, Tryz.underlying33, by kernel_rfl⟩ rfl (by omega) (Sr.at0 (by omega)))) rfl (fun _ T => Zq (rn_cell (Sp.ic0 Sr M (Zz9 _) hky) rfl (T.e 0 rfl))) rfl (Za 2 rfl rfl) rfl (Za 1 rfl rfl) rfl ?_; clear T ac; intro ac T
   replace T := T.pick [0, 1, 6, 7, 8, 9, 10, 11, 12, 13, 14, 15, 16] rfl
   refine Zln ?_
   refine Zsr ?_
   refine Zg2 T (Zq (Zrm rfl (T.e 0 rfl))) rfl (fun _ T => Zq (rn_eql rfl (T.e 0 rfl) evc)) rfl ?_; clear T ac; intro ac T
   replace T := T.pick [0, 3, 4, 5, 6, 7, 8, 9, 10, 11, 12, 13, 14] rfl
   refine Zln ?_
   refine wp_if (T.e 0 rfl) ?_ ?_
   ·intro h5
    refine wp_region_lit ?_
    refine Zg2 T (Zq (Zrm rfl (T.e 9 rfl))) rfl (Zm 2 rfl rfl) rfl ?_; clear T ac; intro ac T
    refine Zl2 ?_
    refine Zoc (first := []) (cap := []) T rfl rfl rfl rfl evf (.cons (T.e 1 rfl) (.cons (T.e 0 rfl) .nil)) Tryz.func62 rfl rfl ?_
    refine Calls.mono (with_any mo (h : Int) _ (by omega)) ?_
    clear T; rintro e wc ⟨rfl, hb⟩ ac T
    replace M := M.call hb; clear hb
    refine l_q (v := (Zi (withI mo (h : Int)))) (T.pick [0, 1, 2, 3, 4, 5, 6, 7, 8, 9, 10, 11, 13, 14, 15] rfl) rfl rfl rfl rfl (Zra rfl (T.e 0 rfl)) ?_; clear T ac; intro ac T
    refine wpList_nil ?_
    replace T := T.pick [0, 6, 7, 8, 9, 10, 11, 12, 13, 14, 15] rfl
    refine Znb ?_
    refine nm_then ?_
    refine wp_region_lit ?_
    refine lq T (rn_add rfl (T.e 10 rfl) evc (by omega)) ?_; clear T ac; intro ac T
    refine l_q (v := (Zi ((h : Int) + 1))) (T.pick [0, 1, 2, 3, 4, 5, 6, 7, 8, 9, 10] rfl) rfl rfl rfl rfl (Zrm rfl (T.e 0 rfl)) ?_; clear T ac; intro ac T
    replace T := T.pick [0, 2, 3, 4, 5, 6, 7, 8, 9, 10, 11] rfl
    refine Zln ?_
    exact ⟨_, by omega, h + 1, (withI mo (h : Int)), rfl, (by omega), (by first | exact hmo | exact with_bd hmo (by omega)), (by simpa only [if_pos h5] using Hm), T.pick [2, 3, 4, 5, 6, 7, 8, 1, 9, 10, 0] rfl, M.mask [true] rfl⟩
   intro h5
   refine wp_skip ?_
   refine Znb ?_
   refine nm_then ?_
   refine wp_region_lit ?_
   refine lq T (rn_add rfl (T.e 12 rfl) evc (by omega)) ?_; clear T ac; intro ac T
   refine l_q (v := (Zi ((h : Int) + 1))) (T.pick [0, 1, 2, 3, 4, 5, 6, 7, 8, 9, 10, 11, 12] rfl) rfl rfl rfl rfl (Zrm rfl (T.e 0 rfl)) ?_; clear T ac; intro ac T
   replace T := T.pick [0, 4, 5, 6, 7, 8, 9, 10, 11, 12, 13] rfl
   refine Zln ?_
   exact ⟨_, by omega, h + 1, mo, rfl, (by omega), (by first | exact hmo | exact with_bd hmo (by omega)), (by simpa only [if_neg h5] using Hm), T.pick [1, 2, 3, 4, 5, 6, 7, 8, 9, 10, 0] rfl, M.mask [true] rfl⟩
  intro h4
  rw [List.drop_of_length_le (by omega), moreP] at Hm
  refine wp_exit ?_
  refine Zet ?_
  refine Zet ?_
  refine ex_hit ?_
  refine Zns ?_
  refine Zgs M (M.perm [] rfl rfl) 13 (by kernel_rfl) rfl (by kernel_rfl) ?_
  clear M; intro wc M
  refine gq T 0 1 rfl (fun B w' hD hl hS => (Zro (Mem.old (show Mem w exq w' _ from hS) senv.gr.1 senv.gr.2) rfl (T.e 6 rfl) rfl)) ?_; clear T ac; intro ac T
  refine gq T 2 5 rfl (fun _ _ _ _ _ => (Zrm rfl (T.e 2 rfl))) ?_; clear T ac; intro ac T
  refine gq T 4 21 rfl (fun _ _ _ _ _ => (Zrm rfl (T.e 9 rfl))) ?_; clear T ac; intro ac T
  refine gq T 7 149 rfl (fun _ _ _ _ _ => (Zrm rfl (T.e 10 rfl))) ?_; clear T ac; intro ac T
  refine gq T 8 405 rfl (fun _ _ _ _ _ => (rn_add rfl (T.e 0 rfl) evc (by omega))) ?_; clear T ac; intro ac T
  refine gq T 9 917 rfl (fun _ _ _ _ _ => (Zrm rfl (T.e 7 rfl))) ?_; clear T ac; intro ac T
  refine gq T 10 1941 rfl (fun _ _ _ _ _ => (rn_sub rfl (T.e 0 rfl) evc (by omega))) ?_; clear T ac; intro ac T
  refine gq T 11 3989 rfl (fun _ _ _ _ _ => (Zrm rfl (T.e 15 rfl))) ?_; clear T ac; intro ac T
  refine g_m2 (i := 1) (j := 5) (by kernel_rfl) ?_ ?_
  ·refine gi 3991 ?_; intro K hK
   refine ow_bs0 (e := 3) M T rfl rfl rfl rfl (fun _ => by kernel_rfl) ?_; clear M T; intro gr15_1 wc ac M T
   refine Zso hK _ _ (M.perm [] rfl rfl) ?_; clear hK K
   refine g_m2 (i := 3) (j := 5) (by kernel_rfl) ?_ ?_
   ·refine gi 3999 ?_; intro K hK
    refine ow_appS Tryz.info3 M T rfl rfl rfl rfl (fun g w => Tryz.append0i _ _ g _ w) Tryz.underlying33 rfl rfl rfl (by omega) (T.e 0 rfl) (T.e 7 rfl) (Sl0.rd M (.cons _ (.cons _ (List.Sublist.refl _)))) (ic_one _) ?_; clear M T; intro Au15_3 cu15_3 Iu15_3 wc ac hSm15_3 M T
    replace M : Mem w exq wc ((se.fo, .cells [.slice none 0 0]) :: (Il ++ Iu15_3)) := M.swapI
    refine Zso hK _ _ (M.perm [] rfl rfl) ?_; clear hK K
    refine gw 5 4031 ?_; intro K hK
    refine ow_bs (e := 3) [Zi (i : Int)] M T rfl rfl rfl rfl (.cons (T.e 7 rfl) .nil) (fun _ => by kernel_rfl) ?_; clear M T; intro gr15_5 wc ac M T
    refine Zso hK _ _ (M.perm [] rfl rfl) ?_; clear hK K
    refine gw 6 4095 ?_; intro K hK
    refine ow_appM (((gr15_5, .cells [Zi (i : Int)]) :: (se.fo, .cells [.slice none 0 0]) :: Il)) Tryz.info3 hSm15_3 M (by first | rfl | simp) T rfl rfl rfl rfl Tryz.underlying33 rfl rfl rfl (by omega) (T.e 1 rfl) (T.e 0 rfl) (Zne (i := 0) rfl) rfl rfl ?_; clear M T; intro ga15_6 ca15_6 wc ac M T
    refine Zso hK _ _ (M.perm [] rfl rfl) ?_; clear hK K
    refine gw 12 8191 ?_; intro K hK
    have Mq : Mem w exq wc ((se.fo, .cells [.slice none 0 0]) :: (ga15_6, .row 3 1 (l.length + 1) (ic l ++ [Zi (i : Int)]) ca15_6) :: Il) := M.permT [2, 0] 3 rfl rfl rfl rfl
    have My : Mem w exq wc [(se.fo, .cells [.slice none 0 0]), (ga15_6, .row 3 1 (l.length + 1) (ic l ++ [Zi (i : Int)]) ca15_6)] := Mq.sub (List.Sublist.cons_cons _ (.cons_cons _ (Zz9 _)))
    have gx := senv.move (ex' := inL [(se.fo, .cells [.slice none 0 0]), (ga15_6, .row 3 1 (l.length + 1) (ic l ++ [Zi (i : Int)]) ca15_6)]) Mq (fun b hb => by unfold inL at hb ⊢; exact ((List.Sublist.cons_cons _ (.cons_cons _ (Zz9 Il))).map _).subset hb)
    refine Zoc (first := []) (cap := [.pointer (some ⟨se.fo, 0, none⟩), .pointer (some ⟨se.bb, 0, none⟩), .pointer (some ⟨se.tb, 0, none⟩), .pointer (some ⟨se.gr, 0, none⟩)]) T rfl rfl rfl rfl (T.e 11 rfl) (.cons (T.e 0 rfl) (.cons (T.e 7 rfl) (.cons (T.e 5 rfl) (.cons (T.e 4 rfl) .nil)))) Tryz.func60 rfl rfl ?_
    refine Calls.mono (ih1 wc _ (l ++ [(i : Int)]) _ _ _ _ _ (i + 1) _ [(ga15_6, .row 3 1 (l.length + 1) (ic l ++ [Zi (i : Int)]) ca15_6)] (by simp) (by simp only [List.length_append, List.length_cons, List.length_nil]; omega) (by omega) (by omega) (by omega) hmo ⟨_, _, fun w ex => by rw [← ic_snoc]; exact Sp.row (by simp [ic_length])⟩ gx My.rebase) ?_
    clear T; rintro e wc ⟨Aur15_12, nur15_12, cur15_12, Iur15_12, rfl, hfsur15_12, N⟩ ac T
    replace M := Mem.joinX (X := [(se.fo, .cells [.slice none 0 0]), (ga15_6, .row 3 1 (l.length + 1) (ic l ++ [Zi (i : Int)]) ca15_6)]) (F := Il) Mq N (fun b h => h)
    clear N Mq My gx
    replace M : Mem w exq wc ((se.fo, .cells [.slice Aur15_12 nur15_12 cur15_12]) :: (Iur15_12 ++ Il)) := M
    refine Zso hK _ _ (M.perm [] rfl rfl) ?_; clear hK K
    refine Zgd (by kernel_rfl) ?_
    replace T := T.pick [0, 14, 15, 16, 17, 18, 19, 20] rfl
    refine nm_then ?_
    refine wp_cond_split (T.e 0 rfl) ?_ ?_
    ·intro h6
     refine Zsr ?_
     refine lq T (Zra rfl evc) ?_; clear T ac; intro ac T
     replace T := T.pick [0] rfl
     refine Zln ?_
     refine wp_ret ?_
     refine Zrb ?_
     refine Zrt ?_
     refine Zrt ?_
     refine Zrb ?_
     refine Zrt ?_
     refine rt_1 T rfl (T.e 0 rfl) ?_
     have hsf := H.trans (sFrom_some (by omega) (by rw [← hxr, Hm]; exact h6))
     rw [← hxr, Hm] at hsf
     rw [hsf]
     exact ⟨Aur15_12, nur15_12, cur15_12, Iur15_12, by rw [h6], hfsur15_12, M.sub (.cons_cons _ (Zsl _ _))⟩
    intro h6
    refine wp_skip ?_
    refine Znb ?_
    refine nm_then ?_
    refine wp_region_lit ?_
    refine Zg2 T (Zq (Zrm rfl (T.e 7 rfl))) rfl (fun _ T => Zq (rn_add rfl (T.e 0 rfl) evc (by omega))) rfl ?_; clear T ac; intro ac T
    refine l_q (v := (Zi ((i : Int) + 1))) (T.pick [0, 1, 2, 3, 4, 5, 6, 7, 8] rfl) rfl rfl rfl rfl (Zra rfl (T.e 0 rfl)) ?_; clear T ac; intro ac T
    replace T := T.pick [0, 4, 5, 6, 7, 8, 9] rfl
    refine Zln ?_
    have hno := hfsur15_12.none h6
    obtain ⟨rfl, rfl, rfl, rfl⟩ := hno
    replace M : Mem w exq wc ((se.fo, .cells [.slice none 0 0]) :: Il) := M
    exact ⟨_, by omega, i + 1, rfl, (by omega), (by omega), (by rw [H]; exact sFrom_none (by omega) (by rw [← hxr, Hm]; exact h6)), T.pick [1, 2, 3, 4, 5, 6, 0] rfl, M⟩
   refine gi 4023 ?_; intro K hK
   refine ow_bs (e := 3) [Zi (i : Int)] M T rfl rfl rfl rfl (.cons (T.e 6 rfl) .nil) (fun _ => by kernel_rfl) ?_; clear M T; intro gr15_5 wc ac M T
   refine Zso hK _ _ (M.perm [] rfl rfl) ?_; clear hK K
   refine gw 3 4031 ?_; intro K hK
   replace M := M.permT [1, 0, 2] 3 rfl rfl rfl rfl
   refine ow_appS Tryz.info3 M T rfl rfl rfl rfl (fun g w => Tryz.append0i _ _ g _ w) Tryz.underlying33 rfl rfl rfl (by omega) (T.e 1 rfl) (T.e 8 rfl) (Sl0.rd M (.cons _ (.cons _ (.cons _ (List.Sublist.refl _))))) (ic_one _) ?_; clear M T; intro Au15_3 cu15_3 Iu15_3 wc ac hSm15_3 M T
   replace M : Mem w exq wc ((gr15_5, .cells [Zi (i : Int)]) :: (se.fo, .cells [.slice none 0 0]) :: (Il ++ Iu15_3)) := M.swapI
   refine Zso hK _ _ (M.perm [] rfl rfl) ?_; clear hK K
   refine gw 6 4095 ?_; intro K hK
   refine ow_appM (((gr15_5, .cells [Zi (i : Int)]) :: (se.fo, .cells [.slice none 0 0]) :: Il)) Tryz.info3 hSm15_3 M (by first | rfl | simp) T rfl rfl rfl rfl Tryz.underlying33 rfl rfl rfl (by omega) (T.e 0 rfl) (T.e 1 rfl) (Zne (i := 0) rfl) rfl rfl ?_; clear M T; intro ga15_6 ca15_6 wc ac M T
   refine Zso hK _ _ (M.perm [] rfl rfl) ?_; clear hK K
   refine gw 12 8191 ?_; intro K hK
   have Mq : Mem w exq wc ((se.fo, .cells [.slice none 0 0]) :: (ga15_6, .row 3 1 (l.length + 1) (ic l ++ [Zi (i : Int)]) ca15_6) :: Il) := M.permT [2, 0] 3 rfl rfl rfl rfl
   have My : Mem w exq wc [(se.fo, .cells [.slice none 0 0]), (ga15_6, .row 3 1 (l.length + 1) (ic l ++ [Zi (i : Int)]) ca15_6)] := Mq.sub (List.Sublist.cons_cons _ (.cons_cons _ (Zz9 _)))
   have gx := senv.move (ex' := inL [(se.fo, .cells [.slice none 0 0]), (ga15_6, .row 3 1 (l.length + 1) (ic l ++ [Zi (i : Int)]) ca15_6)]) Mq (fun b hb => by unfold inL at hb ⊢; exact ((List.Sublist.cons_cons _ (.cons_cons _ (Zz9 Il))).map _).subset hb)
   refine Zoc (first := []) (cap := [.pointer (some ⟨se.fo, 0, none⟩), .pointer (some ⟨se.bb, 0, none⟩), .pointer (some ⟨se.tb, 0, none⟩), .pointer (some ⟨se.gr, 0, none⟩)]) T rfl rfl rfl rfl (T.e 11 rfl) (.cons (T.e 0 rfl) (.cons (T.e 7 rfl) (.cons (T.e 5 rfl) (.cons (T.e 4 rfl) .nil)))) Tryz.func60 rfl rfl ?_
   refine Calls.mono (ih1 wc _ (l ++ [(i : Int)]) _ _ _ _ _ (i + 1) _ [(ga15_6, .row 3 1 (l.length + 1) (ic l ++ [Zi (i : Int)]) ca15_6)] (by simp) (by simp only [List.length_append, List.length_cons, List.length_nil]; omega) (by omega) (by omega) (by omega) hmo ⟨_, _, fun w ex => by rw [← ic_snoc]; exact Sp.row (by simp [ic_length])⟩ gx My.rebase) ?_
   clear T; rintro e wc ⟨Aur15_12, nur15_12, cur15_12, Iur15_12, rfl, hfsur15_12, N⟩ ac T
   replace M := Mem.joinX (X := [(se.fo, .cells [.slice none 0 0]), (ga15_6, .row 3 1 (l.length + 1) (ic l ++ [Zi (i : Int)]) ca15_6)]) (F := Il) Mq N (fun b h => h)
   clear N Mq My gx
   replace M : Mem w exq wc ((se.fo, .cells [.slice Aur15_12 nur15_12 cur15_12]) :: (Iur15_12 ++ Il)) := M
   refine Zso hK _ _ (M.perm [] rfl rfl) ?_; clear hK K
   refine Zgd (by kernel_rfl) ?_
   replace T := T.pick [0, 14, 15, 16, 17, 18, 19, 20] rfl
   refine nm_then ?_
   refine wp_cond_split (T.e 0 rfl) ?_ ?_
   ·intro h7
    refine Zsr ?_
    refine lq T (Zra rfl evc) ?_; clear T ac; intro ac T
    replace T := T.pick [0] rfl
    refine Zln ?_
    refine wp_ret ?_
    refine Zrb ?_
    refine Zrt ?_
    refine Zrt ?_
    refine Zrb ?_
    refine Zrt ?_
    refine rt_1 T rfl (T.e 0 rfl) ?_
    have hsf := H.trans (sFrom_some (by omega) (by rw [← hxr, Hm]; exact h7))
    rw [← hxr, Hm] at hsf
    rw [hsf]
    exact ⟨Aur15_12, nur15_12, cur15_12, Iur15_12, by rw [h7], hfsur15_12, M.sub (.cons_cons _ (Zsl _ _))⟩
   intro h7
   refine wp_skip ?_
   refine Znb ?_
   refine nm_then ?_
   refine wp_region_lit ?_
   refine Zg2 T (Zq (Zrm rfl (T.e 7 rfl))) rfl (fun _ T => Zq (rn_add rfl (T.e 0 rfl) evc (by omega))) rfl ?_; clear T ac; intro ac T
   refine l_q (v := (Zi ((i : Int) + 1))) (T.pick [0, 1, 2, 3, 4, 5, 6, 7, 8] rfl) rfl rfl rfl rfl (Zra rfl (T.e 0 rfl)) ?_; clear T ac; intro ac T
   replace T := T.pick [0, 4, 5, 6, 7, 8, 9] rfl
   refine Zln ?_
   have hno := hfsur15_12.none h7
   obtain ⟨rfl, rfl, rfl, rfl⟩ := hno
   replace M : Mem w exq wc ((se.fo, .cells [.slice none 0 0]) :: Il) := M
   exact ⟨_, by omega, i + 1, rfl, (by omega), (by omega), (by rw [H]; exact sFrom_none (by omega) (by rw [← hxr, Hm]; exact h7)), T.pick [1, 2, 3, 4, 5, 6, 0] rfl, M⟩
  refine gi 4021 ?_; intro K hK
  refine ow_bs (e := 3) [Zi (i : Int)] M T rfl rfl rfl rfl (.cons (T.e 5 rfl) .nil) (fun _ => by kernel_rfl) ?_; clear M T; intro gr15_5 wc ac M T
  refine Zso hK _ _ (M.perm [] rfl rfl) ?_; clear hK K
  refine gw 1 4023 ?_; intro K hK
  refine ow_bs0 (e := 3) M T rfl rfl rfl rfl (fun _ => by kernel_rfl) ?_; clear M T; intro gr15_1 wc ac M T
  refine Zso hK _ _ (M.perm [] rfl rfl) ?_; clear hK K
  refine gw 3 4031 ?_; intro K hK
  refine ow_appS Tryz.info3 M T rfl rfl rfl rfl (fun g w => Tryz.append0i _ _ g _ w) Tryz.underlying33 rfl rfl rfl (by omega) (T.e 0 rfl) (T.e 8 rfl) (Sl0.rd M (.cons _ (.cons _ (.cons _ (List.Sublist.refl _))))) (ic_one _) ?_; clear M T; intro Au15_3 cu15_3 Iu15_3 wc ac hSm15_3 M T
  replace M : Mem w exq wc ((gr15_5, .cells [Zi (i : Int)]) :: (se.fo, .cells [.slice none 0 0]) :: (Il ++ Iu15_3)) := M.swapI
  refine Zso hK _ _ (M.perm [] rfl rfl) ?_; clear hK K
  refine gw 6 4095 ?_; intro K hK
  refine ow_appM (((gr15_5, .cells [Zi (i : Int)]) :: (se.fo, .cells [.slice none 0 0]) :: Il)) Tryz.info3 hSm15_3 M (by first | rfl | simp) T rfl rfl rfl rfl Tryz.underlying33 rfl rfl rfl (by omega) (T.e 0 rfl) (T.e 2 rfl) (Zne (i := 0) rfl) rfl rfl ?_; clear M T; intro ga15_6 ca15_6 wc ac M T
  refine Zso hK _ _ (M.perm [] rfl rfl) ?_; clear hK K
  refine gw 12 8191 ?_; intro K hK
  have Mq : Mem w exq wc ((se.fo, .cells [.slice none 0 0]) :: (ga15_6, .row 3 1 (l.length + 1) (ic l ++ [Zi (i : Int)]) ca15_6) :: Il) := M.permT [2, 0] 3 rfl rfl rfl rfl
  have My : Mem w exq wc [(se.fo, .cells [.slice none 0 0]), (ga15_6, .row 3 1 (l.length + 1) (ic l ++ [Zi (i : Int)]) ca15_6)] := Mq.sub (List.Sublist.cons_cons _ (.cons_cons _ (Zz9 _)))
  have gx := senv.move (ex' := inL [(se.fo, .cells [.slice none 0 0]), (ga15_6, .row 3 1 (l.length + 1) (ic l ++ [Zi (i : Int)]) ca15_6)]) Mq (fun b hb => by unfold inL at hb ⊢; exact ((List.Sublist.cons_cons _ (.cons_cons _ (Zz9 Il))).map _).subset hb)
  refine Zoc (first := []) (cap := [.pointer (some ⟨se.fo, 0, none⟩), .pointer (some ⟨se.bb, 0, none⟩), .pointer (some ⟨se.tb, 0, none⟩), .pointer (some ⟨se.gr, 0, none⟩)]) T rfl rfl rfl rfl (T.e 11 rfl) (.cons (T.e 0 rfl) (.cons (T.e 7 rfl) (.cons (T.e 5 rfl) (.cons (T.e 4 rfl) .nil)))) Tryz.func60 rfl rfl ?_
  refine Calls.mono (ih1 wc _ (l ++ [(i : Int)]) _ _ _ _ _ (i + 1) _ [(ga15_6, .row 3 1 (l.length + 1) (ic l ++ [Zi (i : Int)]) ca15_6)] (by simp) (by simp only [List.length_append, List.length_cons, List.length_nil]; omega) (by omega) (by omega) (by omega) hmo ⟨_, _, fun w ex => by rw [← ic_snoc]; exact Sp.row (by simp [ic_length])⟩ gx My.rebase) ?_
  clear T; rintro e wc ⟨Aur15_12, nur15_12, cur15_12, Iur15_12, rfl, hfsur15_12, N⟩ ac T
  replace M := Mem.joinX (X := [(se.fo, .cells [.slice none 0 0]), (ga15_6, .row 3 1 (l.length + 1) (ic l ++ [Zi (i : Int)]) ca15_6)]) (F := Il) Mq N (fun b h => h)
  clear N Mq My gx
  replace M : Mem w exq wc ((se.fo, .cells [.slice Aur15_12 nur15_12 cur15_12]) :: (Iur15_12 ++ Il)) := M
  refine Zso hK _ _ (M.perm [] rfl rfl) ?_; clear hK K
  refine Zgd (by kernel_rfl) ?_
  replace T := T.pick [0, 14, 15, 16, 17, 18, 19, 20] rfl
  refine nm_then ?_
  refine wp_cond_split (T.e 0 rfl) ?_ ?_
  ·intro h8
   refine Zsr ?_
   refine lq T (Zra rfl evc) ?_; clear T ac; intro ac T
   replace T := T.pick [0] rfl
   refine Zln ?_
   refine wp_ret ?_
   refine Zrb ?_
   refine Zrt ?_
   refine Zrt ?_
   refine Zrb ?_
   refine Zrt ?_
   refine rt_1 T rfl (T.e 0 rfl) ?_
   have hsf := H.trans (sFrom_some (by omega) (by rw [← hxr, Hm]; exact h8))
   rw [← hxr, Hm] at hsf
   rw [hsf]
   exact ⟨Aur15_12, nur15_12, cur15_12, Iur15_12, by rw [h8], hfsur15_12, M.sub (.cons_cons _ (Zsl _ _))⟩
  intro h8
  refine wp_skip ?_
  refine Znb ?_
  refine nm_then ?_
  refine wp_region_lit ?_
  refine Zg2 T (Zq (Zrm rfl (T.e 7 rfl))) rfl (fun _ T => Zq (rn_add rfl (T.e 0 rfl) evc (by omega))) rfl ?_; clear T ac; intro ac T
  refine l_q (v := (Zi ((i : Int) + 1))) (T.pick [0, 1, 2, 3, 4, 5, 6, 7, 8] rfl) rfl rfl rfl rfl (Zra rfl (T.e 0 rfl)) ?_; clear T ac; intro ac T
  replace T := T.pick [0, 4, 5, 6, 7, 8, 9] rfl
  refine Zln ?_
  have hno := hfsur15_12.none h8
  obtain ⟨rfl, rfl, rfl, rfl⟩ := hno
  replace M : Mem w exq wc ((se.fo, .cells [.slice none 0 0]) :: Il) := M
  exact ⟨_, by omega, i + 1, rfl, (by omega), (by omega), (by rw [H]; exact sFrom_none (by omega) (by rw [← hxr, Hm]; exact h8)), T.pick [1, 2, 3, 4, 5, 6, 0] rfl, M⟩
 intro h3
 refine wp_exit ?_
 refine Zet ?_
 refine Zet ?_
 refine ex_hit ?_
 refine nm_then ?_
 refine Zsr ?_
 refine lq T (Zra rfl evc) ?_; clear T ac; intro ac T
 replace T := T.pick [0] rfl
 refine Zln ?_
 refine wp_ret ?_
 refine rt_1 T rfl (T.e 0 rfl) ?_
 rw [H, sFrom_end (by omega)]
 exact ⟨none, 0, 0, [], rfl, .inl ⟨rfl, rfl, rfl, rfl, rfl⟩, M.sub (.cons_cons _ (Zz9 _))⟩
theorem found_any (se : SE) (Tb : List (List Int)) (hLL : se.LL.map (·.1) = Tb) (hT1 : Tb.length = se.b.lows.length) (hT2 : ∀ x ∈ Tb, x.length ≤ 5) (hlo : se.b.lows.length ≤ 4) : ∀ k : Nat, ShortSpec se Tb k
 | 0 => fun w exq l A m c fi lf first up Il hm hlk hfi hlf hf5 hup hl senv M0 => by
   subst hm hfi
   exact found_step se Tb 0 exq l A c lf first up Il w hLL hT1 hT2 hlo (fun _ h => by cases h) hlk hlf hf5 hup hl senv M0
 | k + 1 => fun w exq l A m c fi lf first up Il hm hlk hfi hlf hf5 hup hl senv M0 => by
   subst hm hfi
   exact found_step se Tb (k + 1) exq l A c lf first up Il w hLL hT1 hT2 hlo (fun k' h => by injection h with h; subst h; exact found_any se Tb hLL hT1 hT2 hlo _) hlk hlf hf5 hup hl senv M0
def LEPost (l : List Int) (er : Int) (w : World) (e : Ending) (w' : World) : Prop := ∃ A c I, e = .returned (.tuple #[.slice A l.length c, Zi er]) ∧ l.length ≤ 6 ∧ (∃ b o, ∀ (w : World) (ex : Nat → Prop), Sp w ex I A l.length 1 b o (ic l)) ∧ Mem w noEx w' I
def mostL (b : Bx) (ok : Int → Bool) : List Int := mostP (tableP b) ok b.lows.length b.highs.length
def matchE (b : Bx) : List Int × Int := if checkB b = 0 then (mostL b okA, 0) else ([], checkB b)
def mostE (b : Bx) : (Int × Int) × Int := if checkB b = 0 then ((pairsP (mostL b okA), pairsP (mostL b okM)), 0) else ((0, 0), checkB b)
def shortE (b : Bx) : List Int × Int := if checkB b = 0 then (if pairsP (mostL b okA) = b.lows.length then ([], 11) else ((sizeF (tableP b) b.lows.length 0).getD [], 0)) else ([], checkB b)
theorem LEPost.nil {er : Int} {w w' : World} {L : List (Nat × BA)} {e : Ending} (he : e = .returned (.tuple #[.slice none 0 0, Zi er])) (M : Mem w noEx w' L) : LEPost [] er w e w' := ⟨none, 0, [], he, by simp, ⟨0, 0, fun _ _ => Sp.nil⟩, M.sub (Zz9 _)⟩
theorem Match_any (b : Bx) (A : Option Addr) (c : Nat) (B : Option Addr) (d : Nat) (w : World) (hA : Rd w w.heap.size 4 A b.lows.length (sc b.lows)) (hB : Rd w w.heap.size 4 B b.highs.length (sc b.highs)) (nA : b.lows.length ≤ 1000000) (nB : b.highs.length ≤ 1000000)  :
   Calls Tryz.prog 10 #[bxV b A c B d] w (LEPost (matchE b).1 (matchE b).2 w) := by
 have hlA := hA.len4
 have hlB := hB.len4
 obtain ⟨bA, oA, SA⟩ := Sp.old hA
 obtain ⟨bB, oB, SB⟩ := Sp.old hB
 refine Zpx noEx Tryz.func10 rfl 12 rfl [.agg #[Zi b.first, Zi b.step, Zi b.span, Zi b.press, Zi b.note, .slice A b.lows.length c, .slice B b.highs.length d, Zi b.t0, Zi b.t1, Zi b.r0, Zi b.r1, Zi b.u0, Zi b.u1, Zi b.d0, Zi b.d1, Zi b.a0, Zi b.a1, Zi b.b0, Zi b.b1, Zi b.le, Zi b.me]] rfl rfl (Mem.init w _) ?_
 intro ac wc T M
 refine Zsr ?_
 refine Zl2 ?_
 refine Zob M T rfl rfl rfl rfl (T.e 0 rfl) rfl ?_; clear M T; intro g1 wc ac M T
 refine Zg2 T (Zq (Zra rfl evc)) rfl (Zc rfl) rfl ?_; clear T ac; intro ac T
 replace T := T.pick [2] rfl
 refine Zln ?_
 refine wp_seq ?_
 refine Zsr ?_
 refine lq T (Zrr (Mem.nth M 0 rfl) rfl (T.e 0 rfl) rfl) ?_; clear T ac; intro ac T
 refine Zl2 ?_
 refine Zoc (first := []) (cap := []) T rfl rfl rfl rfl evf (.cons (T.e 0 rfl) .nil) Tryz.func27 rfl rfl ?_
 refine Calls.mono (vCheck_any b _ _ _ _ _ (SA.rd M (Zz9 _)) (SB.rd M (Zz9 _)) (by omega) (by omega)) ?_
 clear T; rintro e wc ⟨rfl, hb⟩ ac T
 replace M := M.call hb; clear hb
 refine lq T (Zra rfl (T.e 0 rfl)) ?_; clear T ac; intro ac T
 replace T := T.pick [0, 3] rfl
 refine Zln ?_
 refine Zsr ?_
 refine Zg2 T (Zq (Zrm rfl (T.e 0 rfl))) rfl (fun _ T => Zq (rn_neq rfl (T.e 0 rfl) evc)) rfl ?_; clear T ac; intro ac T
 replace T := T.pick [0, 2, 3] rfl
 refine Zln ?_
 refine wp_ifn (T.e 0 rfl) ?_ ?_
 ·intro h1
  refine Zsr ?_
  refine Zg3 T (Zq (Zrm rfl (T.e 1 rfl))) rfl (Zc rfl) rfl (Za 1 rfl rfl) rfl ?_; clear T ac; intro ac T
  refine wpList_nil ?_
  replace T := T.pick [0, 1] rfl
  replace M := M.mask [false] rfl
  refine Znr ?_
  refine Zrt ?_
  refine rt_2 T rfl (T.e 1 rfl) (T.e 0 rfl) ?_
  have e9 : matchE b = ([], checkB b) := by unfold matchE; rw [if_neg (by simpa using h1)]
  rw [e9]
  exact LEPost.nil rfl M
 intro h1
 have gb := checkB_good.1 (show checkB b = 0 by simpa using h1)
 have nA5 := gb.lows.1
 have nB5 := gb.highs.1
 refine Zsk ?_
 refine Zsr ?_
 refine lq T (Zrr (Mem.nth M 0 rfl) rfl (T.e 2 rfl) rfl) ?_; clear T ac; intro ac T
 refine Zl2 ?_
 refine Zoc (first := []) (cap := []) T rfl rfl rfl rfl evf (.cons (T.e 0 rfl) (.cons evf .nil)) Tryz.func55 rfl rfl ?_
 refine Calls.mono (most_always b A c B d _ (SA.rd M (Zz9 _)) (SB.rd M (Zz9 _)) gb) ?_
 clear T; rintro e wc ⟨Au2, cu2, Iu2, rfl, h5u2, SVu2, N⟩ ac T
 obtain ⟨bu2, ou2, SVu2⟩ := SVu2
 obtain ⟨lmu2, hlmu2⟩ : ∃ q, q = mostP (tableP b) okA b.lows.length b.highs.length := ⟨_, rfl⟩
 rw [← hlmu2] at h5u2 SVu2
 have Su2 := SVu2 w noEx
 replace M := (M.join N).swapI
 replace M : Mem w noEx wc ((g1, .cells [Zi b.first, Zi b.step, Zi b.span, Zi b.press, Zi b.note, .slice A b.lows.length c, .slice B b.highs.length d, Zi b.t0, Zi b.t1, Zi b.r0, Zi b.r1, Zi b.u0, Zi b.u1, Zi b.d0, Zi b.d1, Zi b.a0, Zi b.a1, Zi b.b0, Zi b.b1, Zi b.le, Zi b.me]) :: Iu2) := M
 clear N
 rw [← hlmu2] at T
 refine Zg2 T (Zq (Zra rfl (T.e 0 rfl))) rfl (Zc rfl) rfl ?_; clear T ac; intro ac T
 refine wpList_nil ?_
 replace T := T.pick [0, 1] rfl
 replace M := M.mask [false] rfl
 refine Znr ?_
 refine rt_2 T rfl (T.e 1 rfl) (T.e 0 rfl) ?_
 have e9 : matchE b = (lmu2, 0) := by unfold matchE mostL; rw [if_pos (by simpa using h1), hlmu2]
 rw [e9]
 exact ⟨Au2, cu2, Iu2, rfl, Nat.le_trans h5u2 (by omega), ⟨_, _, SVu2⟩, M.sub ((List.Sublist.refl _))⟩
theorem Most_any (b : Bx) (A : Option Addr) (c : Nat) (B : Option Addr) (d : Nat) (w : World) (hA : Rd w w.heap.size 4 A b.lows.length (sc b.lows)) (hB : Rd w w.heap.size 4 B b.highs.length (sc b.highs)) (nA : b.lows.length ≤ 1000000) (nB : b.highs.length ≤ 1000000)  :
   Calls Tryz.prog 14 #[bxV b A c B d] w fun e w' => e = .returned (.tuple #[.agg #[Zi ((mostE b).1.1), Zi ((mostE b).1.2)], Zi ((mostE b).2)]) ∧ Below w.heap.size w w' := by
 have hlA := hA.len4
 have hlB := hB.len4
 obtain ⟨bA, oA, SA⟩ := Sp.old hA
 obtain ⟨bB, oB, SB⟩ := Sp.old hB
 refine Zpx noEx Tryz.func14 rfl 18 rfl [.agg #[Zi b.first, Zi b.step, Zi b.span, Zi b.press, Zi b.note, .slice A b.lows.length c, .slice B b.highs.length d, Zi b.t0, Zi b.t1, Zi b.r0, Zi b.r1, Zi b.u0, Zi b.u1, Zi b.d0, Zi b.d1, Zi b.a0, Zi b.a1, Zi b.b0, Zi b.b1, Zi b.le, Zi b.me]] rfl rfl (Mem.init w _) ?_
 intro ac wc T M
 refine Zsr ?_
 refine Zl2 ?_
 refine Zob M T rfl rfl rfl rfl (T.e 0 rfl) rfl ?_; clear M T; intro g1 wc ac M T
 refine Zl2 ?_
 refine Zoa M T rfl rfl rfl rfl ?_; clear M T; intro g2 wc ac M T
 refine lq T (Zra rfl evc) ?_; clear T ac; intro ac T
 replace T := T.pick [1, 2] rfl
 refine Zln ?_
 refine wp_seq ?_
 refine Zsr ?_
 refine lq T (Zrr (Mem.nth M 1 rfl) rfl (T.e 1 rfl) rfl) ?_; clear T ac; intro ac T
 refine Zl2 ?_
 refine Zoc (first := []) (cap := []) T rfl rfl rfl rfl evf (.cons (T.e 0 rfl) .nil) Tryz.func27 rfl rfl ?_
 refine Calls.mono (vCheck_any b _ _ _ _ _ (SA.rd M (Zz9 _)) (SB.rd M (Zz9 _)) (by omega) (by omega)) ?_
 clear T; rintro e wc ⟨rfl, hb⟩ ac T
 replace M := M.call hb; clear hb
 refine lq T (Zra rfl (T.e 0 rfl)) ?_; clear T ac; intro ac T
 replace T := T.pick [0, 3, 4] rfl
 refine Zln ?_
 refine Zsr ?_
 refine Zg2 T (Zq (Zrm rfl (T.e 0 rfl))) rfl (fun _ T => Zq (rn_neq rfl (T.e 0 rfl) evc)) rfl ?_; clear T ac; intro ac T
 replace T := T.pick [0, 2, 3, 4] rfl
 refine Zln ?_
 refine wp_ifn (T.e 0 rfl) ?_ ?_
 ·intro h1
  refine Zsr ?_
  refine Zg2 (v1 := (.agg #[Zi 0, Zi 0])) T (Zq (rn_build rfl .nil (fun _ => by kernel_rfl))) rfl (Zm 2 rfl rfl) rfl ?_; clear T ac; intro ac T
  refine Zl2 ?_
  refine Zos M T rfl rfl (T.e 4 rfl) (T.e 1 rfl) rfl .head rfl (by simp) rfl (by kernel_rfl) ?_; clear M T; intro wc ac M T
  refine lq T (Zra rfl (T.e 0 rfl)) ?_; clear T ac; intro ac T
  refine wpList_nil ?_
  replace T := T.pick [0, 5] rfl
  replace M := M.mask [true, false] rfl
  refine Znr ?_
  refine Zrt ?_
  refine rt_ct M T rfl (T.e 1 rfl) (T.e 0 rfl) (Zne (i := 0) rfl) rfl ?_
  have e9 : mostE b = ((0, 0), checkB b) := by unfold mostE; rw [if_neg (by simpa using h1)]
  rw [e9]
  exact ⟨rfl, M.below⟩
 intro h1
 have gb := checkB_good.1 (show checkB b = 0 by simpa using h1)
 have nA5 := gb.lows.1
 have nB5 := gb.highs.1
 refine Zsk ?_
 refine wp_seq ?_
 refine Zgs M (M.perm [1] rfl rfl) 9 (by kernel_rfl) rfl (by kernel_rfl) ?_
 clear M; intro wc M
 refine g_addG 7 M ?_
 refine gq T 0 1 rfl (fun B w' hD hl hS => (Zrr (Mem.nth (show Mem w noEx w' _ from ((MA.lft hS) (hD.wait (i := 0) (m := 7) (by kernel_rfl) hl))) 1 rfl) rfl (T.e 3 rfl) rfl)) ?_; clear T ac; intro ac T
 refine gq T 3 9 rfl (fun B w' hD hl hS => (Zrr (Mem.nth (show Mem w noEx w' _ from ((MA.lft hS) (hD.wait (i := 3) (m := 7) (by kernel_rfl) hl))) 1 rfl) rfl (T.e 4 rfl) rfl)) ?_; clear T ac; intro ac T
 refine gw 1 11 ?_; intro K hK
 refine Zoc (first := []) (cap := []) T rfl rfl rfl rfl evf (.cons (T.e 1 rfl) (.cons evf .nil)) Tryz.func55 rfl rfl ?_
 refine Calls.mono (most_always b A c B d _ (SA.rd M (Zz9 _)) (SB.rd M (Zz9 _)) gb) ?_
 clear T; rintro e wc ⟨Au2, cu2, Iu2, rfl, h5u2, SVu2, N⟩ ac T
 obtain ⟨bu2, ou2, SVu2⟩ := SVu2
 obtain ⟨lmu2, hlmu2⟩ : ∃ q, q = mostP (tableP b) okA b.lows.length b.highs.length := ⟨_, rfl⟩
 rw [← hlmu2] at h5u2 SVu2
 have Su2 := SVu2 w noEx
 replace M := (M.join N).swapI
 replace M : Mem w noEx wc ((g2, .cells [Zi 0, Zi 0]) :: (g1, .cells [Zi b.first, Zi b.step, Zi b.span, Zi b.press, Zi b.note, .slice A b.lows.length c, .slice B b.highs.length d, Zi b.t0, Zi b.t1, Zi b.r0, Zi b.r1, Zi b.u0, Zi b.u1, Zi b.d0, Zi b.d1, Zi b.a0, Zi b.a1, Zi b.b0, Zi b.b1, Zi b.le, Zi b.me]) :: Iu2) := M
 clear N
 rw [← hlmu2] at T
 refine Zso hK _ _ (MA.mk (fun _ => M.perm [0, 1] rfl rfl) (M.perm [1] rfl rfl)) ?_; clear hK K
 refine gw 2 15 ?_; intro K hK
 refine Zoc (first := []) (cap := []) T rfl rfl rfl rfl evf (.cons (T.e 0 rfl) .nil) Tryz.func58 rfl rfl ?_
 refine Calls.mono (pairs_any _ _ _ lmu2 _ (Su2.rd M (.cons _ (.cons _ (List.Sublist.refl _)))) (by omega)) ?_
 clear T; rintro e wc ⟨rfl, hb⟩ ac T
 replace M := M.call hb; clear hb
 refine Zso hK _ _ (MA.mk (fun _ => M.perm [0, 1] rfl rfl) (M.perm [1] rfl rfl)) ?_; clear hK K
 refine gw 4 31 ?_; intro K hK
 refine Zoc (first := []) (cap := []) T rfl rfl rfl rfl evf (.cons (T.e 2 rfl) (.cons evf .nil)) Tryz.func55 rfl rfl ?_
 refine Calls.mono (most_maybe b A c B d _ (SA.rd M (Zz9 _)) (SB.rd M (Zz9 _)) gb) ?_
 clear T; rintro e wc ⟨Au4, cu4, Iu4, rfl, h5u4, SVu4, N⟩ ac T
 obtain ⟨bu4, ou4, SVu4⟩ := SVu4
 obtain ⟨lmu4, hlmu4⟩ : ∃ q, q = mostP (tableP b) okM b.lows.length b.highs.length := ⟨_, rfl⟩
 rw [← hlmu4] at h5u4 SVu4
 have Su4 := SVu4 w noEx
 replace M := (M.join N).swapI
 replace M : Mem w noEx wc ((g2, .cells [Zi 0, Zi 0]) :: (g1, .cells [Zi b.first, Zi b.step, Zi b.span, Zi b.press, Zi b.note, .slice A b.lows.length c, .slice B b.highs.length d, Zi b.t0, Zi b.t1, Zi b.r0, Zi b.r1, Zi b.u0, Zi b.u1, Zi b.d0, Zi b.d1, Zi b.a0, Zi b.a1, Zi b.b0, Zi b.b1, Zi b.le, Zi b.me]) :: (Iu2 ++ Iu4)) := M
 clear N
 rw [← hlmu4] at T
 refine Zso hK _ _ (MA.mk (fun _ => M.perm [0, 1] rfl rfl) (M.perm [1] rfl rfl)) ?_; clear hK K
 refine gw 5 63 ?_; intro K hK
 refine Zoc (first := []) (cap := []) T rfl rfl rfl rfl evf (.cons (T.e 0 rfl) .nil) Tryz.func58 rfl rfl ?_
 refine Calls.mono (pairs_any _ _ _ lmu4 _ (Su4.rd M (.cons _ (.cons _ (Zsq _ _)))) (by omega)) ?_
 clear T; rintro e wc ⟨rfl, hb⟩ ac T
 replace M := M.call hb; clear hb
 refine Zso hK _ _ (MA.mk (fun _ => M.perm [0, 1] rfl rfl) (M.perm [1] rfl rfl)) ?_; clear hK K
 refine gq (v := (.agg #[Zi (pairsP lmu2), Zi (pairsP lmu4)])) T 6 127 rfl (fun _ _ _ _ _ => (rn_build rfl (.cons (T.e 2 rfl) (.cons (T.e 0 rfl) .nil)) (fun _ => by kernel_rfl))) ?_; clear T ac; intro ac T
 refine gw 7 255 ?_; intro K hK
 refine Zos M T rfl rfl (T.e 9 rfl) (T.e 0 rfl) rfl .head rfl (by simp) rfl (by kernel_rfl) ?_; clear M T; intro wc ac M T
 refine Zso hK _ _ (MA.mk (fun h => (no_of (by kernel_rfl) h).elim) (M.perm [1] rfl rfl)) ?_; clear hK K
 refine gq T 8 511 rfl (fun _ _ _ _ _ => (Zra rfl evc)) ?_; clear T ac; intro ac T
 refine Zgd (by kernel_rfl) ?_
 replace T := T.pick [0, 10] rfl
 replace M := M.mask [true, false] rfl
 refine Znr ?_
 refine rt_ct M T rfl (T.e 1 rfl) (T.e 0 rfl) (Zne (i := 0) rfl) rfl ?_
 have e9 : mostE b = ((pairsP lmu2, pairsP lmu4), 0) := by unfold mostE mostL; rw [if_pos (by simpa using h1), hlmu2, hlmu4]
 rw [e9]
 exact ⟨rfl, M.below⟩
theorem Short_any (b : Bx) (A : Option Addr) (c : Nat) (B : Option Addr) (d : Nat) (w : World) (hA : Rd w w.heap.size 4 A b.lows.length (sc b.lows)) (hB : Rd w w.heap.size 4 B b.highs.length (sc b.highs)) (nA : b.lows.length ≤ 1000000) (nB : b.highs.length ≤ 1000000)  :
   Calls Tryz.prog 12 #[bxV b A c B d] w (LEPost (shortE b).1 (shortE b).2 w) := by
 have hlA := hA.len4
 have hlB := hB.len4
 obtain ⟨bA, oA, SA⟩ := Sp.old hA
 obtain ⟨bB, oB, SB⟩ := Sp.old hB
 refine Zpx noEx Tryz.func12 rfl 40 rfl [.agg #[Zi b.first, Zi b.step, Zi b.span, Zi b.press, Zi b.note, .slice A b.lows.length c, .slice B b.highs.length d, Zi b.t0, Zi b.t1, Zi b.r0, Zi b.r1, Zi b.u0, Zi b.u1, Zi b.d0, Zi b.d1, Zi b.a0, Zi b.a1, Zi b.b0, Zi b.b1, Zi b.le, Zi b.me]] rfl rfl (Mem.init w _) ?_
 intro ac wc T M
 refine Zsr ?_
 refine Zl2 ?_
 refine Zob M T rfl rfl rfl rfl (T.e 0 rfl) rfl ?_; clear M T; intro g1 wc ac M T
 refine Zg2 T (Zq (Zra rfl evc)) rfl (Zc rfl) rfl ?_; clear T ac; intro ac T
 replace T := T.pick [2] rfl
 refine Zln ?_
 refine wp_seq ?_
 refine Zsr ?_
 refine lq T (Zrr (Mem.nth M 0 rfl) rfl (T.e 0 rfl) rfl) ?_; clear T ac; intro ac T
 refine Zl2 ?_
 refine Zoc (first := []) (cap := []) T rfl rfl rfl rfl evf (.cons (T.e 0 rfl) .nil) Tryz.func27 rfl rfl ?_
 refine Calls.mono (vCheck_any b _ _ _ _ _ (SA.rd M (Zz9 _)) (SB.rd M (Zz9 _)) (by omega) (by omega)) ?_
 clear T; rintro e wc ⟨rfl, hb⟩ ac T
 replace M := M.call hb; clear hb
 refine lq T (Zra rfl (T.e 0 rfl)) ?_; clear T ac; intro ac T
 replace T := T.pick [0, 3] rfl
 refine Zln ?_
 refine Zsr ?_
 refine Zg2 T (Zq (Zrm rfl (T.e 0 rfl))) rfl (fun _ T => Zq (rn_neq rfl (T.e 0 rfl) evc)) rfl ?_; clear T ac; intro ac T
 replace T := T.pick [0, 2, 3] rfl
 refine Zln ?_
 refine wp_ifn (T.e 0 rfl) ?_ ?_
 ·intro h1
  refine Zsr ?_
  refine Zg3 T (Zq (Zrm rfl (T.e 1 rfl))) rfl (Zc rfl) rfl (Za 1 rfl rfl) rfl ?_; clear T ac; intro ac T
  refine wpList_nil ?_
  replace T := T.pick [0, 1] rfl
  replace M := M.mask [false] rfl
  refine Znr ?_
  refine Zrt ?_
  refine rt_2 T rfl (T.e 1 rfl) (T.e 0 rfl) ?_
  have e9 : shortE b = ([], checkB b) := by unfold shortE; rw [if_neg (by simpa using h1)]
  rw [e9]
  exact LEPost.nil rfl M
 intro h1
 have gb := checkB_good.1 (show checkB b = 0 by simpa using h1)
 have nA5 := gb.lows.1
 have nB5 := gb.highs.1
 refine Zsk ?_
 refine wp_seq ?_
 refine wp_seq ?_
 refine Zgs M (M.mask [true] rfl) 7 (by kernel_rfl) rfl (by kernel_rfl) ?_
 clear M; intro wc M
 refine gq T 0 1 rfl (fun B w' hD hl hS => (Zrr (Mem.nth (show Mem w noEx w' _ from hS) 0 rfl) rfl (T.e 2 rfl) rfl)) ?_; clear T ac; intro ac T
 refine gq (v := (.pointer (some ⟨g1, 5, none⟩))) T 3 9 rfl (fun _ _ _ _ _ => (Zrf (off := 5) rfl (T.e 3 rfl) (fun _ _ _ => by kernel_rfl))) ?_; clear T ac; intro ac T
 refine gq T 4 25 rfl (fun B w' hD hl hS => (Zro (Mem.nth (show Mem w noEx w' _ from hS) 0 rfl) rfl (T.e 0 rfl) rfl)) ?_; clear T ac; intro ac T
 refine gq T 5 57 rfl (fun _ _ _ _ _ => (Zrl rfl Tryz.underlying24 (T.e 0 rfl))) ?_; clear T ac; intro ac T
 refine gw 1 59 ?_; intro K hK
 refine Zoc (first := []) (cap := []) T rfl rfl rfl rfl evf (.cons (T.e 3 rfl) (.cons evf .nil)) Tryz.func55 rfl rfl ?_
 refine Calls.mono (most_always b A c B d _ (SA.rd M (Zz9 _)) (SB.rd M (Zz9 _)) gb) ?_
 clear T; rintro e wc ⟨Au2, cu2, Iu2, rfl, h5u2, SVu2, N⟩ ac T
 obtain ⟨bu2, ou2, SVu2⟩ := SVu2
 obtain ⟨lmu2, hlmu2⟩ : ∃ q, q = mostP (tableP b) okA b.lows.length b.highs.length := ⟨_, rfl⟩
 rw [← hlmu2] at h5u2 SVu2
 have Su2 := SVu2 w noEx
 replace M := (M.join N).swapI
 replace M : Mem w noEx wc ((g1, .cells [Zi b.first, Zi b.step, Zi b.span, Zi b.press, Zi b.note, .slice A b.lows.length c, .slice B b.highs.length d, Zi b.t0, Zi b.t1, Zi b.r0, Zi b.r1, Zi b.u0, Zi b.u1, Zi b.d0, Zi b.d1, Zi b.a0, Zi b.a1, Zi b.b0, Zi b.b1, Zi b.le, Zi b.me]) :: Iu2) := M
 clear N
 rw [← hlmu2] at T
 refine Zso hK _ _ (M.perm [0] rfl rfl) ?_; clear hK K
 refine gw 2 63 ?_; intro K hK
 refine Zoc (first := []) (cap := []) T rfl rfl rfl rfl evf (.cons (T.e 0 rfl) .nil) Tryz.func58 rfl rfl ?_
 refine Calls.mono (pairs_any _ _ _ lmu2 _ (Su2.rd M (.cons _ (List.Sublist.refl _))) (by omega)) ?_
 clear T; rintro e wc ⟨rfl, hb⟩ ac T
 replace M := M.call hb; clear hb
 refine Zso hK _ _ (M.perm [0] rfl rfl) ?_; clear hK K
 refine gq T 6 127 rfl (fun _ _ _ _ _ => (rn_eql rfl (T.e 0 rfl) (T.e 2 rfl))) ?_; clear T ac; intro ac T
 refine Zgd (by kernel_rfl) ?_
 replace T := T.pick [0, 9] rfl
 refine nm_then ?_
 refine wp_if (T.e 0 rfl) ?_ ?_
 ·intro h2
  refine Zsr ?_
  refine Zg2 T (Zq (Zra rfl evc)) rfl (Zc rfl) rfl ?_; clear T ac; intro ac T
  refine wpList_nil ?_
  replace T := T.pick [0, 1] rfl
  replace M := M.mask [false] rfl
  refine Znr ?_
  refine Zrt ?_
  refine rt_2 T rfl (T.e 1 rfl) (T.e 0 rfl) ?_
  have e9 : shortE b = ([], 11) := by unfold shortE mostL; rw [if_pos (by simpa using h1), ← hlmu2, if_pos (by omega)]
  rw [e9]
  exact LEPost.nil rfl M
 intro h2
 refine Zsk ?_
 refine Zsr ?_
 refine lq T (Zrr (Mem.nth M 0 rfl) rfl (T.e 1 rfl) rfl) ?_; clear T ac; intro ac T
 refine Zl2 ?_
 refine Zoc (first := []) (cap := []) T rfl rfl rfl rfl evf (.cons (T.e 0 rfl) .nil) Tryz.func59 rfl rfl ?_
 refine Calls.mono (table_any b A c B d _ (SA.rd M (Zz9 _)) (SB.rd M (Zz9 _)) gb) ?_
 clear T; rintro e wc ⟨Au4, cu4, LLu4, Iu4, rfl, hLu4, hSu4, hEu4, N⟩ ac T
 replace M := (M.join N).swapI
 replace M : Mem w noEx wc ((g1, .cells [Zi b.first, Zi b.step, Zi b.span, Zi b.press, Zi b.note, .slice A b.lows.length c, .slice B b.highs.length d, Zi b.t0, Zi b.t1, Zi b.r0, Zi b.r1, Zi b.u0, Zi b.u1, Zi b.d0, Zi b.d1, Zi b.a0, Zi b.a1, Zi b.b0, Zi b.b1, Zi b.le, Zi b.me]) :: (Iu2 ++ Iu4)) := M
 clear N
 refine Zl2 ?_
 refine Zoa M T rfl rfl rfl rfl ?_; clear M T; intro g2 wc ac M T
 refine Zl2 ?_
 refine Zos M T rfl rfl (T.e 0 rfl) (T.e 1 rfl) rfl .head rfl (by simp) rfl (by kernel_rfl) ?_; clear M T; intro wc ac M T
 replace T := T.pick [0, 4] rfl
 refine Zln ?_
 refine Zsr ?_
 refine Zl2 ?_
 refine Zoa M T rfl rfl rfl rfl ?_; clear M T; intro g3 wc ac M T
 refine Zln ?_
 refine Zsr ?_
 refine Zl2 ?_
 refine Zoa M T rfl rfl rfl rfl ?_; clear M T; intro g4 wc ac M T
 refine Zln ?_
 refine Zsr ?_
 refine lq (v := (.func (.func 60) #[] #[Zj g3, Zj g1, Zj g2, Zj g4])) T (rn_makeFunc rfl .nil (.cons (T.e 1 rfl) (.cons (T.e 3 rfl) (.cons (T.e 2 rfl) (.cons (T.e 0 rfl) .nil))))) ?_; clear T ac; intro ac T
 refine Zl2 ?_
 refine Zos M T rfl rfl (T.e 1 rfl) (T.e 0 rfl) rfl .head rfl (by simp) rfl (by kernel_rfl) ?_; clear M T; intro wc ac M T
 replace T := T.pick [1, 2, 4] rfl
 refine Zln ?_
 refine wp_seq ?_
 refine Zsr ?_
 refine Zg5 (v1 := (.pointer (some ⟨g1, 5, none⟩))) T (Zq (Zrf (off := 5) rfl (T.e 2 rfl) (fun _ _ _ => by kernel_rfl))) rfl (Zo M 3 0 rfl rfl rfl rfl) rfl (Zl Tryz.underlying24 0 rfl rfl) rfl (fun _ T => Zq (rn_add rfl (T.e 0 rfl) evc (by omega))) rfl (fun _ T => Zq (Zrm rfl evc)) rfl ?_; clear T ac; intro ac T
 replace T := T.pick [0, 1, 5, 6] rfl
 refine Zln ?_
 refine wp_block ?_
 refine wp_loop_n (fun mz ac wc => ∃ (s : Nat), mz = b.lows.length + 1 - s ∧ (s ≤ b.lows.length + 1) ∧ (sizeF (tableP b) b.lows.length 0 = sizeF (tableP b) b.lows.length s) ∧ Tm ac 40 [(6, Zj g3), (7, Zj g4), (27, Zi (((b.lows.length : Nat) : Int) + 1)), (28, Zi (s : Int))] ∧ Mem w noEx wc ((g4, .cells [.func (.func 60) #[] #[Zj g3, Zj g1, Zj g2, Zj g4]]) :: (g3, .cells [.slice none 0 0]) :: (g2, .cells [.slice Au4 LLu4.length cu4]) :: (g1, .cells [Zi b.first, Zi b.step, Zi b.span, Zi b.press, Zi b.note, .slice A b.lows.length c, .slice B b.highs.length d, Zi b.t0, Zi b.t1, Zi b.r0, Zi b.r1, Zi b.u0, Zi b.u1, Zi b.d0, Zi b.d1, Zi b.a0, Zi b.a1, Zi b.b0, Zi b.b1, Zi b.le, Zi b.me]) :: (Iu2 ++ Iu4))) ?_ ?_
 ·exact ⟨_, 0, rfl, (by omega), rfl, T.pick [3, 2, 1, 0] rfl, M.mask [true, true, true, true] rfl⟩
 clear T M
 rintro mz ac wc ⟨s, hmm1, hs, H, T, M⟩
 refine Zsr ?_
 refine lq T (rn_lss rfl (T.e 3 rfl) (T.e 2 rfl)) ?_; clear T ac; intro ac T
 refine Zln ?_
 refine wp_seq ?_
 refine wp_if (T.e 0 rfl) ?_ ?_
 ·intro h3
  refine Zsk ?_
  refine wp_seq ?_
  refine wp_block ?_
  refine Zsr ?_
  refine Zg2 T (Zq (Zrm rfl (T.e 4 rfl))) rfl (Za 0 rfl rfl) rfl ?_; clear T ac; intro ac T
  replace T := T.pick [0, 3, 4, 5, 6] rfl
  refine Zln ?_
  refine Zsr ?_
  refine Zg3 T (Zq (Zrm rfl (T.e 0 rfl))) rfl (fun _ T => Zq (rn_gtr rfl (T.e 0 rfl) evc)) rfl (Zm 0 rfl rfl) rfl ?_; clear T ac; intro ac T
  rcases Bool.eq_false_or_eq_true (decide (0 < (s : Int))) with h4 | h4
  ·replace h4 := of_decide_eq_true h4
   refine Zg2 T (Zw (Zwy rfl rfl (T.e 0 rfl) (Zdt h4)) (Zro (Mem.nth M 0 rfl) rfl (T.e 5 rfl) rfl)) rfl (fun _ T => Zw (Zwy rfl rfl (T.e 1 rfl) (Zdt h4)) (Zrm rfl (T.e 4 rfl))) rfl ?_; clear T ac; intro ac T
   refine l_w (Zwy rfl rfl (T.e 2 rfl) (Zdt h4)) ?_; intro K hK
   have Mq : Mem w noEx wc ([(g3, .cells [.slice none 0 0])] ++ ((g4, .cells [.func (.func 60) #[] #[Zj g3, Zj g1, Zj g2, Zj g4]]) :: (g2, .cells [.slice Au4 LLu4.length cu4]) :: (g1, .cells [Zi b.first, Zi b.step, Zi b.span, Zi b.press, Zi b.note, .slice A b.lows.length c, .slice B b.highs.length d, Zi b.t0, Zi b.t1, Zi b.r0, Zi b.r1, Zi b.u0, Zi b.u1, Zi b.d0, Zi b.d1, Zi b.a0, Zi b.a1, Zi b.b0, Zi b.b1, Zi b.le, Zi b.me]) :: (Iu2 ++ Iu4))) := M.permT [1, 0, 2, 3] 4 rfl rfl rfl rfl
   have gx : SEnv (⟨g3, g1, g2, g4, b, A, c, B, d, Au4, cu4, LLu4⟩ : SE) wc (inL [(g3, .cells [.slice none 0 0])]) := ⟨Old.of Mq (fun _ h => h) (Zne (i := 2) rfl), Old.of Mq (fun _ h => h) (Zne (i := 1) rfl), Old.of Mq (fun _ h => h) (Zne (i := 0) rfl), (by obtain ⟨b9, o9, h9⟩ := hSu4; exact ⟨b9, o9, Sp.of Mq (fun _ h => h) (h9 w noEx) (.cons _ (.cons _ (.cons _ (Zsq _ _))))⟩), fun x hx => (by obtain ⟨b9, o9, h9⟩ := hEu4 x hx; exact ⟨b9, o9, Sp.of Mq (fun _ h => h) (h9 w noEx) (.cons _ (.cons _ (.cons _ (Zsq _ _))))⟩)⟩
   have My : Mem w noEx wc [(g3, .cells [.slice none 0 0])] := Mq.sub (Zsl _ _)
   refine Zoc (first := []) (cap := [Zj g3, Zj g1, Zj g2, Zj g4]) T rfl rfl rfl rfl (T.e 1 rfl) (.cons evc (.cons evc (.cons (T.e 0 rfl) (.cons evc .nil)))) Tryz.func60 rfl rfl ?_
   refine Calls.mono (found_any (⟨g3, g1, g2, g4, b, A, c, B, d, Au4, cu4, LLu4⟩ : SE) (tableP b) hLu4 (tableP_len b).1 (fun x hx => by rw [(tableP_len b).2 x hx]; exact nB5) nA5 s wc _ [] none 0 0 0 _ 0 0 [] rfl (by simp; omega) rfl rfl (by omega) (by omega) ⟨0, 0, fun _ _ => Sp.nil⟩ gx My.rebase) ?_
   clear T; rintro e wc ⟨Au5, nu5, cu5, Iu5, rfl, hfsu5, N⟩ ac T
   replace M := Mem.spin [(g3, .cells [.slice Au5 nu5 cu5])] Iu5 ((g4, .cells [.func (.func 60) #[] #[Zj g3, Zj g1, Zj g2, Zj g4]]) :: (g2, .cells [.slice Au4 LLu4.length cu4]) :: (g1, .cells [Zi b.first, Zi b.step, Zi b.span, Zi b.press, Zi b.note, .slice A b.lows.length c, .slice B b.highs.length d, Zi b.t0, Zi b.t1, Zi b.r0, Zi b.r1, Zi b.u0, Zi b.u1, Zi b.d0, Zi b.d1, Zi b.a0, Zi b.a1, Zi b.b0, Zi b.b1, Zi b.le, Zi b.me]) :: (Iu2 ++ Iu4)) (Mem.joinX (X := [(g3, .cells [.slice none 0 0])]) (F := ((g4, .cells [.func (.func 60) #[] #[Zj g3, Zj g1, Zj g2, Zj g4]]) :: (g2, .cells [.slice Au4 LLu4.length cu4]) :: (g1, .cells [Zi b.first, Zi b.step, Zi b.span, Zi b.press, Zi b.note, .slice A b.lows.length c, .slice B b.highs.length d, Zi b.t0, Zi b.t1, Zi b.r0, Zi b.r1, Zi b.u0, Zi b.u1, Zi b.d0, Zi b.d1, Zi b.a0, Zi b.a1, Zi b.b0, Zi b.b1, Zi b.le, Zi b.me]) :: (Iu2 ++ Iu4))) Mq N (fun b h => h))
   clear N Mq My gx
   replace M : Mem w noEx wc ((g3, .cells [.slice Au5 nu5 cu5]) :: (g4, .cells [.func (.func 60) #[] #[Zj g3, Zj g1, Zj g2, Zj g4]]) :: (g2, .cells [.slice Au4 LLu4.length cu4]) :: (g1, .cells [Zi b.first, Zi b.step, Zi b.span, Zi b.press, Zi b.note, .slice A b.lows.length c, .slice B b.highs.length d, Zi b.t0, Zi b.t1, Zi b.r0, Zi b.r1, Zi b.u0, Zi b.u1, Zi b.d0, Zi b.d1, Zi b.a0, Zi b.a1, Zi b.b0, Zi b.b1, Zi b.le, Zi b.me]) :: (Iu2 ++ Iu4 ++ Iu5)) := M
   refine Zso hK _ _ ?_; clear hK K
   refine lq T (Zr1 rfl (T.e 3 rfl) (Zdt h4) (T.e 0 rfl)) ?_; clear T ac; intro ac T
   replace T := T.pick [0, 1, 2, 3, 8, 9, 10, 11] rfl
   refine Zln ?_
   refine wp_cond_split (T.e 0 rfl) ?_ ?_
   ·intro h5
    refine wp_exit ?_
    refine ex_miss rfl ?_
    refine Zet ?_
    refine Zet ?_
    refine ex_hit ?_
    refine nm_then ?_
    refine Zsr ?_
    refine Zg3 T (Zq (Zro (Mem.nth M 0 rfl) rfl (T.e 4 rfl) rfl)) rfl (Za 0 rfl rfl) rfl (Zc rfl) rfl ?_; clear T ac; intro ac T
    refine wpList_nil ?_
    replace T := T.pick [0, 1] rfl
    replace M := M.mask [false, false, false, false] rfl
    replace M : Mem w noEx wc ((Iu2 ++ Iu4 ++ Iu5)) := M
    refine Znr ?_
    refine rt_2 T rfl (T.e 1 rfl) (T.e 0 rfl) ?_
    have e9 : shortE b = ((shortP (tableP b) b.lows.length s [] 0 0).getD [], 0) := by unfold shortE mostL; rw [if_pos (by simpa using h1), ← hlmu2, if_neg (by omega), H, sizeF_some (n := b.lows.length) (by omega) (by omega) h5]
    rw [e9]
    obtain ⟨hn1, hn2⟩ := hfsu5.len
    have hsp := hfsu5.sp
    subst hn1
    exact ⟨Au5, cu5, Iu5, rfl, Nat.le_trans hn2 (by omega), hsp, M.sub ((Zsq _ _))⟩
   intro h5
   refine wp_skip ?_
   refine Znb ?_
   refine nm_then ?_
   refine wp_region_lit ?_
   refine lq T (rn_add rfl (T.e 7 rfl) evc (by omega)) ?_; clear T ac; intro ac T
   refine l_q (v := (Zi ((s : Int) + 1))) (T.pick [0, 1, 2, 3, 4, 5, 6, 7] rfl) rfl rfl rfl rfl (Zrm rfl (T.e 0 rfl)) ?_; clear T ac; intro ac T
   replace T := T.pick [0, 3, 4, 5, 6, 7, 8] rfl
   refine Zln ?_
   have hno := hfsu5.none h5
   obtain ⟨rfl, rfl, rfl, rfl⟩ := hno
   rw [List.append_nil] at M
   replace M : Mem w noEx wc ((g3, .cells [.slice none 0 0]) :: (g4, .cells [.func (.func 60) #[] #[Zj g3, Zj g1, Zj g2, Zj g4]]) :: (g2, .cells [.slice Au4 LLu4.length cu4]) :: (g1, .cells [Zi b.first, Zi b.step, Zi b.span, Zi b.press, Zi b.note, .slice A b.lows.length c, .slice B b.highs.length d, Zi b.t0, Zi b.t1, Zi b.r0, Zi b.r1, Zi b.u0, Zi b.u1, Zi b.d0, Zi b.d1, Zi b.a0, Zi b.a1, Zi b.b0, Zi b.b1, Zi b.le, Zi b.me]) :: (Iu2 ++ Iu4)) := M
   exact ⟨_, by omega, s + 1, rfl, (by omega), (by rw [H]; exact sizeF_none (n := b.lows.length) (by omega) (by omega) h5), T.pick [4, 5, 6, 0] rfl, M.permT [1, 0, 2, 3] 4 rfl rfl rfl rfl⟩
  replace h4 := of_decide_eq_false h4
  refine Zg4 T (Zp (Zwn rfl rfl (T.e 0 rfl) (Zdf h4))) rfl (fun _ T => Zp (Zwn rfl rfl (T.e 1 rfl) (Zdf h4))) rfl (fun _ T => Zp (Zwn rfl rfl (T.e 2 rfl) (Zdf h4))) rfl (fun _ T => Zq (Zr0 rfl (T.e 3 rfl) (Zdf h4) evc)) rfl ?_; clear T ac; intro ac T
  replace T := T.pick [0, 1, 2, 3, 8, 9, 10, 11] rfl
  refine Zln ?_
  refine wp_cond_false (T.e 0 rfl) ?_
  refine wp_skip ?_
  refine Znb ?_
  refine nm_then ?_
  refine wp_region_lit ?_
  refine lq T (rn_add rfl (T.e 7 rfl) evc (by omega)) ?_; clear T ac; intro ac T
  refine l_q (v := (Zi ((s : Int) + 1))) (T.pick [0, 1, 2, 3, 4, 5, 6, 7] rfl) rfl rfl rfl rfl (Zrm rfl (T.e 0 rfl)) ?_; clear T ac; intro ac T
  replace T := T.pick [0, 3, 4, 5, 6, 7, 8] rfl
  refine Zln ?_
  exact ⟨_, by omega, s + 1, rfl, (by omega), (by rw [H]; obtain rfl : s = 0 := (by omega); exact sizeF_zero _ _), T.pick [4, 5, 6, 0] rfl, M.permT [0, 1, 2, 3] 4 rfl rfl rfl rfl⟩
 intro h3
 refine wp_exit ?_
 refine Zet ?_
 refine Zet ?_
 refine ex_hit ?_
 refine nm_then ?_
 refine Zsr ?_
 refine Zg3 T (Zq (Zro (Mem.nth M 1 rfl) rfl (T.e 1 rfl) rfl)) rfl (Za 0 rfl rfl) rfl (Zc rfl) rfl ?_; clear T ac; intro ac T
 refine wpList_nil ?_
 replace T := T.pick [0, 1] rfl
 replace M := M.mask [false, false, false, false] rfl
 refine Znr ?_
 refine rt_2 T rfl (T.e 1 rfl) (T.e 0 rfl) ?_
 have e9 : shortE b = ([], 0) := by unfold shortE mostL; rw [if_pos (by simpa using h1), ← hlmu2, if_neg (by omega), H, sizeF_end (by omega)]; rfl
 rw [e9]
 exact LEPost.nil rfl M
abbrev LS := List Snd × Option Addr × Nat
def lsC (l : List LS) : List Value := l.map fun x => .slice x.2.1 x.1.length x.2.2
theorem lsC_length (l : List LS) : (lsC l).length = l.length := by simp [lsC]
theorem Sp.ls0 {w w' : World} {ex : Nat → Prop} {I L : List (Nat × BA)} {A : Option Addr} {n b o k : Nat} {r : List LS} {x : List Snd} {B : Option Addr} {c : Nat} (S : Sp w ex I A n 1 b o (lsC r)) (M : Mem w ex w' L) (hI : I.Sublist L) (h : r[k]? = some (x, B, c)) : w'.cell? ⟨b, o + k * 1, none⟩ = some (.slice B x.length c) := by
 rw [Nat.mul_one]
 exact S.cell w' L M hI k _ (by unfold lsC; rw [List.getElem?_map, h]; rfl)
abbrev rowsOf (l : List LS) : List (List Snd) := l.map (·.1)
def ElsS (w : World) (l : List LS) : Prop := ∀ x ∈ l, Rd w w.heap.size 4 x.2.1 x.1.length (sc x.1)
def notesP (R : List (List Snd)) : Nat := (R.headD []).length
theorem notesP_at {LL : List LS} {x : List Snd} {B : Option Addr} {d : Nat} (h : LL[0]? = some (x, B, d)) : notesP (rowsOf LL) = x.length := by
 cases LL with
 | nil => simp at h
 | cons y r =>
  simp at h
  subst h
  rfl
def rowsE (n : Nat) : List (List Snd) → Int
 | [] => 0
 | x :: r => if 6 < x.length then 6 else if x.length ≠ n then 2 else if sndsE x 6 ≠ 0 then sndsE x 6 else rowsE n r
def dueO (l : Lw) (n : Nat) : Bool := decide (0 ≤ l.first + l.step * (n : Int) ∧ l.first + l.step * (n : Int) ≤ 30)
def checkS (l : Lw) (R : List (List Snd)) : Int :=
 if lawE l ≠ 0 then lawE l else if 4 < R.length then 6 else if rowsE (notesP R) R ≠ 0 then rowsE (notesP R) R else if (List.range (notesP R)).all (dueO l) = true then 0 else 1
theorem rowsE_good : ∀ {n : Nat} {R : List (List Snd)}, rowsE n R = 0 → ∀ x ∈ R, x.length ≤ 6 ∧ x.length = n ∧ ∀ y ∈ x, y.good
 | n, [], _, x, hx => by cases hx
 | n, a :: r, h, x, hx => by
  unfold rowsE at h
  split at h
  ·contradiction
  ·split at h
   ·contradiction
   ·split at h
    ·contradiction
    ·rename_i h1 h2 h3
     rcases List.mem_cons.1 hx with rfl | hx
     ·exact ⟨by omega, by simpa using h2, (sndsE_good (by simpa using h3)).2⟩
     ·exact rowsE_good h x hx
theorem good_rowsE : ∀ {n : Nat} {R : List (List Snd)}, (∀ x ∈ R, x.length ≤ 6 ∧ x.length = n ∧ ∀ y ∈ x, y.good) → rowsE n R = 0
 | n, [], _ => rfl
 | n, a :: r, h => by
  obtain ⟨h1, h2, h3⟩ := h a Zz2
  unfold rowsE
  rw [if_neg (by omega), if_neg (by simpa using h2), if_neg (by rw [good_sndsE (by omega) h3]; simp)]
  exact good_rowsE fun x hx => h x (Zz1 hx)
structure SGood (l : Lw) (R : List (List Snd)) : Prop where
 law : l.good
 len : R.length ≤ 4
 rows : ∀ x ∈ R, x.length ≤ 6 ∧ x.length = notesP R ∧ ∀ y ∈ x, y.good
 dues : ∀ n, n < notesP R → dueO l n = true
theorem SGood.notes {l : Lw} {R : List (List Snd)} (h : SGood l R) : notesP R ≤ 6 := by
 cases R with
 | nil => simp [notesP]
 | cons a r => exact (h.rows a Zz2).1
theorem checkS_good {l : Lw} {R : List (List Snd)} : checkS l R = 0 ↔ SGood l R := by
 unfold checkS
 constructor
 ·intro h
  split at h
  ·contradiction
  ·split at h
   ·contradiction
   ·split at h
    ·contradiction
    ·split at h
     ·rename_i h1 h2 h3 h4
      simp only [ne_eq, Decidable.not_not] at h1 h3
      exact ⟨lawE_good h1, by omega, rowsE_good h3, fun n hn => List.all_eq_true.1 h4 n (List.mem_range.2 hn)⟩
     ·contradiction
 ·rintro ⟨h1, h2, h3, h4⟩
  rw [if_neg (by simp [good_lawE h1]), if_neg (by omega), if_neg (by simp [good_rowsE h3]), if_pos]
  exact List.all_eq_true.2 fun n hn => h4 n (List.mem_range.1 hn)
def leO : Option Int → Int → Bool
 | none, _ => false
 | some q, r => decide (r ≤ q)
def regE (n : Int) : Option Int → List Int → Int
 | _, [] => 0
 | p, r :: rs => if ¬ (0 ≤ r ∧ r ≤ n - 1) then 3 else if leO p r = true then 5 else regE n (some r) rs
def prevO (g : List Int) (i : Nat) : Option Int := if i = 0 then none else g[i - 1]?
theorem prevO_le {g : List Int} {i : Nat} {r rp : Int} (hi : i ≤ g.length) (hr : rp = g.getD (i - 1) 0) : leO (prevO g i) r = (decide (0 < (i : Int)) && decide (r ≤ rp)) := by
 unfold prevO
 rcases Nat.eq_zero_or_pos i with rfl | h
 ·simp [leO]
 ·rw [if_neg (by omega), List.getElem?_eq_getElem (by omega)]
  rw [List.getD_eq_getElem?_getD, List.getElem?_eq_getElem (by omega)] at hr
  have hr : rp = g[i - 1] := hr
  simp only [leO, ← hr]
  rw [Zdt (by omega : 0 < (i : Int)), Bool.true_and]
def checkR (l : Lw) (R : List (List Snd)) (g : List Int) : Int := if checkS l R ≠ 0 then checkS l R else regE R.length none g
theorem regE_good : ∀ {n : Int} {p : Option Int} {g : List Int}, regE n p g = 0 → ∀ r ∈ g, 0 ≤ r ∧ r < n
 | n, p, [], _, r, hr => by cases hr
 | n, p, a :: g, h, r, hr => by
  unfold regE at h
  split at h
  ·contradiction
  ·split at h
   ·contradiction
   ·rename_i h1 _
    rcases List.mem_cons.1 hr with rfl | hr
    ·omega
    ·exact regE_good h r hr
theorem checkR_good {l : Lw} {R : List (List Snd)} {g : List Int} (h : checkR l R g = 0) : SGood l R ∧ ∀ r ∈ g, 0 ≤ r ∧ r < R.length := by
 unfold checkR at h
 split at h
 ·contradiction
 ·rename_i h1
  exact ⟨checkS_good.1 (by simpa using h1), regE_good h⟩
def voiceP (R : List (List Snd)) (n : Nat) (r : Int) : Snd := (R.getD r.toNat []).getD n ⟨0, 0, 0, 0⟩
def voicesP (R : List (List Snd)) (g : List Int) (n : Nat) : List Snd := g.map (voiceP R n)
theorem voiceP_at {LL : List LS} {x : List Snd} {B : Option Addr} {d rk n : Nat} {r : Int} {y : Snd} (h : LL[rk]? = some (x, B, d)) (hr : r = (rk : Nat)) (hy : x[n]? = some y) : voiceP (rowsOf LL) n r = y := by
 subst hr
 unfold voiceP
 rw [List.getD_eq_getElem?_getD (l := rowsOf LL), Int.toNat_natCast, List.getElem?_map, h]
 show x.getD n _ = y
 rw [List.getD_eq_getElem?_getD, hy]
 rfl
theorem voicesP_take {R : List (List Snd)} {g : List Int} {n k : Nat} {r : Int} (h : g[k]? = some r) : voicesP R (g.take (k + 1)) n = voicesP R (g.take k) n ++ [voiceP R n r] := by
 rw [List.take_add_one, h]
 simp [voicesP]
def VoicesPost (l : List Snd) (w : World) (e : Ending) (w' : World) : Prop := ∃ (A : Option Addr) (c : Nat) (I : List (Nat × BA)), e = .returned (.slice A l.length c) ∧ (∃ b o, ∀ (w : World) (ex : Nat → Prop), Sp w ex I A l.length 4 b o (sc l)) ∧ Mem w noEx w' I
theorem Tryz.info32 : (Tryz.prog.info? 32).map (fun i => (i.zero, i.size, i.bytes)) = some (some (.agg #[Zi 0, Zi 0, Zi 0, Zi 0]), 4, 32) := by kernel_rfl
def tremP (l : Lw) (R : List (List Snd)) (g : List Int) : List Int := (List.range (notesP R)).map fun (n : Nat) => keepsP l (l.first + l.step * (n : Int)) (voicesP R g n)
theorem notes_any (l : Lw) (A : Option Addr) (c : Nat) (LL : List LS)  (w : World) (hA : Rd w w.heap.size 1 A LL.length (lsC LL)) (hE : ElsS w LL) (nL : LL.length ≤ 1000000) (nE : ∀ x ∈ LL, x.1.length ≤ 1000000)  :
   Calls Tryz.prog 90 #[.agg #[Zi l.first, Zi l.step, Zi l.span, Zi l.press, .slice A LL.length c]] w fun e w' => e = .returned (Zi ((notesP (rowsOf LL) : Nat) : Int)) ∧ Below w.heap.size w w' := by
 obtain ⟨bA, oA, SA⟩ := Sp.old hA
 refine Zpx noEx Tryz.func90 rfl 12 rfl [.agg #[Zi l.first, Zi l.step, Zi l.span, Zi l.press, .slice A LL.length c]] rfl rfl (Mem.init w _) ?_
 intro ac wc T M
 refine Zsr ?_
 refine Zl2 ?_
 refine Zob M T rfl rfl rfl rfl (T.e 0 rfl) rfl ?_; clear M T; intro g1 wc ac M T
 refine lq T (Zra rfl evc) ?_; clear T ac; intro ac T
 replace T := T.pick [1] rfl
 refine Zln ?_
 refine wp_seq ?_
 refine Zsr ?_
 refine Zg4 (v1 := (.pointer (some ⟨g1, 4, none⟩))) T (Zq (Zrf (off := 4) rfl (T.e 0 rfl) (fun _ _ _ => by kernel_rfl))) rfl (Zo M 0 0 rfl rfl rfl rfl) rfl (Zl Tryz.underlying62 0 rfl rfl) rfl (fun _ T => Zq (rn_eql rfl (T.e 0 rfl) evc)) rfl ?_; clear T ac; intro ac T
 replace T := T.pick [0, 4] rfl
 refine Zln ?_
 refine wp_if (T.e 0 rfl) ?_ ?_
 ·intro h1
  refine Zsr ?_
  refine lq T (Zra rfl evc) ?_; clear T ac; intro ac T
  refine wpList_nil ?_
  replace T := T.pick [0] rfl
  replace M := M.mask [false] rfl
  refine Znr ?_
  refine Zrt ?_
  refine rt_1 T rfl (T.e 0 rfl) ?_
  exact ⟨ret_int (by rw [List.eq_nil_of_length_eq_zero (l := LL) (by omega)]; rfl), M.below⟩
 intro h1
 obtain ⟨⟨x0, B0, d0⟩, hk0⟩ : ∃ x, LL[0]? = some x := ⟨_, List.getElem?_eq_getElem (by omega)⟩
 obtain ⟨bs0, os0, Ss0⟩ := Sp.old (hE _ (List.mem_of_getElem? hk0))
 dsimp only at Ss0
 have nx0 := nE _ (List.mem_of_getElem? hk0)
 dsimp only at nx0
 refine Zsk ?_
 refine Zsr ?_
 refine Zg6 (v1 := (.pointer (some ⟨g1, 4, none⟩))) (v4 := (.slice B0 x0.length d0)) T (Zq (Zrf (off := 4) rfl (T.e 1 rfl) (fun _ _ _ => by kernel_rfl))) rfl (Zo M 0 0 rfl rfl rfl rfl) rfl (fun _ T => Zq (Zri (size := 1) 0 rfl (T.e 0 rfl) evc ⟨_, Tryz.underlying62, by kernel_rfl⟩ rfl (by omega) (SA.at0 (by omega)))) rfl (fun _ T => Zq (rn_cell (Sp.ls0 SA M (Zz9 _) hk0) rfl (T.e 0 rfl))) rfl (Zl Tryz.underlying24 0 rfl rfl) rfl (Za 0 rfl rfl) rfl ?_; clear T ac; intro ac T
 refine wpList_nil ?_
 replace T := T.pick [0] rfl
 replace M := M.mask [false] rfl
 refine Znr ?_
 refine rt_1 T rfl (T.e 0 rfl) ?_
 exact ⟨ret_int (by rw [notesP_at hk0]), M.below⟩
theorem checkScale_any (l : Lw) (A : Option Addr) (c : Nat) (LL : List LS)  (w : World) (hA : Rd w w.heap.size 1 A LL.length (lsC LL)) (hE : ElsS w LL) (nL : LL.length ≤ 1000000) (nE : ∀ x ∈ LL, x.1.length ≤ 1000000)  :
   Calls Tryz.prog 43 #[.agg #[Zi l.first, Zi l.step, Zi l.span, Zi l.press, .slice A LL.length c]] w fun e w' => e = .returned (Zi (checkS l (rowsOf LL))) ∧ Below w.heap.size w w' := by
 obtain ⟨bA, oA, SA⟩ := Sp.old hA
 refine Zpx noEx Tryz.func43 rfl 51 rfl [.agg #[Zi l.first, Zi l.step, Zi l.span, Zi l.press, .slice A LL.length c]] rfl rfl (Mem.init w _) ?_
 intro ac wc T M
 refine Zsr ?_
 refine Zl2 ?_
 refine Zob M T rfl rfl rfl rfl (T.e 0 rfl) rfl ?_; clear M T; intro g1 wc ac M T
 refine lq T (Zra rfl evc) ?_; clear T ac; intro ac T
 replace T := T.pick [1] rfl
 refine Zln ?_
 refine wp_seq ?_
 refine Zsr ?_
 refine Zg2 (v1 := (Zj g1)) T (Zq (Zrf (off := 0) rfl (T.e 0 rfl) (fun _ _ _ => by kernel_rfl))) rfl (Zr M 0 0 rfl rfl rfl rfl) rfl ?_; clear T ac; intro ac T
 refine Zl2 ?_
 refine Zoc (first := []) (cap := []) T rfl rfl rfl rfl evf (.cons (T.e 0 rfl) .nil) Tryz.func69 rfl rfl ?_
 refine Calls.mono (checkLaw_any l _) ?_
 clear T; rintro e wc ⟨rfl, hb⟩ ac T
 replace M := M.call hb; clear hb
 refine lq T (Zra rfl (T.e 0 rfl)) ?_; clear T ac; intro ac T
 replace T := T.pick [0, 4] rfl
 refine Zln ?_
 refine Zsr ?_
 refine Zg2 T (Zq (Zrm rfl (T.e 0 rfl))) rfl (fun _ T => Zq (rn_neq rfl (T.e 0 rfl) evc)) rfl ?_; clear T ac; intro ac T
 replace T := T.pick [0, 2, 3] rfl
 refine Zln ?_
 refine wp_ifn (T.e 0 rfl) ?_ ?_
 ·intro h1
  refine Zsr ?_
  refine Zg2 T (Zq (Zrm rfl (T.e 1 rfl))) rfl (Za 0 rfl rfl) rfl ?_; clear T ac; intro ac T
  refine wpList_nil ?_
  replace T := T.pick [0] rfl
  replace M := M.mask [false] rfl
  refine Znr ?_
  refine Zrt ?_
  refine rt_1 T rfl (T.e 0 rfl) ?_
  refine ⟨ret_int ?_, M.below⟩
  unfold checkS
  rw [if_pos (by assumption)]
 intro h1
 have gl := lawE_good (l := l) (by simpa using h1)
 obtain ⟨gl1, gl2, gl3, gl4⟩ := gl
 refine Zsk ?_
 refine wp_seq ?_
 refine Zsr ?_
 refine Zg4 (v1 := (.pointer (some ⟨g1, 4, none⟩))) T (Zq (Zrf (off := 4) rfl (T.e 2 rfl) (fun _ _ _ => by kernel_rfl))) rfl (Zo M 0 0 rfl rfl rfl rfl) rfl (Zl Tryz.underlying62 0 rfl rfl) rfl (fun _ T => Zq (rn_gtr rfl (T.e 0 rfl) evc)) rfl ?_; clear T ac; intro ac T
 replace T := T.pick [0, 6] rfl
 refine Zln ?_
 refine wp_if (T.e 0 rfl) ?_ ?_
 ·intro h2
  refine Zsr ?_
  refine lq T (Zra rfl evc) ?_; clear T ac; intro ac T
  refine wpList_nil ?_
  replace T := T.pick [0] rfl
  replace M := M.mask [false] rfl
  refine Znr ?_
  refine Zrt ?_
  refine rt_1 T rfl (T.e 0 rfl) ?_
  refine ⟨ret_int ?_, M.below⟩
  unfold checkS
  rw [if_neg (by simp_all), if_pos (by simp; omega)]
 intro h2
 refine Zsk ?_
 refine wp_seq ?_
 refine Zsr ?_
 refine Zg4 (v1 := (.pointer (some ⟨g1, 4, none⟩))) T (Zq (Zrf (off := 4) rfl (T.e 1 rfl) (fun _ _ _ => by kernel_rfl))) rfl (Zo M 0 0 rfl rfl rfl rfl) rfl (Zl Tryz.underlying62 0 rfl rfl) rfl (fun _ T => Zq (Zrm rfl evc)) rfl ?_; clear T ac; intro ac T
 replace T := T.pick [0, 1, 2, 5] rfl
 refine Zln ?_
 refine wp_block ?_
 refine wp_loop_n (fun mz ac wc => ∃ (k : Nat), mz = LL.length - k ∧ (k ≤ LL.length) ∧ (rowsE (notesP (rowsOf LL)) (rowsOf LL) = rowsE (notesP (rowsOf LL)) (rowsOf (LL.drop k))) ∧ Tm ac 51 [(1, Zj g1), (19, .slice A LL.length c), (20, Zi ((LL.length : Nat) : Int)), (21, Zi (k : Int))] ∧ Mem w noEx wc [(g1, .cells [Zi l.first, Zi l.step, Zi l.span, Zi l.press, .slice A LL.length c])]) ?_ ?_
 ·exact ⟨_, 0, rfl, (by omega), rfl, T.pick [3, 2, 1, 0] rfl, M.mask [true] rfl⟩
 clear T M
 rintro mz ac wc ⟨k, hmm1, hk, H, T, M⟩
 refine Zsr ?_
 refine lq T (rn_lss rfl (T.e 3 rfl) (T.e 2 rfl)) ?_; clear T ac; intro ac T
 refine Zln ?_
 refine wp_seq ?_
 refine wp_if (T.e 0 rfl) ?_ ?_
 ·intro h3
  obtain ⟨⟨x1, B1, d1⟩, hk1⟩ : ∃ x, LL[k]? = some x := ⟨_, List.getElem?_eq_getElem (by omega)⟩
  obtain ⟨bs1, os1, Ss1⟩ := Sp.old (hE _ (List.mem_of_getElem? hk1))
  dsimp only at Ss1
  have nx1 := nE _ (List.mem_of_getElem? hk1)
  dsimp only at nx1
  have hdr : LL.drop k = (x1, B1, d1) :: LL.drop (k + 1) := by rw [List.drop_eq_getElem_cons (by omega)]; congr 1; rw [List.getElem?_eq_getElem (by omega)] at hk1; injection hk1
  have hdm : rowsOf (LL.drop k) = x1 :: rowsOf (LL.drop (k + 1)) := by rw [hdr]; rfl
  rw [hdm, rowsE] at H
  refine Zsk ?_
  refine wp_seq ?_
  refine wp_block ?_
  refine Zsr ?_
  refine Zg3 (v2 := (.slice B1 x1.length d1)) T (Zq (Zri (size := 1) k rfl (T.e 2 rfl) (T.e 4 rfl) ⟨_, Tryz.underlying62, by kernel_rfl⟩ rfl (by omega) (SA.at0 (by omega)))) rfl (fun _ T => Zq (rn_cell (Sp.ls0 SA M (Zz9 _) hk1) rfl (T.e 0 rfl))) rfl (Za 0 rfl rfl) rfl ?_; clear T ac; intro ac T
  replace T := T.pick [0, 4, 5, 6, 7] rfl
  refine Zln ?_
  refine wp_seq ?_
  refine Zsr ?_
  refine Zg3 T (Zq (Zrm rfl (T.e 0 rfl))) rfl (Zl Tryz.underlying24 0 rfl rfl) rfl (fun _ T => Zq (rn_gtr rfl (T.e 0 rfl) evc)) rfl ?_; clear T ac; intro ac T
  replace T := T.pick [0, 3, 4, 5, 6, 7] rfl
  refine Zln ?_
  refine wp_if (T.e 0 rfl) ?_ ?_
  ·intro h4
   refine Zsr ?_
   refine lq T (Zra rfl evc) ?_; clear T ac; intro ac T
   refine wpList_nil ?_
   replace T := T.pick [0] rfl
   replace M := M.mask [false] rfl
   refine Znr ?_
   refine Zrt ?_
   refine Zrb ?_
   refine Zrt ?_
   refine Zrt ?_
   refine Zrb ?_
   refine Zrt ?_
   refine rt_1 T rfl (T.e 0 rfl) ?_
   refine ⟨ret_int ?_, M.below⟩
   unfold checkS
   rw [if_pos (by omega)] at H
   rw [if_neg (by simp_all), if_neg (by simp; omega), H, if_pos (by first | omega | assumption)]
  intro h4
  refine Zsk ?_
  refine wp_seq ?_
  refine Zsr ?_
  refine Zg3 T (Zq (Zrm rfl (T.e 1 rfl))) rfl (Zl Tryz.underlying24 0 rfl rfl) rfl (Zr M 0 4 rfl rfl rfl rfl) rfl ?_; clear T ac; intro ac T
  refine Zl2 ?_
  refine Zoc (first := []) (cap := []) T rfl rfl rfl rfl evf (.cons (T.e 0 rfl) .nil) Tryz.func90 rfl rfl ?_
  refine Calls.mono (notes_any l A c LL _ (SA.rd M (Zz9 _)) (fun x hx => M.rd (hE x hx) (Nat.le_refl _)) (by omega) nE) ?_
  clear T; rintro e wc ⟨rfl, hb⟩ ac T
  replace M := M.call hb; clear hb
  refine lq T (rn_neq rfl (T.e 2 rfl) (T.e 0 rfl)) ?_; clear T ac; intro ac T
  replace T := T.pick [0, 6, 7, 8, 9, 10] rfl
  refine Zln ?_
  refine wp_ifn (T.e 0 rfl) ?_ ?_
  ·intro h5
   refine Zsr ?_
   refine lq T (Zra rfl evc) ?_; clear T ac; intro ac T
   refine wpList_nil ?_
   replace T := T.pick [0] rfl
   replace M := M.mask [false] rfl
   refine Znr ?_
   refine Zrt ?_
   refine Zrb ?_
   refine Zrt ?_
   refine Zrt ?_
   refine Zrb ?_
   refine Zrt ?_
   refine rt_1 T rfl (T.e 0 rfl) ?_
   refine ⟨ret_int ?_, M.below⟩
   unfold checkS
   rw [if_neg (by omega), if_pos (by omega)] at H
   rw [if_neg (by simp_all), if_neg (by simp; omega), H, if_pos (by first | omega | assumption)]
  intro h5
  refine Zsk ?_
  refine Zsr ?_
  refine lq T (Zrm rfl (T.e 1 rfl)) ?_; clear T ac; intro ac T
  refine Zl2 ?_
  refine Zoc (first := []) (cap := []) T rfl rfl rfl rfl evf (.cons (T.e 0 rfl) (.cons evc .nil)) Tryz.func82 rfl rfl ?_
  refine Calls.mono (checkSounds_any _ _ _ x1 6 _ (Ss1.rd M (Zz9 _)) (by first | omega | (simp only [List.length_cons, List.length_nil]; omega))) ?_
  clear T; rintro e wc ⟨rfl, hb⟩ ac T
  replace M := M.call hb; clear hb
  refine lq T (Zra rfl (T.e 0 rfl)) ?_; clear T ac; intro ac T
  replace T := T.pick [0, 5, 6, 7, 8] rfl
  refine Zln ?_
  refine Zsr ?_
  refine Zg2 T (Zq (Zrm rfl (T.e 0 rfl))) rfl (fun _ T => Zq (rn_neq rfl (T.e 0 rfl) evc)) rfl ?_; clear T ac; intro ac T
  replace T := T.pick [0, 2, 3, 4, 5, 6] rfl
  refine Zln ?_
  refine wp_ifn (T.e 0 rfl) ?_ ?_
  ·intro h6
   refine Zsr ?_
   refine Zg2 T (Zq (Zrm rfl (T.e 1 rfl))) rfl (Za 0 rfl rfl) rfl ?_; clear T ac; intro ac T
   refine wpList_nil ?_
   replace T := T.pick [0] rfl
   replace M := M.mask [false] rfl
   refine Znr ?_
   refine Zrb ?_
   refine Zrt ?_
   refine Zrt ?_
   refine Zrb ?_
   refine Zrt ?_
   refine rt_1 T rfl (T.e 0 rfl) ?_
   refine ⟨ret_int ?_, M.below⟩
   unfold checkS
   rw [if_neg (by omega), if_neg (by omega), if_pos (by assumption)] at H
   rw [if_neg (by simp_all), if_neg (by simp; omega), H, if_pos (by first | omega | assumption)]
  intro h6
  refine wp_skip ?_
  refine Znb ?_
  refine nm_then ?_
  refine wp_region_lit ?_
  refine lq T (rn_add rfl (T.e 5 rfl) evc (by omega)) ?_; clear T ac; intro ac T
  refine l_q (v := (Zi ((k : Int) + 1))) (T.pick [0, 1, 2, 3, 4, 5] rfl) rfl rfl rfl rfl (Zrm rfl (T.e 0 rfl)) ?_; clear T ac; intro ac T
  replace T := T.pick [0, 4, 5, 6] rfl
  refine Zln ?_
  exact ⟨_, by omega, k + 1, rfl, (by omega), (by rw [if_neg (by omega), if_neg (by omega), if_neg (by simp_all)] at H; exact H), T.pick [1, 2, 3, 0] rfl, M.mask [true] rfl⟩
 intro h3
 have hdm : rowsOf (LL.drop k) = [] := by rw [List.drop_of_length_le (by omega)]; rfl
 rw [hdm, rowsE] at H
 have hgr := rowsE_good H
 have hn6 : notesP (rowsOf LL) ≤ 6 := by cases LL with | nil => simp [notesP] | cons a r => exact (hgr a.1 (by simp)).1
 refine wp_exit ?_
 refine Zet ?_
 refine Zet ?_
 refine ex_hit ?_
 refine Zns ?_
 refine Zsr ?_
 refine lq T (Zrr (Mem.nth M 0 rfl) rfl (T.e 1 rfl) rfl) ?_; clear T ac; intro ac T
 refine Zl2 ?_
 refine Zoc (first := []) (cap := []) T rfl rfl rfl rfl evf (.cons (T.e 0 rfl) .nil) Tryz.func90 rfl rfl ?_
 refine Calls.mono (notes_any l A c LL _ (SA.rd M (Zz9 _)) (fun x hx => M.rd (hE x hx) (Nat.le_refl _)) (by omega) nE) ?_
 clear T; rintro e wc ⟨rfl, hb⟩ ac T
 replace M := M.call hb; clear hb
 refine lq T (Zrm rfl evc) ?_; clear T ac; intro ac T
 replace T := T.pick [0, 1, 4] rfl
 refine Zln ?_
 refine wp_block ?_
 refine wp_loop_n (fun mz ac wc => ∃ (k : Nat), mz = notesP (rowsOf LL) - k ∧ (k ≤ notesP (rowsOf LL)) ∧ ((List.range k).all (dueO l) = true) ∧ Tm ac 51 [(1, Zj g1), (40, Zi ((notesP (rowsOf LL) : Nat) : Int)), (41, Zi (k : Int))] ∧ Mem w noEx wc [(g1, .cells [Zi l.first, Zi l.step, Zi l.span, Zi l.press, .slice A LL.length c])]) ?_ ?_
 ·exact ⟨_, 0, rfl, (Nat.zero_le _), rfl, T.pick [2, 1, 0] rfl, M.mask [true] rfl⟩
 clear T M
 rintro mz ac wc ⟨k, hmm2, hk, H2, T, M⟩
 refine Zsr ?_
 refine lq T (rn_lss rfl (T.e 2 rfl) (T.e 1 rfl)) ?_; clear T ac; intro ac T
 refine Zln ?_
 refine wp_seq ?_
 refine wp_if (T.e 0 rfl) ?_ ?_
 ·intro h7
  refine Zsk ?_
  refine wp_seq ?_
  refine wp_block ?_
  refine Zsr ?_
  refine Zg2 T (Zq (Zrm rfl (T.e 3 rfl))) rfl (Za 0 rfl rfl) rfl ?_; clear T ac; intro ac T
  replace T := T.pick [0, 3, 4, 5] rfl
  refine Zln ?_
  refine Zsr ?_
  refine Zg3 (v1 := (Zj g1)) T (Zq (Zrf (off := 0) rfl (T.e 1 rfl) (fun _ _ _ => by kernel_rfl))) rfl (Zr M 0 0 rfl rfl rfl rfl) rfl (Zm 2 rfl rfl) rfl ?_; clear T ac; intro ac T
  refine Zl2 ?_
  refine Zoc (first := []) (cap := []) T rfl rfl rfl rfl evf (.cons (T.e 1 rfl) (.cons (T.e 0 rfl) .nil)) Tryz.func71 rfl rfl ?_
  refine Calls.mono (vdue_any l (k : Int) _ (by (try dsimp only); omega) (by (try dsimp only); omega) (by (try dsimp only); omega)) ?_
  clear T; rintro e wc ⟨rfl, hb⟩ ac T
  replace M := M.call hb; clear hb
  refine Zl2 ?_
  refine Zoc (first := []) (cap := []) T rfl rfl rfl rfl evf (.cons (T.e 0 rfl) (.cons evc (.cons evc .nil))) Tryz.func70 rfl rfl ?_
  refine Calls.mono (vwithin_any (l.first + l.step * (k : Int)) 0 30 _) ?_
  clear T; rintro e wc ⟨rfl, hb⟩ ac T
  replace M := M.call hb; clear hb
  refine lq T (rn_not rfl (T.e 0 rfl)) ?_; clear T ac; intro ac T
  replace T := T.pick [0, 7, 8, 9] rfl
  refine Zln ?_
  refine wp_cond_split (T.e 0 rfl) ?_ ?_
  ·intro h8
   (have h8' := h8; try simp only [Zb1, Zb2, Zb3, Zb4, Zb5, Zb6, Zb7] at h8')
   refine Zsr ?_
   refine lq T (Zra rfl evc) ?_; clear T ac; intro ac T
   refine wpList_nil ?_
   replace T := T.pick [0] rfl
   replace M := M.mask [false] rfl
   refine Znr ?_
   refine Zrb ?_
   refine Zrt ?_
   refine Zrt ?_
   refine Zrb ?_
   refine Zrt ?_
   refine rt_1 T rfl (T.e 0 rfl) ?_
   refine ⟨ret_int ?_, M.below⟩
   unfold checkS
   rw [if_neg (by simp_all), if_neg (by simp; omega), H, if_neg (by omega), if_neg]
   intro k9
   have k8 := List.all_eq_true.1 k9 k (List.mem_range.2 (by omega))
   simp only [dueO, decide_eq_true_eq] at k8
   exact absurd h8 (by simp [withinB, k8])
  intro h8
  (have h8' := h8; try simp only [Zb1, Zb2, Zb3, Zb4, Zb5, Zb6, Zb7] at h8')
  refine wp_skip ?_
  refine Znb ?_
  refine nm_then ?_
  refine wp_region_lit ?_
  refine lq T (rn_add rfl (T.e 3 rfl) evc (by omega)) ?_; clear T ac; intro ac T
  refine l_q (v := (Zi ((k : Int) + 1))) (T.pick [0, 1, 2, 3] rfl) rfl rfl rfl rfl (Zrm rfl (T.e 0 rfl)) ?_; clear T ac; intro ac T
  replace T := T.pick [0, 3, 4] rfl
  refine Zln ?_
  exact ⟨_, by omega, k + 1, rfl, (by omega), (by rw [List.range_succ, List.all_append, H2]; simp only [List.all_cons, List.all_nil, Bool.true_and, Bool.and_true]; simpa [withinB, dueO] using h8), T.pick [1, 2, 0] rfl, M.mask [true] rfl⟩
 intro h7
 refine wp_exit ?_
 refine Zet ?_
 refine Zet ?_
 refine ex_hit ?_
 refine nm_then ?_
 refine Zsr ?_
 refine lq T (Zra rfl evc) ?_; clear T ac; intro ac T
 refine wpList_nil ?_
 replace T := T.pick [0] rfl
 replace M := M.mask [false] rfl
 refine Znr ?_
 refine rt_1 T rfl (T.e 0 rfl) ?_
 refine ⟨ret_int ?_, M.below⟩
 unfold checkS
 obtain rfl : k = notesP (rowsOf LL) := by omega
 rw [if_neg (by simp_all), if_neg (by simp; omega), H, if_neg (by omega), if_pos H2]
theorem checkRegister_any (l : Lw) (A : Option Addr) (c : Nat) (LL : List LS) (G : Option Addr) (d : Nat) (g : List Int)  (w : World) (hA : Rd w w.heap.size 1 A LL.length (lsC LL)) (hE : ElsS w LL) (nL : LL.length ≤ 1000000) (nE : ∀ x ∈ LL, x.1.length ≤ 1000000) (hG : Rd w w.heap.size 1 G g.length (ic g)) (nG : g.length ≤ 1000000)  :
   Calls Tryz.prog 89 #[.agg #[Zi l.first, Zi l.step, Zi l.span, Zi l.press, .slice A LL.length c], .slice G g.length d] w fun e w' => e = .returned (Zi (checkR l (rowsOf LL) g)) ∧ Below w.heap.size w w' := by
 obtain ⟨bA, oA, SA⟩ := Sp.old hA
 obtain ⟨bG, oG, SG⟩ := Sp.old hG
 refine Zpx noEx Tryz.func89 rfl 41 rfl [.agg #[Zi l.first, Zi l.step, Zi l.span, Zi l.press, .slice A LL.length c], .slice G g.length d] rfl rfl (Mem.init w _) ?_
 intro ac wc T M
 refine Zsr ?_
 refine Zl2 ?_
 refine Zob M T rfl rfl rfl rfl (T.e 0 rfl) rfl ?_; clear M T; intro g1 wc ac M T
 refine lq T (Zra rfl evc) ?_; clear T ac; intro ac T
 replace T := T.pick [1, 3] rfl
 refine Zln ?_
 refine wp_seq ?_
 refine Zsr ?_
 refine lq T (Zrr (Mem.nth M 0 rfl) rfl (T.e 0 rfl) rfl) ?_; clear T ac; intro ac T
 refine Zl2 ?_
 refine Zoc (first := []) (cap := []) T rfl rfl rfl rfl evf (.cons (T.e 0 rfl) .nil) Tryz.func43 rfl rfl ?_
 refine Calls.mono (checkScale_any l A c LL _ (SA.rd M (Zz9 _)) (fun x hx => M.rd (hE x hx) (Nat.le_refl _)) (by omega) nE) ?_
 clear T; rintro e wc ⟨rfl, hb⟩ ac T
 replace M := M.call hb; clear hb
 refine lq T (Zra rfl (T.e 0 rfl)) ?_; clear T ac; intro ac T
 replace T := T.pick [0, 3, 4] rfl
 refine Zln ?_
 refine Zsr ?_
 refine Zg2 T (Zq (Zrm rfl (T.e 0 rfl))) rfl (fun _ T => Zq (rn_neq rfl (T.e 0 rfl) evc)) rfl ?_; clear T ac; intro ac T
 replace T := T.pick [0, 2, 3, 4] rfl
 refine Zln ?_
 refine wp_ifn (T.e 0 rfl) ?_ ?_
 ·intro h1
  refine Zsr ?_
  refine Zg2 T (Zq (Zrm rfl (T.e 1 rfl))) rfl (Za 0 rfl rfl) rfl ?_; clear T ac; intro ac T
  refine wpList_nil ?_
  replace T := T.pick [0] rfl
  replace M := M.mask [false] rfl
  refine Znr ?_
  refine Zrt ?_
  refine rt_1 T rfl (T.e 0 rfl) ?_
  refine ⟨ret_int ?_, M.below⟩
  unfold checkR
  rw [if_pos (by assumption)]
 intro h1
 have hl0 : (rowsOf LL).length = LL.length := by simp
 rw [hl0] at *
 refine Zsk ?_
 refine wp_seq ?_
 refine Zsr ?_
 refine Zg3 T (Zq (Zrm rfl (T.e 3 rfl))) rfl (Zl Tryz.underlying33 0 rfl rfl) rfl (fun _ T => Zq (Zrm rfl evc)) rfl ?_; clear T ac; intro ac T
 replace T := T.pick [0, 1, 2, 5, 6] rfl
 refine Zln ?_
 refine wp_block ?_
 refine wp_loop_n (fun mz ac wc => ∃ (i : Nat), mz = g.length - i ∧ (i ≤ g.length) ∧ (regE (rowsOf LL).length none g = regE (rowsOf LL).length (prevO g i) (g.drop i)) ∧ Tm ac 41 [(1, .slice G g.length d), (2, Zj g1), (13, .slice G g.length d), (14, Zi ((g.length : Nat) : Int)), (15, Zi (i : Int))] ∧ Mem w noEx wc [(g1, .cells [Zi l.first, Zi l.step, Zi l.span, Zi l.press, .slice A LL.length c])]) ?_ ?_
 ·exact ⟨_, 0, rfl, (by omega), rfl, T.pick [4, 3, 2, 1, 0] rfl, M.mask [true] rfl⟩
 clear T M
 rintro mz ac wc ⟨i, hmm1, hi, H, T, M⟩
 refine Zsr ?_
 refine lq T (rn_lss rfl (T.e 4 rfl) (T.e 3 rfl)) ?_; clear T ac; intro ac T
 refine Zln ?_
 refine wp_seq ?_
 refine wp_if (T.e 0 rfl) ?_ ?_
 ·intro h2
  obtain ⟨r, hkr, hdr⟩ := ic_next (l := g) (k := i) (by omega)
  obtain ⟨rp, hrp⟩ : ∃ q, q = g.getD (i - 1) 0 := ⟨_, rfl⟩
  have hpv : leO (prevO g i) r = (decide (0 < (i : Int)) && decide (r ≤ rp)) := prevO_le hi hrp
  rw [hdr, regE, hpv] at H
  refine Zsk ?_
  refine wp_seq ?_
  refine wp_block ?_
  refine Zsr ?_
  refine Zg5 T (Zq (Zrm rfl (T.e 5 rfl))) rfl (fun _ T => Zq (Zri (size := 1) i rfl (T.e 4 rfl) (T.e 6 rfl) ⟨_, Tryz.underlying33, by kernel_rfl⟩ rfl (by omega) (SG.at0 (by omega)))) rfl (fun _ T => Zq (rn_cell (Sp.ic0 SG M (Zz9 _) hkr) rfl (T.e 0 rfl))) rfl (Za 2 rfl rfl) rfl (Za 1 rfl rfl) rfl ?_; clear T ac; intro ac T
  replace T := T.pick [0, 1, 6, 7, 8, 9, 10] rfl
  refine Zln ?_
  refine wp_block ?_
  refine Zsr ?_
  refine Zg5 (v2 := (.pointer (some ⟨g1, 4, none⟩))) T (Zq (Zrm rfl (T.e 0 rfl))) rfl (Zf 4 4 rfl rfl) rfl (Zo M 0 0 rfl rfl rfl rfl) rfl (Zl Tryz.underlying62 0 rfl rfl) rfl (fun _ T => Zq (rn_sub rfl (T.e 0 rfl) evc (by omega))) rfl ?_; clear T ac; intro ac T
  refine Zl2 ?_
  refine Zoc (first := []) (cap := []) T rfl rfl rfl rfl evf (.cons (T.e 4 rfl) (.cons evc (.cons (T.e 0 rfl) .nil))) Tryz.func70 rfl rfl ?_
  refine Calls.mono (vwithin_any r 0 (((LL.length : Nat) : Int) - 1) _) ?_
  clear T; rintro e wc ⟨rfl, hb⟩ ac T
  replace M := M.call hb; clear hb
  refine Zg2 T (Zq (rn_not rfl (T.e 0 rfl))) rfl (Za 0 rfl rfl) rfl ?_; clear T ac; intro ac T
  replace T := T.pick [0, 8, 9, 10, 11, 12, 13, 14] rfl
  refine Zln ?_
  refine wp_cond_split (T.e 0 rfl) ?_ ?_
  ·intro h3
   (have h3' := h3; try simp only [Zb1, Zb2, Zb3, Zb4, Zb5, Zb6, Zb7] at h3')
   refine Zsr ?_
   refine lq T (Zra rfl evc) ?_; clear T ac; intro ac T
   refine wpList_nil ?_
   replace T := T.pick [0] rfl
   replace M := M.mask [false] rfl
   refine Znr ?_
   refine Zrb ?_
   refine Zrb ?_
   refine Zrt ?_
   refine Zrt ?_
   refine Zrb ?_
   refine Zrt ?_
   refine rt_1 T rfl (T.e 0 rfl) ?_
   refine ⟨ret_int ?_, M.below⟩
   unfold checkR
   rw [if_pos (by simp_all [withinB])] at H
   rw [if_neg (by simp_all), H]
  intro h3
  (have h3' := h3; try simp only [Zb1, Zb2, Zb3, Zb4, Zb5, Zb6, Zb7] at h3')
  refine cut_seq (fun ac wc => Tm ac 41 [(1, .slice G g.length d), (2, Zj g1), (13, .slice G g.length d), (14, Zi ((g.length : Nat) : Int)), (15, Zi (i : Int)), (28, .bool ((decide (0 < (i : Int))) && (decide (r ≤ rp))))] ∧ Mem w noEx wc [(g1, .cells [Zi l.first, Zi l.step, Zi l.span, Zi l.press, .slice A LL.length c])]) ?_ ?_
  ·refine wp_region_lit ?_
   refine Zg3 T (Zq (Zrm rfl (T.e 2 rfl))) rfl (fun _ T => Zq (rn_gtr rfl (T.e 0 rfl) evc)) rfl (Zm 0 rfl rfl) rfl ?_; clear T ac; intro ac T
   rcases Bool.eq_false_or_eq_true (decide (0 < (i : Int))) with h4 | h4
   ·replace h4 := of_decide_eq_true h4
    obtain ⟨i1, hi1⟩ : ∃ q : Nat, (i : Int) - 1 = (q : Int) := ⟨i - 1, by omega⟩
    have hkp : g[i1]? = some rp := by rw [hrp, show i - 1 = i1 by omega, List.getD_eq_getElem?_getD, List.getElem?_eq_getElem (by omega)]; rfl
    refine Zg8 T (Zw (Zwy rfl rfl (T.e 0 rfl) (Zdt h4)) (Zrm rfl (T.e 4 rfl))) rfl (fun _ T => Zw (Zwy rfl rfl (T.e 1 rfl) (Zdt h4)) (Zrm rfl (T.e 7 rfl))) rfl (fun _ T => Zw (Zwy rfl rfl (T.e 2 rfl) (Zdt h4)) (Zrm rfl (T.e 7 rfl))) rfl (fun _ T => Zw (Zwy rfl rfl (T.e 3 rfl) (Zdt h4)) (rn_sub rfl (T.e 0 rfl) evc (by omega))) rfl (fun _ T => Zw (Zwy rfl rfl (T.e 4 rfl) (Zdt h4)) (Zri (size := 1) i1 rfl (T.e 2 rfl) (T.e 0 rfl) ⟨_, Tryz.underlying33, by kernel_rfl⟩ hi1 (by omega) (SG.at0 (by omega)))) rfl (fun _ T => Zw (Zwy rfl rfl (T.e 5 rfl) (Zdt h4)) (rn_cell (Sp.ic0 SG M (Zz9 _) hkp) rfl (T.e 0 rfl))) rfl (fun _ T => Zw (Zwy rfl rfl (T.e 6 rfl) (Zdt h4)) (rn_leq rfl (T.e 5 rfl) (T.e 0 rfl))) rfl (fun _ T => Zq (Zr1 rfl (T.e 7 rfl) (Zdt h4) (T.e 0 rfl))) rfl ?_; clear T ac; intro ac T
    refine lq T (Zra rfl (T.e 0 rfl)) ?_; clear T ac; intro ac T
    refine wpList_nil ?_
    replace T := T.pick [0, 2, 3, 4, 5, 6, 7, 8, 15, 16, 17, 18, 19] rfl
    exact ⟨(T.pick (E' := [(1, .slice G g.length d), (2, Zj g1), (13, .slice G g.length d), (14, Zi ((g.length : Nat) : Int)), (15, Zi (i : Int)), (28, .bool (decide (r ≤ rp)))]) [8, 9, 10, 11, 12, 0] rfl).as (by (try rw [show (decide (0 < (i : Int))) = true from (Zdt h4)]); (try rfl)), M.mask [true] rfl⟩
   replace h4 := of_decide_eq_false h4
   refine Zg8 T (Zp (Zwn rfl rfl (T.e 0 rfl) (Zdf h4))) rfl (fun _ T => Zp (Zwn rfl rfl (T.e 1 rfl) (Zdf h4))) rfl (fun _ T => Zp (Zwn rfl rfl (T.e 2 rfl) (Zdf h4))) rfl (fun _ T => Zp (Zwn rfl rfl (T.e 3 rfl) (Zdf h4))) rfl (fun _ T => Zp (Zwn rfl rfl (T.e 4 rfl) (Zdf h4))) rfl (fun _ T => Zp (Zwn rfl rfl (T.e 5 rfl) (Zdf h4))) rfl (fun _ T => Zp (Zwn rfl rfl (T.e 6 rfl) (Zdf h4))) rfl (fun _ T => Zq (Zr0 rfl (T.e 7 rfl) (Zdf h4) evc)) rfl ?_; clear T ac; intro ac T
   refine lq T (Zra rfl (T.e 0 rfl)) ?_; clear T ac; intro ac T
   refine wpList_nil ?_
   replace T := T.pick [0, 2, 3, 4, 5, 6, 7, 8, 15, 16, 17, 18, 19] rfl
   exact ⟨(T.pick (E' := [(1, .slice G g.length d), (2, Zj g1), (13, .slice G g.length d), (14, Zi ((g.length : Nat) : Int)), (15, Zi (i : Int)), (28, .bool false)]) [8, 9, 10, 11, 12, 0] rfl).as (by (try rw [show (decide (0 < (i : Int))) = false from (Zdf h4)]); (try rfl)), M.mask [true] rfl⟩
  clear T M
  rintro ac wc ⟨T, M⟩
  refine wp_cond_split (T.e 5 rfl) ?_ ?_
  ·intro h5
   (have h5' := h5; try simp only [Zb1, Zb2, Zb3, Zb4, Zb5, Zb6, Zb7] at h5')
   refine Zsr ?_
   refine lq T (Zra rfl evc) ?_; clear T ac; intro ac T
   refine wpList_nil ?_
   replace T := T.pick [0] rfl
   replace M := M.mask [false] rfl
   refine Znr ?_
   refine Zrb ?_
   refine Zrb ?_
   refine Zrt ?_
   refine Zrt ?_
   refine Zrb ?_
   refine Zrt ?_
   refine rt_1 T rfl (T.e 0 rfl) ?_
   refine ⟨ret_int ?_, M.below⟩
   unfold checkR
   rw [if_neg (by simp_all [withinB]), if_pos (by assumption)] at H
   rw [if_neg (by simp_all), H]
  intro h5
  (have h5' := h5; try simp only [Zb1, Zb2, Zb3, Zb4, Zb5, Zb6, Zb7] at h5')
  refine wp_skip ?_
  refine Znb ?_
  refine Znb ?_
  refine nm_then ?_
  refine wp_region_lit ?_
  refine lq T (rn_add rfl (T.e 4 rfl) evc (by omega)) ?_; clear T ac; intro ac T
  refine l_q (v := (Zi ((i : Int) + 1))) (T.pick [0, 1, 2, 3, 4, 6] rfl) rfl rfl rfl rfl (Zrm rfl (T.e 0 rfl)) ?_; clear T ac; intro ac T
  replace T := T.pick [0, 2, 3, 4, 5] rfl
  refine Zln ?_
  exact ⟨_, by omega, i + 1, rfl, (by omega), (by rw [if_neg (by simp_all [withinB]), if_neg (by rw [h5]; simp)] at H; rw [H, prevO, if_neg (by omega), Nat.add_sub_cancel, hkr]), T.pick [1, 2, 3, 4, 0] rfl, M.mask [true] rfl⟩
 intro h2
 rw [List.drop_of_length_le (by omega), regE] at H
 refine wp_exit ?_
 refine Zet ?_
 refine Zet ?_
 refine ex_hit ?_
 refine nm_then ?_
 refine Zsr ?_
 refine lq T (Zra rfl evc) ?_; clear T ac; intro ac T
 refine wpList_nil ?_
 replace T := T.pick [0] rfl
 replace M := M.mask [false] rfl
 refine Znr ?_
 refine rt_1 T rfl (T.e 0 rfl) ?_
 refine ⟨ret_int ?_, M.below⟩
 unfold checkR
 rw [if_neg (by simp_all), H]
section
open Go.ChangeShapes Go.WideShapes Go.ChangeAt Go.RowKit
theorem cScale : Tryz.prog.cellsOf 64 = 5 := by kernel_rfl
theorem cRows : Tryz.prog.cellsOf 62 = 1 := by kernel_rfl
instance : Inhabited LS := ⟨([], none, 0)⟩
section
variable {H : Type} {enc : TypeId × Value → H} {P : Program} {W : World} {base : Nat} {sp : Nat → Bool} {hd : Bool}
theorem cells_rows {fuel : Nat} {cs : List Value} {x : DataW H × List MemPlace} (h : DataW.trod enc Tryz.prog W 0 (fun _ => true) true fuel 62 cs = some x) (hlt : ∀ y ∈ x.2, y.block < W.heap.size) :
  ∃ A c L, cs = [.slice A (L : List LS).length c] ∧ Rd W W.heap.size 1 A L.length (lsC L) ∧ ElsS W L ∧ (∀ x ∈ L, x.1.length ≤ 9223372036854775807) ∧ L.length ≤ 9223372036854775807 := by
 rcases Go.Deep.open_slice Tryz.underlying62 h with ⟨rfl, _⟩ | ⟨a, len, cap, m, n, D, Pl, rfl, _, hl, hm, hmm, rfl, hx⟩
 ·exact ⟨none, 0, [], rfl, Rd.empty, (fun x hx => by cases hx), (fun x hx => by cases hx), Nat.zero_le _⟩
 simp only [if_true] at hmm
 subst hmm
 rw [cSounds] at hx hlt
 obtain ⟨V, hV⟩ := Go.Deep.choose_lt (α := LS) (p := fun i v => W.cells? 0 (a.add (i * 1)) 1 = some [.slice v.2.1 v.1.length v.2.2] ∧ Rd W W.heap.size 4 v.2.1 v.1.length (sc v.1) ∧ v.1.length ≤ 9223372036854775807) (fun i hi => by
  obtain ⟨cs', h1, h2⟩ := hx i hi
  obtain ⟨A, c, l, e, hr, hn, -⟩ := cells_sounds h2 (fun y hy => hlt y (List.mem_append_right _ (List.mem_flatMap.2 ⟨i, List.mem_range.2 hi, hy⟩)))
  exact ⟨(l, A, c), by rw [← e]; exact h1, hr, hn⟩)
 have hlen : ((List.range len).map V).length = len := by simp
 refine ⟨some a, m, (List.range len).map V, by rw [hlen], ?_, ?_, ?_, by rw [hlen]; unfold maxLen at hm; omega⟩
 ·rw [hlen]
  refine ⟨by rw [lsC_length, hlen, Nat.mul_one], fun hn => ?_⟩
  obtain ⟨b, off, spot⟩ := a
  have hspot : spot = none := by
   obtain ⟨_, _, h3⟩ := World.cells?_some (hV 0 (by omega)).1
   have q0 := h3 0 (by omega)
   have q1 : W.cell? (((⟨b, off, spot⟩ : Addr).add (0 * 1)).add 0) = some (.slice (V 0).2.1 (V 0).1.length (V 0).2.2) := q0
   simpa [Addr.add] using World.cell?_spot q1
  subst hspot
  refine ⟨b, off, rfl, hlt (.cell b off) (List.mem_append_left _ (MemPlace.mem_row.2 ⟨0, by omega, by simp⟩)), fun k u hu => ?_⟩
  have hk : k < len := by
   have := (List.getElem?_eq_some_iff.1 hu).1
   rw [lsC_length, hlen] at this
   exact this
  have h0 := (hV k (by omega)).1
  rw [Addr.add_mid] at h0
  obtain ⟨_, _, h3⟩ := World.cells?_some h0
  have q := h3 0 (by omega)
  rw [Addr.add_mid, show off + k * 1 + 0 = off + k by omega] at q
  unfold lsC at hu
  rw [List.getElem?_map, List.getElem?_map, List.getElem?_range hk] at hu
  rw [q, ← hu]
  rfl
 ·intro x hx
  obtain ⟨i, hi, rfl⟩ := List.mem_map.1 hx
  exact (hV i (by have := List.mem_range.1 hi; omega)).2.1
 ·intro x hx
  obtain ⟨i, hi, rfl⟩ := List.mem_map.1 hx
  exact (hV i (by have := List.mem_range.1 hi; omega)).2.2
theorem cells_scale {fuel : Nat} {cs : List Value} {x : DataW H × List MemPlace} (h : DataW.trod enc Tryz.prog W 0 (fun _ => true) true fuel 64 cs = some x) (hlt : ∀ y ∈ x.2, y.block < W.heap.size) :
  ∃ (l : Lw) (LL : List LS) (A : Option Addr) (c : Nat), cs = [Zi l.first, Zi l.step, Zi l.span, Zi l.press, .slice A LL.length c] ∧ Rd W W.heap.size 1 A LL.length (lsC LL) ∧ ElsS W LL ∧ (∀ x ∈ LL, x.1.length ≤ 9223372036854775807) ∧ LL.length ≤ 9223372036854775807 := by
 have h' := h
 obtain ⟨xs, n, _, rfl, hl, hlen, hx⟩ := DataW.trod_struct Tryz.underlying64 h
 rw [cScale] at hl
 match cs, hl with
 | [c0, c1, c2, c3, c4], _ =>
  obtain ⟨_, _, h0⟩ := fieldOf Tryz.underlying64 h' 0 _ rfl
  have h1 := hx 1 _ rfl
  rw [List.getElem?_eq_getElem (by simp at hlen; omega)] at h1
  obtain ⟨A, c, L, e1, hr, hE, hn, hm⟩ := cells_rows h1 (fun y hy => hlt y (List.mem_flatMap.2 ⟨_, List.getElem_mem _, hy⟩))
  obtain ⟨la, e0⟩ := cells_law h0
  simp [cLaw, cRows] at e0 e1
  obtain ⟨rfl, rfl, rfl, rfl⟩ := e0
  subst e1
  exact ⟨la, L, A, c, rfl, hr, hE, hn, hm⟩
theorem read_scale {v : Value} {d : DataW H} {ps : List MemPlace} {b0 : Nat} (hv : Value.okWide Tryz.prog W .any b0 64 v) (h : DataW.Trod enc Tryz.prog W 0 (fun _ => true) true 64 v d ps) (hlt : ∀ x ∈ ps, x.block < W.heap.size) :
  ∃ (l : Lw) (LL : List LS) (A : Option Addr) (c : Nat), v = .agg #[Zi l.first, Zi l.step, Zi l.span, Zi l.press, .slice A LL.length c] ∧ Rd W W.heap.size 1 A LL.length (lsC LL) ∧ ElsS W LL ∧ (∀ x ∈ LL, x.1.length ≤ 9223372036854775807) ∧ LL.length ≤ 9223372036854775807 := by
 obtain ⟨cs, rfl, _⟩ := okWide_struct Tryz.underlying64 hv
 obtain ⟨fuel, hf⟩ := h
 obtain ⟨l, LL, A, c, e, h1, h2, h3, h4⟩ := cells_scale hf hlt
 refine ⟨l, LL, A, c, ?_, h1, h2, h3, h4⟩
 have e' : cs.toList = _ := e
 have e2 := congrArg List.toArray e'
 rw [Array.toArray_toList] at e2
 rw [e2]
theorem ic_flat : ∀ l : List Int, (l.flatMap fun n : Int => [Value.int .i64 n]) = ic l
 | [] => rfl
 | a :: r => by rw [List.flatMap_cons, ic_flat r]; rfl
theorem read_intsC {v : Value} {d : DataW H} {ps : List MemPlace} {b0 : Nat} (hv : Value.okWide Tryz.prog W .any b0 33 v) (h : DataW.Trod enc Tryz.prog W 0 (fun _ => true) true 33 v d ps) (hlt : ∀ x ∈ ps, x.block < W.heap.size) :
  ∃ (A : Option Addr) (c : Nat) (l : List Int), v = .slice A l.length c ∧ Rd W W.heap.size 1 A l.length (ic l) ∧ l.length ≤ 9223372036854775807 ∧ l.length ≤ c := by
 obtain ⟨a0, len, cap, rfl⟩ := okWide_slice Tryz.underlying33 hv
 obtain ⟨fuel, hf⟩ := h
 obtain ⟨A, c, l, e, hr, hn, hc⟩ := cells_listV (fun n : Int => [Zi n]) 1 (fun _ => rfl) (by omega) (fun l k x hx i u hu => by
  have hi : i = 0 := by
   have := (List.getElem?_eq_some_iff.1 hu).1
   simp at this
   omega
  subst hi
  simp at hu
  subst hu
  rw [ic_flat]
  unfold ic
  rw [List.getElem?_map, show k * 1 + 0 = k by omega, hx]
  rfl) Tryz.underlying33 cInt (fun _ _ _ h9 => by
   obtain ⟨n, e⟩ := cell_int Tryz.underlying3 h9
   exact ⟨n, e⟩) hf hlt
 rw [ic_flat] at hr
 have e : [Value.slice a0 len cap] = [.slice A l.length c] := by simpa [Value.cells] using e
 injection e with e _
 exact ⟨A, c, l, e, hr, hn, hc⟩
end
end
def difL (lo hi : Snd) : List (Int × Int) := allL (hi.t0 - lo.t1) (hi.t1 - lo.t0) (hi.s0 - lo.s1) (hi.s1 - lo.s0)
def keeps8 (l : Lw) (due : Int) (lo hi : Snd) : Int := if ((difL lo hi).filter fun z => agreeP l due z.1 z.2).length = (difL lo hi).length then 1 else if ((difL lo hi).filter fun z => agreeP l due z.1 z.2).length = 0 then 2 else 3
theorem mem_difL {lo hi : Snd} {z : Int × Int} : z ∈ difL lo hi ↔ (hi.t0 - lo.t1 ≤ z.1 ∧ z.1 ≤ hi.t1 - lo.t0) ∧ hi.s0 - lo.s1 ≤ z.2 ∧ z.2 ≤ hi.s1 - lo.s0 := mem_allL
theorem agree_iff {l : Lw} {due b s : Int} : agreeP l due b s = true ↔ ∀ p : Int, 0 ≤ p → p ≤ l.press → -l.span ≤ b + p * s - due ∧ b + p * s - due ≤ l.span := by
 unfold agreeP
 rw [List.all_eq_true]
 constructor
 ·intro h p h0 h1
  have := h p.toNat (List.mem_range.2 (by omega))
  simp only [withinB, decide_eq_true_eq] at this
  rw [Int.toNat_of_nonneg h0] at this
  exact this
 ·intro h p hp
  have hp := List.mem_range.1 hp
  simp only [withinB, decide_eq_true_eq]
  exact h p (by omega) (by omega)
theorem offL_le8 {due m : Int} : ∀ (r : List (Int × Int)) (n : Int), offL due r n ≤ m ↔ n ≤ m ∧ ∀ x ∈ r, due - x.1 ≤ m ∧ x.2 - due ≤ m
 | [], n => by simp [offL]
 | x :: r, n => by
  rw [offL, offL_le8 r]
  simp only [List.forall_mem_cons]
  constructor
  ·rintro ⟨h1, h2⟩; exact ⟨by omega, ⟨by omega, by omega⟩, h2⟩
  ·rintro ⟨h1, ⟨h2, h3⟩, h4⟩; exact ⟨by omega, h4⟩
theorem off_all {l : Lw} {due : Int} {lo hi : Snd} (hs : 0 ≤ l.span) (gl : lo.t0 ≤ lo.t1 ∧ lo.s0 ≤ lo.s1) (gh : hi.t0 ≤ hi.t1 ∧ hi.s0 ≤ hi.s1) : offP l due lo hi ≤ l.span ↔ ∀ z ∈ difL lo hi, agreeP l due z.1 z.2 = true := by
 unfold offP
 rw [offL_le8]
 constructor
 ·rintro ⟨-, h⟩ z hz
  obtain ⟨⟨a1, a2⟩, a3, a4⟩ := mem_difL.1 hz
  refine agree_iff.2 fun p h0 h1 => ?_
  obtain ⟨b1, b2⟩ := h _ (beatsL_mem.2 ⟨p, h0, h1, rfl⟩)
  dsimp only [beatP, riseP] at b1 b2
  have m1 := Int.mul_le_mul_of_nonneg_left a3 h0
  have m2 := Int.mul_le_mul_of_nonneg_left a4 h0
  rw [Int.mul_sub] at m1 m2
  omega
 ·intro h
  refine ⟨hs, fun x hx => ?_⟩
  obtain ⟨p, h0, h1, rfl⟩ := beatsL_mem.1 hx
  have c1 := agree_iff.1 (h (hi.t0 - lo.t1, hi.s0 - lo.s1) (mem_difL.2 (by dsimp only; omega))) p h0 h1
  have c2 := agree_iff.1 (h (hi.t1 - lo.t0, hi.s1 - lo.s0) (mem_difL.2 (by dsimp only; omega))) p h0 h1
  dsimp only [beatP, riseP] at c1 c2 ⊢
  rw [Int.mul_sub] at c1 c2
  omega
theorem now_ex {l : Lw} {due : Int} {lo hi : Snd} (gl : lo.t0 ≤ lo.t1 ∧ lo.s0 ≤ lo.s1) (gh : hi.t0 ≤ hi.t1 ∧ hi.s0 ≤ hi.s1) : nowL l due [lo, hi] ≠ [] ↔ ∃ z ∈ difL lo hi, agreeP l due z.1 z.2 = true := by
 show stepN l due (allOf lo) hi ≠ [] ↔ _
 unfold stepN allOf
 constructor
 ·intro h
  obtain ⟨y, hy⟩ := List.exists_mem_of_ne_nil _ h
  obtain ⟨hy, hx⟩ := List.mem_filter.1 hy
  obtain ⟨x, hx, ha⟩ := List.any_eq_true.1 hx
  have h1 := mem_allL.1 hy
  have h2 := mem_allL.1 hx
  exact ⟨(y.1 - x.1, y.2 - x.2), mem_difL.2 (by dsimp only; omega), ha⟩
 ·rintro ⟨z, hz, ha⟩ h
  have hz := mem_difL.1 hz
  have split : ∀ d a b c e : Int, a ≤ b → c ≤ e → a - e ≤ d → d ≤ b - c → ∃ y x, d = y - x ∧ (a ≤ y ∧ y ≤ b) ∧ c ≤ x ∧ x ≤ e := fun d a b c e h1 h2 h3 h4 => by
   by_cases hk : a - c ≤ d
   ·exact ⟨d + c, c, by omega, by omega, by omega⟩
   ·exact ⟨a, a - d, by omega, by omega, by omega⟩
  obtain ⟨y1, x1, e1, f1, f2⟩ := split z.1 hi.t0 hi.t1 lo.t0 lo.t1 gh.1 gl.1 hz.1.1 hz.1.2
  obtain ⟨y2, x2, e2, f3, f4⟩ := split z.2 hi.s0 hi.s1 lo.s0 lo.s1 gh.2 gl.2 hz.2.1 hz.2.2
  have hm : (y1, y2) ∈ (allL hi.t0 hi.t1 hi.s0 hi.s1).filter fun y => (allL lo.t0 lo.t1 lo.s0 lo.s1).any fun x => agreeP l due (y.1 - x.1) (y.2 - x.2) :=
   List.mem_filter.2 ⟨mem_allL.2 ⟨f1, f3⟩, List.any_eq_true.2 ⟨(x1, x2), mem_allL.2 ⟨f2, f4⟩, by dsimp only; rw [← e1, ← e2]; exact ha⟩⟩
  rw [h] at hm
  cases hm
theorem keeps8_eq {l : Lw} {due : Int} {lo hi : Snd} (hs : 0 ≤ l.span) (gl : lo.t0 ≤ lo.t1 ∧ lo.s0 ≤ lo.s1) (gh : hi.t0 ≤ hi.t1 ∧ hi.s0 ≤ hi.s1) : keeps8 l due lo hi = keepsP l due [lo, hi] := by
 have h1 := off_all (due := due) hs gl gh
 have h2 := now_ex (l := l) (due := due) gl gh
 have e1 : ((difL lo hi).filter fun z => agreeP l due z.1 z.2).length = (difL lo hi).length ↔ surelyL l due [lo, hi] = true := by
  rw [List.length_filter_eq_length_iff]
  show _ ↔ (decide (offP l due lo hi ≤ l.span) && true) = true
  rw [Bool.and_true, decide_eq_true_eq, h1]
 have e2 : ((difL lo hi).filter fun z => agreeP l due z.1 z.2).length = 0 ↔ (nowL l due [lo, hi]).isEmpty = true := by
  rw [List.isEmpty_iff, List.length_eq_zero_iff, List.filter_eq_nil_iff]
  constructor
  ·intro h
   refine Classical.byContradiction fun h3 => ?_
   obtain ⟨z, hz, ha⟩ := h2.1 h3
   exact h z hz ha
  ·intro h z hz ha
   exact h2.2 ⟨z, hz, ha⟩ h
 unfold keeps8 keepsP
 by_cases c1 : surelyL l due [lo, hi] = true
 ·rw [if_pos c1, if_pos (e1.2 c1)]
 ·rw [if_neg c1, if_neg fun h => c1 (e1.1 h)]
  by_cases c2 : (nowL l due [lo, hi]).isEmpty = true
  ·rw [if_pos c2, if_pos (e2.2 c2)]
  ·rw [if_neg c2, if_neg fun h => c2 (e2.1 h)]
def cntA (l : Lw) (due : Int) (L : List (Int × Int)) : Nat := (L.filter fun z => agreeP l due z.1 z.2).length
theorem cntA_snoc {l : Lw} {due : Int} {L : List (Int × Int)} {a r : Int} : cntA l due (L ++ [(a, r)]) = cntA l due L + (if agreeP l due a r = true then 1 else 0) := by
 unfold cntA
 rw [List.filter_append, List.length_append, List.filter_cons]
 split <;> rfl
theorem keeps8_cnt {l : Lw} {due : Int} {lo hi : Snd} : keeps8 l due lo hi = if cntA l due (difL lo hi) = (difL lo hi).length then 1 else if cntA l due (difL lo hi) = 0 then 2 else 3 := rfl
theorem agree_next {l : Lw} {due b s : Int} {k : Nat} (hk : (k : Int) ≤ l.press) : ((List.range (k + 1)).all fun (p : Nat) => withinB (b + (p : Int) * s - due) (-l.span) l.span) = (((List.range k).all fun (p : Nat) => withinB (b + (p : Int) * s - due) (-l.span) l.span) && withinB (b + (k : Int) * s - due) (-l.span) l.span) := by
 rw [List.range_succ, List.all_append, List.all_cons, List.all_nil, Bool.and_true]
theorem among5_any (n lo hi : Int) (w : World)  :
   Calls Tryz.prog 73 #[Zi n, Zi lo, Zi hi] w fun e w' => e = .returned (.bool (withinB n lo hi)) ∧ Below w.heap.size w w' := by
 refine Zpx noEx Tryz.func73 rfl 15 rfl [Zi n, Zi lo, Zi hi] rfl rfl (Mem.init w _) ?_
 intro ac wc T M
 refine Zsr ?_
 refine lq T (Zra rfl evc) ?_; clear T ac; intro ac T
 replace T := T.pick [1, 2, 3] rfl
 refine Zln ?_
 refine cut_seq (fun ac wc => Tm ac 15 [(6, .bool ((decide (lo ≤ n)) && (decide (n ≤ hi))))] ∧ Mem w noEx wc []) ?_ ?_
 ·refine wp_region_lit ?_
  refine Zg4 T (Zq (Zrm rfl (T.e 0 rfl))) rfl (Zm 2 rfl rfl) rfl (fun _ T => Zq (rn_geq rfl (T.e 1 rfl) (T.e 0 rfl))) rfl (Zm 0 rfl rfl) rfl ?_; clear T ac; intro ac T
  rcases Bool.eq_false_or_eq_true (decide (lo ≤ n)) with h1 | h1
  ·replace h1 := of_decide_eq_true h1
   refine Zg5 T (Zw (Zwy rfl rfl (T.e 0 rfl) (Zdt h1)) (Zrm rfl (T.e 4 rfl))) rfl (fun _ T => Zw (Zwy rfl rfl (T.e 1 rfl) (Zdt h1)) (Zrm rfl (T.e 7 rfl))) rfl (fun _ T => Zw (Zwy rfl rfl (T.e 2 rfl) (Zdt h1)) (rn_leq rfl (T.e 1 rfl) (T.e 0 rfl))) rfl (fun _ T => Zq (Zr1 rfl (T.e 3 rfl) (Zdt h1) (T.e 0 rfl))) rfl (Za 0 rfl rfl) rfl ?_; clear T ac; intro ac T
   refine wpList_nil ?_
   replace T := T.pick [0] rfl
   exact ⟨(T.pick (E' := [(6, .bool (decide (n ≤ hi)))]) [0] rfl).as (by (try rw [show (decide (lo ≤ n)) = true from (Zdt h1)]); (try rfl)), M.mask [] rfl⟩
  replace h1 := of_decide_eq_false h1
  refine Zg5 T (Zp (Zwn rfl rfl (T.e 0 rfl) (Zdf h1))) rfl (fun _ T => Zp (Zwn rfl rfl (T.e 1 rfl) (Zdf h1))) rfl (fun _ T => Zp (Zwn rfl rfl (T.e 2 rfl) (Zdf h1))) rfl (fun _ T => Zq (Zr0 rfl (T.e 3 rfl) (Zdf h1) evc)) rfl (Za 0 rfl rfl) rfl ?_; clear T ac; intro ac T
  refine wpList_nil ?_
  replace T := T.pick [0] rfl
  exact ⟨(T.pick (E' := [(6, .bool false)]) [0] rfl).as (by (try rw [show (decide (lo ≤ n)) = false from (Zdf h1)]); (try rfl)), M.mask [] rfl⟩
 clear T M
 rintro ac wc ⟨T, M⟩
 refine wp_ret ?_
 refine rt_1 T rfl (T.e 0 rfl) ?_
 exact ⟨ret_bool (by unfold withinB; simp), M.below⟩
theorem checkRange5_any (x0 x1 most : Int) (w : World) (hm : 0 ≤ most ∧ most ≤ 1000) :
   Calls Tryz.prog 121 #[.agg #[Zi x0, Zi x1], Zi most] w fun e w' => e = .returned (Zi (chkR x0 x1 (-most) most)) ∧ Below w.heap.size w w' := by
 refine Zpx noEx Tryz.func121 rfl 26 rfl [.agg #[Zi x0, Zi x1], Zi most] rfl rfl (Mem.init w _) ?_
 intro ac wc T M
 refine Zsr ?_
 refine Zl2 ?_
 refine Zob M T rfl rfl rfl rfl (T.e 0 rfl) rfl ?_; clear M T; intro g1 wc ac M T
 refine lq T (Zra rfl evc) ?_; clear T ac; intro ac T
 replace T := T.pick [1, 3] rfl
 refine Zln ?_
 refine wp_seq ?_
 refine cut_seq (fun ac wc => Tm ac 26 [(2, Zj g1), (20, .bool ((!(withinB x0 (-most) most)) || (!(withinB x1 (-most) most))))] ∧ Mem w noEx wc [(g1, .cells [Zi x0, Zi x1])]) ?_ ?_
 ·refine wp_region_lit ?_
  refine Zg5 (v1 := (Zj g1)) T (Zq (Zrf (off := 0) rfl (T.e 0 rfl) (fun _ _ _ => by kernel_rfl))) rfl (Zo M 0 0 rfl rfl rfl rfl) rfl (Zm 3 rfl rfl) rfl (fun _ T => Zq (rn_neg rfl (T.e 0 rfl) (by omega))) rfl (Zm 5 rfl rfl) rfl ?_; clear T ac; intro ac T
  refine Zl2 ?_
  refine Zoc (first := []) (cap := []) T rfl rfl rfl rfl evf (.cons (T.e 3 rfl) (.cons (T.e 1 rfl) (.cons (T.e 0 rfl) .nil))) Tryz.func73 rfl rfl ?_
  refine Calls.mono (among5_any x0 (-most) most _) ?_
  clear T; rintro e wc ⟨rfl, hb⟩ ac T
  replace M := M.call hb; clear hb
  refine Zg2 T (Zq (rn_not rfl (T.e 0 rfl))) rfl (Zm 0 rfl rfl) rfl ?_; clear T ac; intro ac T
  rcases Bool.eq_false_or_eq_true (!(withinB x0 (-most) most)) with h1 | h1
  ·refine Zg8 T (Zp (Zwn rfl rfl (T.e 0 rfl) h1)) rfl (fun _ T => Zp (Zwn rfl rfl (T.e 1 rfl) h1)) rfl (fun _ T => Zp (Zwn rfl rfl (T.e 2 rfl) h1)) rfl (fun _ T => Zp (Zwn rfl rfl (T.e 3 rfl) h1)) rfl (fun _ T => Zp (Zwn rfl rfl (T.e 4 rfl) h1)) rfl (fun _ T => Zp (Zwn rfl rfl (T.e 5 rfl) h1)) rfl (fun _ T => Zp (Zwn rfl rfl (T.e 6 rfl) h1)) rfl (fun _ T => Zq (Zr1 rfl (T.e 7 rfl) h1 evc)) rfl ?_; clear T ac; intro ac T
   refine wpList_nil ?_
   replace T := T.pick [0, 16] rfl
   exact ⟨(T.pick (E' := [(2, Zj g1), (20, .bool true)]) [1, 0] rfl).as (by (try rw [show (!(withinB x0 (-most) most)) = true from h1]); (try rfl)), M.mask [true] rfl⟩
  refine Zg5 (v1 := (.pointer (some ⟨g1, 1, none⟩))) T (Zw (Zwy rfl rfl (T.e 0 rfl) h1) (Zrf (off := 1) rfl (T.e 8 rfl) (fun _ _ _ => by kernel_rfl))) rfl (fun _ T => Zw (Zwy rfl rfl (T.e 1 rfl) h1) (Zro (Mem.nth M 0 rfl) rfl (T.e 0 rfl) rfl)) rfl (fun _ T => Zw (Zwy rfl rfl (T.e 2 rfl) h1) (Zrm rfl (T.e 11 rfl))) rfl (fun _ T => Zw (Zwy rfl rfl (T.e 3 rfl) h1) (rn_neg rfl (T.e 0 rfl) (by omega))) rfl (fun _ T => Zw (Zwy rfl rfl (T.e 4 rfl) h1) (Zrm rfl (T.e 13 rfl))) rfl ?_; clear T ac; intro ac T
  refine l_w (Zwy rfl rfl (T.e 5 rfl) h1) ?_; intro K hK
  refine Zoc (first := []) (cap := []) T rfl rfl rfl rfl evf (.cons (T.e 3 rfl) (.cons (T.e 1 rfl) (.cons (T.e 0 rfl) .nil))) Tryz.func73 rfl rfl ?_
  refine Calls.mono (among5_any x1 (-most) most _) ?_
  clear T; rintro e wc ⟨rfl, hb⟩ ac T
  replace M := M.call hb; clear hb
  refine Zso hK _ _ ?_; clear hK K
  refine Zg2 T (Zw (Zwy rfl rfl (T.e 6 rfl) h1) (rn_not rfl (T.e 0 rfl))) rfl (fun _ T => Zq (Zr0 rfl (T.e 7 rfl) h1 (T.e 0 rfl))) rfl ?_; clear T ac; intro ac T
  refine wpList_nil ?_
  replace T := T.pick [0, 16] rfl
  exact ⟨(T.pick (E' := [(2, Zj g1), (20, .bool (!(withinB x1 (-most) most)))]) [1, 0] rfl).as (by (try rw [show (!(withinB x0 (-most) most)) = false from h1]); (try rfl)), M.mask [true] rfl⟩
 clear T M
 rintro ac wc ⟨T, M⟩
 refine wp_cond_split (T.e 1 rfl) ?_ ?_
 ·intro h2
  (have h2' := h2; try simp only [Zb1, Zb2, Zb3, Zb4, Zb5, Zb6, Zb7] at h2')
  refine Zsr ?_
  refine lq T (Zra rfl evc) ?_; clear T ac; intro ac T
  refine wpList_nil ?_
  replace T := T.pick [0] rfl
  replace M := M.mask [false] rfl
  refine Znr ?_
  refine Zrt ?_
  refine rt_1 T rfl (T.e 0 rfl) ?_
  exact ⟨ret_int (by unfold chkR; first | (simp_all; done) | (simp_all; omega) | (simp_all; intro h8 h9; simp_all)), M.below⟩
 intro h2
 (have h2' := h2; try simp only [Zb1, Zb2, Zb3, Zb4, Zb5, Zb6, Zb7] at h2')
 refine Zsk ?_
 refine wp_seq ?_
 refine Zsr ?_
 refine Zg5 (v1 := (Zj g1)) (v3 := (.pointer (some ⟨g1, 1, none⟩))) T (Zq (Zrf (off := 0) rfl (T.e 0 rfl) (fun _ _ _ => by kernel_rfl))) rfl (Zo M 0 0 rfl rfl rfl rfl) rfl (Zf 1 2 rfl rfl) rfl (Zo M 0 0 rfl rfl rfl rfl) rfl (fun _ T => Zq (rn_gtr rfl (T.e 2 rfl) (T.e 0 rfl))) rfl ?_; clear T ac; intro ac T
 refine wpList_nil ?_
 replace T := T.pick [0] rfl
 replace M := M.mask [false] rfl
 refine nm_then ?_
 refine wp_if (T.e 0 rfl) ?_ ?_
 ·intro h3
  refine Zsr ?_
  refine lq T (Zra rfl evc) ?_; clear T ac; intro ac T
  replace T := T.pick [0] rfl
  refine Zln ?_
  refine wp_ret ?_
  refine Zrt ?_
  refine rt_1 T rfl (T.e 0 rfl) ?_
  exact ⟨ret_int (by unfold chkR; first | (simp_all; done) | (simp_all; omega) | (simp_all; intro h8 h9; simp_all)), M.below⟩
 intro h3
 refine Zsk ?_
 refine Zsr ?_
 refine lq T (Zra rfl evc) ?_; clear T ac; intro ac T
 replace T := T.pick [0] rfl
 refine Zln ?_
 refine wp_ret ?_
 refine rt_1 T rfl (T.e 0 rfl) ?_
 exact ⟨ret_int (by unfold chkR; first | (simp_all; done) | (simp_all; omega) | (simp_all; intro h8 h9; simp_all)), M.below⟩
theorem checkLaw5_any (l : Lw) (w : World)  :
   Calls Tryz.prog 72 #[.agg #[Zi l.first, Zi l.step, Zi l.span, Zi l.press]] w fun e w' => e = .returned (Zi (lawE l)) ∧ Below w.heap.size w w' := by
 refine Zpx noEx Tryz.func72 rfl 25 rfl [.agg #[Zi l.first, Zi l.step, Zi l.span, Zi l.press]] rfl rfl (Mem.init w _) ?_
 intro ac wc T M
 refine Zsr ?_
 refine Zl2 ?_
 refine Zob M T rfl rfl rfl rfl (T.e 0 rfl) rfl ?_; clear M T; intro g1 wc ac M T
 refine lq T (Zra rfl evc) ?_; clear T ac; intro ac T
 replace T := T.pick [1] rfl
 refine Zln ?_
 refine wp_seq ?_
 refine cut_seq (fun ac wc => Tm ac 25 [(24, .bool ((!(withinB l.first 0 30)) || ((!(withinB l.step (-5) 5)) || ((!(withinB l.span 0 20)) || (!(withinB l.press 0 3))))))] ∧ Mem w noEx wc []) ?_ ?_
 ·refine wp_region_lit ?_
  refine Zg2 (v1 := (Zj g1)) T (Zq (Zrf (off := 0) rfl (T.e 0 rfl) (fun _ _ _ => by kernel_rfl))) rfl (Zo M 0 0 rfl rfl rfl rfl) rfl ?_; clear T ac; intro ac T
  refine Zl2 ?_
  refine Zoc (first := []) (cap := []) T rfl rfl rfl rfl evf (.cons (T.e 0 rfl) (.cons evc (.cons evc .nil))) Tryz.func73 rfl rfl ?_
  refine Calls.mono (among5_any l.first 0 30 _) ?_
  clear T; rintro e wc ⟨rfl, hb⟩ ac T
  replace M := M.call hb; clear hb
  refine Zg2 T (Zq (rn_not rfl (T.e 0 rfl))) rfl (Zm 0 rfl rfl) rfl ?_; clear T ac; intro ac T
  rcases Bool.eq_false_or_eq_true (!(withinB l.first 0 30)) with h1 | h1
  ·refine Zg8 T (Zp (Zwn rfl rfl (T.e 0 rfl) h1)) rfl (fun _ T => Zp (Zwn rfl rfl (T.e 1 rfl) h1)) rfl (fun _ T => Zp (Zwn rfl rfl (T.e 2 rfl) h1)) rfl (fun _ T => Zp (Zwn rfl rfl (T.e 3 rfl) h1)) rfl (fun _ T => Zq (Zr1 rfl (T.e 4 rfl) h1 evc)) rfl (Zm 0 rfl rfl) rfl (fun _ T => Zp (Zwn rfl rfl (T.e 0 rfl) rfl)) rfl (fun _ T => Zp (Zwn rfl rfl (T.e 1 rfl) rfl)) rfl ?_; clear T ac; intro ac T
   refine Zg8 T (Zp (Zwn rfl rfl (T.e 2 rfl) rfl)) rfl (fun _ T => Zp (Zwn rfl rfl (T.e 3 rfl) rfl)) rfl (fun _ T => Zq (Zr1 rfl (T.e 4 rfl) rfl evc)) rfl (Zm 0 rfl rfl) rfl (fun _ T => Zp (Zwn rfl rfl (T.e 0 rfl) rfl)) rfl (fun _ T => Zp (Zwn rfl rfl (T.e 1 rfl) rfl)) rfl (fun _ T => Zp (Zwn rfl rfl (T.e 2 rfl) rfl)) rfl (fun _ T => Zp (Zwn rfl rfl (T.e 3 rfl) rfl)) rfl ?_; clear T ac; intro ac T
   refine lq T (Zr1 rfl (T.e 4 rfl) rfl evc) ?_; clear T ac; intro ac T
   refine wpList_nil ?_
   replace T := T.pick [0] rfl
   replace M := M.mask [false] rfl
   exact ⟨(T.pick (E' := [(24, .bool true)]) [0] rfl).as (by (try rw [show (!(withinB l.first 0 30)) = true from h1]); (try rfl)), M.mask [] rfl⟩
  refine Zg2 (v1 := (.pointer (some ⟨g1, 1, none⟩))) T (Zw (Zwy rfl rfl (T.e 0 rfl) h1) (Zrf (off := 1) rfl (T.e 5 rfl) (fun _ _ _ => by kernel_rfl))) rfl (fun _ T => Zw (Zwy rfl rfl (T.e 1 rfl) h1) (Zro (Mem.nth M 0 rfl) rfl (T.e 0 rfl) rfl)) rfl ?_; clear T ac; intro ac T
  refine l_w (Zwy rfl rfl (T.e 2 rfl) h1) ?_; intro K hK
  refine Zoc (first := []) (cap := []) T rfl rfl rfl rfl evf (.cons (T.e 0 rfl) (.cons evc (.cons evc .nil))) Tryz.func73 rfl rfl ?_
  refine Calls.mono (among5_any l.step (-5) 5 _) ?_
  clear T; rintro e wc ⟨rfl, hb⟩ ac T
  replace M := M.call hb; clear hb
  refine Zso hK _ _ ?_; clear hK K
  refine Zg3 T (Zw (Zwy rfl rfl (T.e 3 rfl) h1) (rn_not rfl (T.e 0 rfl))) rfl (fun _ T => Zq (Zr0 rfl (T.e 4 rfl) h1 (T.e 0 rfl))) rfl (Zm 0 rfl rfl) rfl ?_; clear T ac; intro ac T
  rcases Bool.eq_false_or_eq_true (!(withinB l.step (-5) 5)) with h2 | h2
  ·refine Zg8 T (Zp (Zwn rfl rfl (T.e 0 rfl) h2)) rfl (fun _ T => Zp (Zwn rfl rfl (T.e 1 rfl) h2)) rfl (fun _ T => Zp (Zwn rfl rfl (T.e 2 rfl) h2)) rfl (fun _ T => Zp (Zwn rfl rfl (T.e 3 rfl) h2)) rfl (fun _ T => Zq (Zr1 rfl (T.e 4 rfl) h2 evc)) rfl (Zm 0 rfl rfl) rfl (fun _ T => Zp (Zwn rfl rfl (T.e 0 rfl) rfl)) rfl (fun _ T => Zp (Zwn rfl rfl (T.e 1 rfl) rfl)) rfl ?_; clear T ac; intro ac T
   refine Zg3 T (Zp (Zwn rfl rfl (T.e 2 rfl) rfl)) rfl (fun _ T => Zp (Zwn rfl rfl (T.e 3 rfl) rfl)) rfl (fun _ T => Zq (Zr1 rfl (T.e 4 rfl) rfl evc)) rfl ?_; clear T ac; intro ac T
   refine wpList_nil ?_
   replace T := T.pick [0] rfl
   replace M := M.mask [false] rfl
   exact ⟨(T.pick (E' := [(24, .bool true)]) [0] rfl).as (by (try rw [show (!(withinB l.first 0 30)) = false from h1]); (try rw [show (!(withinB l.step (-5) 5)) = true from h2]); (try rfl)), M.mask [] rfl⟩
  refine Zg2 (v1 := (.pointer (some ⟨g1, 2, none⟩))) T (Zw (Zwy rfl rfl (T.e 0 rfl) h2) (Zrf (off := 2) rfl (T.e 11 rfl) (fun _ _ _ => by kernel_rfl))) rfl (fun _ T => Zw (Zwy rfl rfl (T.e 1 rfl) h2) (Zro (Mem.nth M 0 rfl) rfl (T.e 0 rfl) rfl)) rfl ?_; clear T ac; intro ac T
  refine l_w (Zwy rfl rfl (T.e 2 rfl) h2) ?_; intro K hK
  refine Zoc (first := []) (cap := []) T rfl rfl rfl rfl evf (.cons (T.e 0 rfl) (.cons evc (.cons evc .nil))) Tryz.func73 rfl rfl ?_
  refine Calls.mono (among5_any l.span 0 20 _) ?_
  clear T; rintro e wc ⟨rfl, hb⟩ ac T
  replace M := M.call hb; clear hb
  refine Zso hK _ _ ?_; clear hK K
  refine Zg3 T (Zw (Zwy rfl rfl (T.e 3 rfl) h2) (rn_not rfl (T.e 0 rfl))) rfl (fun _ T => Zq (Zr0 rfl (T.e 4 rfl) h2 (T.e 0 rfl))) rfl (Zm 0 rfl rfl) rfl ?_; clear T ac; intro ac T
  rcases Bool.eq_false_or_eq_true (!(withinB l.span 0 20)) with h3 | h3
  ·refine Zg5 T (Zp (Zwn rfl rfl (T.e 0 rfl) h3)) rfl (fun _ T => Zp (Zwn rfl rfl (T.e 1 rfl) h3)) rfl (fun _ T => Zp (Zwn rfl rfl (T.e 2 rfl) h3)) rfl (fun _ T => Zp (Zwn rfl rfl (T.e 3 rfl) h3)) rfl (fun _ T => Zq (Zr1 rfl (T.e 4 rfl) h3 evc)) rfl ?_; clear T ac; intro ac T
   refine wpList_nil ?_
   replace T := T.pick [0] rfl
   replace M := M.mask [false] rfl
   exact ⟨(T.pick (E' := [(24, .bool true)]) [0] rfl).as (by (try rw [show (!(withinB l.first 0 30)) = false from h1]); (try rw [show (!(withinB l.step (-5) 5)) = false from h2]); (try rw [show (!(withinB l.span 0 20)) = true from h3]); (try rfl)), M.mask [] rfl⟩
  refine Zg2 (v1 := (.pointer (some ⟨g1, 3, none⟩))) T (Zw (Zwy rfl rfl (T.e 0 rfl) h3) (Zrf (off := 3) rfl (T.e 17 rfl) (fun _ _ _ => by kernel_rfl))) rfl (fun _ T => Zw (Zwy rfl rfl (T.e 1 rfl) h3) (Zro (Mem.nth M 0 rfl) rfl (T.e 0 rfl) rfl)) rfl ?_; clear T ac; intro ac T
  refine l_w (Zwy rfl rfl (T.e 2 rfl) h3) ?_; intro K hK
  refine Zoc (first := []) (cap := []) T rfl rfl rfl rfl evf (.cons (T.e 0 rfl) (.cons evc (.cons evc .nil))) Tryz.func73 rfl rfl ?_
  refine Calls.mono (among5_any l.press 0 3 _) ?_
  clear T; rintro e wc ⟨rfl, hb⟩ ac T
  replace M := M.call hb; clear hb
  refine Zso hK _ _ ?_; clear hK K
  refine Zg2 T (Zw (Zwy rfl rfl (T.e 3 rfl) h3) (rn_not rfl (T.e 0 rfl))) rfl (fun _ T => Zq (Zr0 rfl (T.e 4 rfl) h3 (T.e 0 rfl))) rfl ?_; clear T ac; intro ac T
  refine wpList_nil ?_
  replace T := T.pick [0] rfl
  replace M := M.mask [false] rfl
  exact ⟨(T.pick (E' := [(24, .bool (!(withinB l.press 0 3)))]) [0] rfl).as (by (try rw [show (!(withinB l.first 0 30)) = false from h1]); (try rw [show (!(withinB l.step (-5) 5)) = false from h2]); (try rw [show (!(withinB l.span 0 20)) = false from h3]); (try rfl)), M.mask [] rfl⟩
 clear T M
 rintro ac wc ⟨T, M⟩
 refine wp_cond_split (T.e 0 rfl) ?_ ?_
 ·intro h4
  (have h4' := h4; try simp only [Zb1, Zb2, Zb3, Zb4, Zb5, Zb6, Zb7] at h4')
  refine Zsr ?_
  refine lq T (Zra rfl evc) ?_; clear T ac; intro ac T
  replace T := T.pick [0] rfl
  refine Zln ?_
  refine wp_ret ?_
  refine Zrt ?_
  refine rt_1 T rfl (T.e 0 rfl) ?_
  refine ⟨ret_int ?_, M.below⟩
  unfold lawE
  rcases Bool.eq_false_or_eq_true (withinB l.first 0 30) with a1 | a1 <;> rcases Bool.eq_false_or_eq_true (withinB l.step (-5) 5) with a2 | a2 <;> rcases Bool.eq_false_or_eq_true (withinB l.span 0 20) with a3 | a3 <;> rcases Bool.eq_false_or_eq_true (withinB l.press 0 3) with a4 | a4 <;> simp_all
 intro h4
 (have h4' := h4; try simp only [Zb1, Zb2, Zb3, Zb4, Zb5, Zb6, Zb7] at h4')
 refine Zsk ?_
 refine Zsr ?_
 refine lq T (Zra rfl evc) ?_; clear T ac; intro ac T
 replace T := T.pick [0] rfl
 refine Zln ?_
 refine wp_ret ?_
 refine rt_1 T rfl (T.e 0 rfl) ?_
 refine ⟨ret_int ?_, M.below⟩
 unfold lawE
 rcases Bool.eq_false_or_eq_true (withinB l.first 0 30) with a1 | a1 <;> rcases Bool.eq_false_or_eq_true (withinB l.step (-5) 5) with a2 | a2 <;> rcases Bool.eq_false_or_eq_true (withinB l.span 0 20) with a3 | a3 <;> rcases Bool.eq_false_or_eq_true (withinB l.press 0 3) with a4 | a4 <;> simp_all
theorem due5_any (l : Lw) (n : Int) (w : World) (h0 : -1000 ≤ l.first ∧ l.first ≤ 1000) (h1 : -1000 ≤ l.step ∧ l.step ≤ 1000) (h2 : -1000 ≤ n ∧ n ≤ 1000) :
  Calls Tryz.prog 74 #[.agg #[Zi l.first, Zi l.step, Zi l.span, Zi l.press], Zi n] w fun e w' => e = .returned (Zi (l.first + l.step * n)) ∧ Below w.heap.size w w' := by
 have hm := mulB h1 h2
 refine Zpx noEx Tryz.func74 rfl 12 rfl [.agg #[Zi l.first, Zi l.step, Zi l.span, Zi l.press], Zi n] rfl rfl (Mem.init w _) ?_
 intro ac wc T M
 refine Zsr ?_
 refine Zl2 ?_
 refine Zob M T rfl rfl rfl rfl (T.e 0 rfl) rfl ?_; clear M T; intro g1 wc ac M T
 refine lq T (Zra rfl evc) ?_; clear T ac; intro ac T
 replace T := T.pick [1, 3] rfl
 refine Zln ?_
 refine Zsr ?_
 refine Zg8 (v1 := (Zj g1)) (v3 := (.pointer (some ⟨g1, 1, none⟩))) T (Zq (Zrf (off := 0) rfl (T.e 0 rfl) (fun _ _ _ => by kernel_rfl))) rfl (Zo M 0 0 rfl rfl rfl rfl) rfl (Zf 1 2 rfl rfl) rfl (Zo M 0 0 rfl rfl rfl rfl) rfl (Zm 5 rfl rfl) rfl (fun _ T => Zq (rn_mul rfl (T.e 1 rfl) (T.e 0 rfl) (by omega))) rfl (fun _ T => Zq (rn_add rfl (T.e 4 rfl) (T.e 0 rfl) (by omega))) rfl (Za 0 rfl rfl) rfl ?_; clear T ac; intro ac T
 refine wpList_nil ?_
 replace T := T.pick [0] rfl
 replace M := M.mask [false] rfl
 refine Znr ?_
 refine rt_1 T rfl (T.e 0 rfl) ?_
 exact ⟨rfl, M.below⟩
theorem checkSounds5_any (A : Option Addr) (n c : Nat) (l : List Snd) (most : Int) (w : World) (hr : Rd w w.heap.size 4 A n (sc l)) (hn : n ≤ 1000000) :
   Calls Tryz.prog 85 #[.slice A n c, Zi most] w fun e w' => e = .returned (Zi (sndsE l most)) ∧ Below w.heap.size w w' := by
 have hl := hr.len4
 obtain ⟨bJ, oJ, SJ⟩ := Sp.old hr
 refine Zpx noEx Tryz.func85 rfl 36 rfl [.slice A n c, Zi most] rfl rfl (Mem.init w _) ?_
 intro ac wc T M
 refine Zsr ?_
 refine lq T (Zra rfl evc) ?_; clear T ac; intro ac T
 replace T := T.pick [1, 2] rfl
 refine Zln ?_
 refine wp_seq ?_
 refine Zsr ?_
 refine Zg4 T (Zq (Zrm rfl (T.e 0 rfl))) rfl (Zl Tryz.underlying24 0 rfl rfl) rfl (Zm 3 rfl rfl) rfl (fun _ T => Zq (rn_gtr rfl (T.e 1 rfl) (T.e 0 rfl))) rfl ?_; clear T ac; intro ac T
 replace T := T.pick [0, 4] rfl
 refine Zln ?_
 refine wp_if (T.e 0 rfl) ?_ ?_
 ·intro h1
  refine Zsr ?_
  refine lq T (Zra rfl evc) ?_; clear T ac; intro ac T
  replace T := T.pick [0] rfl
  refine Zln ?_
  refine wp_ret ?_
  refine Zrt ?_
  refine rt_1 T rfl (T.e 0 rfl) ?_
  refine ⟨ret_int ?_, M.below⟩
  unfold sndsE
  rw [if_pos (by omega)]
 intro h1
 refine Zsk ?_
 refine wp_seq ?_
 refine Zsr ?_
 refine lq T (Zra rfl evc) ?_; clear T ac; intro ac T
 replace T := T.pick [0, 2] rfl
 refine Zln ?_
 refine wp_block ?_
 refine wp_loop_n (fun mz ac wc => ∃ (k : Nat), mz = n - k ∧ (k ≤ n) ∧ (sndsL l = sndsL (l.drop k)) ∧ Tm ac 36 [(0, .slice A n c), (5, Zi (k : Int))] ∧ Mem w noEx wc []) ?_ ?_
 ·exact ⟨_, 0, rfl, (by omega), rfl, T.pick [1, 0] rfl, M.mask [] rfl⟩
 clear T M
 rintro mz ac wc ⟨k, hmm1, hk, H, T, M⟩
 refine wp_seq ?_
 refine Zsr ?_
 refine Zg4 T (Zq (Zrm rfl (T.e 1 rfl))) rfl (Zm 1 rfl rfl) rfl (Zl Tryz.underlying24 0 rfl rfl) rfl (fun _ T => Zq (rn_lss rfl (T.e 2 rfl) (T.e 0 rfl))) rfl ?_; clear T ac; intro ac T
 replace T := T.pick [0, 4, 5] rfl
 refine Zln ?_
 refine wp_if (T.e 0 rfl) ?_ ?_
 ·intro h2
  obtain ⟨x, hk1, hd⟩ := sc_next (l := l) (k := k) (by omega)
  rw [hd, sndsL, sndE] at H
  refine Zsk ?_
  refine wp_seq ?_
  refine wp_block ?_
  refine wp_seq ?_
  refine Zsr ?_
  refine Zg5 (v5 := (.agg #[Zi x.t0, Zi x.t1])) T (Zq (Zrm rfl (T.e 1 rfl))) rfl (Zm 3 rfl rfl) rfl (fun _ T => Zq (Zri (size := 4) k rfl (T.e 1 rfl) (T.e 0 rfl) ⟨_, Tryz.underlying24, by kernel_rfl⟩ rfl (by omega) (SJ.at0 (by omega)))) rfl (Zf 0 0 rfl rfl) rfl (fun _ T => Zq (rn_rowat (Sp.scR02 SJ M (Zz9 _) hk1) rfl (T.e 0 rfl) rfl)) rfl ?_; clear T ac; intro ac T
  refine Zl2 ?_
  refine Zoc (first := []) (cap := []) T rfl rfl rfl rfl evf (.cons (T.e 0 rfl) (.cons evc .nil)) Tryz.func121 rfl rfl ?_
  refine Calls.mono (checkRange5_any x.t0 x.t1 30 _ (by omega)) ?_
  clear T; rintro e wc ⟨rfl, hb⟩ ac T
  replace M := M.call hb; clear hb
  refine lq T (Zra rfl (T.e 0 rfl)) ?_; clear T ac; intro ac T
  replace T := T.pick [0, 8, 9] rfl
  refine Zln ?_
  refine Zsr ?_
  refine Zg2 T (Zq (Zrm rfl (T.e 0 rfl))) rfl (fun _ T => Zq (rn_neq rfl (T.e 0 rfl) evc)) rfl ?_; clear T ac; intro ac T
  replace T := T.pick [0, 2, 3, 4] rfl
  refine Zln ?_
  refine wp_ifn (T.e 0 rfl) ?_ ?_
  ·intro h3
   refine Zsr ?_
   refine Zg2 T (Zq (Zrm rfl (T.e 1 rfl))) rfl (Za 0 rfl rfl) rfl ?_; clear T ac; intro ac T
   replace T := T.pick [0] rfl
   refine Zln ?_
   refine wp_ret ?_
   refine Zrt ?_
   refine Zrb ?_
   refine Zrt ?_
   refine Zrt ?_
   refine Zrb ?_
   refine Zrt ?_
   refine rt_1 T rfl (T.e 0 rfl) ?_
   refine ⟨ret_int ?_, M.below⟩
   unfold sndsE
   rw [if_neg (by omega), H]
   simp_all
  intro h3
  refine Zsk ?_
  refine Zsr ?_
  refine Zg5 (v5 := (.agg #[Zi x.s0, Zi x.s1])) T (Zq (Zrm rfl (T.e 2 rfl))) rfl (Zm 4 rfl rfl) rfl (fun _ T => Zq (Zri (size := 4) k rfl (T.e 1 rfl) (T.e 0 rfl) ⟨_, Tryz.underlying24, by kernel_rfl⟩ rfl (by omega) (SJ.at0 (by omega)))) rfl (Zf 2 0 rfl rfl) rfl (fun _ T => Zq (rn_rowat (Sp.scR22 SJ M (Zz9 _) hk1) rfl (T.e 0 rfl) rfl)) rfl ?_; clear T ac; intro ac T
  refine Zl2 ?_
  refine Zoc (first := []) (cap := []) T rfl rfl rfl rfl evf (.cons (T.e 0 rfl) (.cons evc .nil)) Tryz.func121 rfl rfl ?_
  refine Calls.mono (checkRange5_any x.s0 x.s1 3 _ (by omega)) ?_
  clear T; rintro e wc ⟨rfl, hb⟩ ac T
  replace M := M.call hb; clear hb
  refine lq T (Zra rfl (T.e 0 rfl)) ?_; clear T ac; intro ac T
  replace T := T.pick [0, 9, 10] rfl
  refine Zln ?_
  refine Zsr ?_
  refine Zg2 T (Zq (Zrm rfl (T.e 0 rfl))) rfl (fun _ T => Zq (rn_neq rfl (T.e 0 rfl) evc)) rfl ?_; clear T ac; intro ac T
  replace T := T.pick [0, 2, 3, 4] rfl
  refine Zln ?_
  refine wp_ifn (T.e 0 rfl) ?_ ?_
  ·intro h4
   refine Zsr ?_
   refine Zg2 T (Zq (Zrm rfl (T.e 1 rfl))) rfl (Za 0 rfl rfl) rfl ?_; clear T ac; intro ac T
   replace T := T.pick [0] rfl
   refine Zln ?_
   refine wp_ret ?_
   refine Zrb ?_
   refine Zrt ?_
   refine Zrt ?_
   refine Zrb ?_
   refine Zrt ?_
   refine rt_1 T rfl (T.e 0 rfl) ?_
   refine ⟨ret_int ?_, M.below⟩
   unfold sndsE
   rw [if_neg (by omega), H]
   simp_all
  intro h4
  refine wp_skip ?_
  refine Znb ?_
  refine nm_then ?_
  refine wp_region_lit ?_
  refine Zg2 T (Zq (Zrm rfl (T.e 3 rfl))) rfl (fun _ T => Zq (rn_add rfl (T.e 0 rfl) evc (by omega))) rfl ?_; clear T ac; intro ac T
  refine l_q (v := (Zi ((k : Int) + 1))) (T.pick [0, 1, 2, 3, 4] rfl) rfl rfl rfl rfl (Zra rfl (T.e 0 rfl)) ?_; clear T ac; intro ac T
  replace T := T.pick [0, 5] rfl
  refine Zln ?_
  rw [if_pos (by simp_all)] at H
  exact ⟨_, by omega, k + 1, rfl, (by omega), H, T.pick [1, 0] rfl, M.mask [] rfl⟩
 intro h2
 rw [List.drop_of_length_le (by omega), sndsL] at H
 refine wp_exit ?_
 refine Zet ?_
 refine Zet ?_
 refine ex_hit ?_
 refine nm_then ?_
 refine Zsr ?_
 refine lq T (Zra rfl evc) ?_; clear T ac; intro ac T
 replace T := T.pick [0] rfl
 refine Zln ?_
 refine wp_ret ?_
 refine rt_1 T rfl (T.e 0 rfl) ?_
 refine ⟨ret_int ?_, M.below⟩
 unfold sndsE
 rw [if_neg (by omega), H]
theorem beat5_any (lo hi : Snd) (p : Int) (w : World) (gl : lo.good) (gh : hi.good) (hp : 0 ≤ p ∧ p ≤ 3) :
  Calls Tryz.prog 79 #[.agg #[Zi lo.t0, Zi lo.t1, Zi lo.s0, Zi lo.s1], .agg #[Zi hi.t0, Zi hi.t1, Zi hi.s0, Zi hi.s1], Zi p] w fun e w' => e = .returned (.agg #[Zi ((beatP lo hi p).1), Zi ((beatP lo hi p).2)]) ∧ Below w.heap.size w w' := by
 obtain ⟨g1, g2⟩ := gl
 obtain ⟨g3, g4⟩ := gh
 have m1 := mulB (a := hi.s0 - lo.s1) (b := p) (by omega) (by omega)
 have m2 := mulB (a := hi.s1 - lo.s0) (b := p) (by omega) (by omega)
 refine Zpx noEx Tryz.func79 rfl 42 rfl [.agg #[Zi lo.t0, Zi lo.t1, Zi lo.s0, Zi lo.s1], .agg #[Zi hi.t0, Zi hi.t1, Zi hi.s0, Zi hi.s1], Zi p] rfl rfl (Mem.init w _) ?_
 intro ac wc T M
 refine Zsr ?_
 refine Zl2 ?_
 refine Zob M T rfl rfl rfl rfl (T.e 0 rfl) rfl ?_; clear M T; intro g1 wc ac M T
 refine Zl2 ?_
 refine Zob M T rfl rfl rfl rfl (T.e 2 rfl) rfl ?_; clear M T; intro g2 wc ac M T
 refine Zl2 ?_
 refine Zoa M T rfl rfl rfl rfl ?_; clear M T; intro g3 wc ac M T
 replace T := T.pick [0, 1, 2, 5] rfl
 refine Zln ?_
 refine Zsr ?_
 refine Zg8 (v1 := (Zj g2)) (v2 := (Zj g2)) (v4 := (Zj g1)) (v5 := (.pointer (some ⟨g1, 1, none⟩))) (v8 := (.pointer (some ⟨g2, 2, none⟩))) T (Zq (Zrf (off := 0) rfl (T.e 1 rfl) (fun _ _ _ => by kernel_rfl))) rfl (Zf 0 0 rfl rfl) rfl (Zo M 1 0 rfl rfl rfl rfl) rfl (Zf 0 5 rfl rfl) rfl (Zf 1 0 rfl rfl) rfl (Zo M 2 0 rfl rfl rfl rfl) rfl (fun _ T => Zq (rn_sub rfl (T.e 3 rfl) (T.e 0 rfl) (by omega))) rfl (Zf 2 8 rfl rfl) rfl ?_; clear T ac; intro ac T
 refine Zg8 (v1 := (.pointer (some ⟨g2, 2, none⟩))) (v3 := (.pointer (some ⟨g1, 2, none⟩))) (v4 := (.pointer (some ⟨g1, 3, none⟩))) T (Zq (Zrf (off := 0) rfl (T.e 0 rfl) (fun _ _ _ => by kernel_rfl))) rfl (Zo M 1 0 rfl rfl rfl rfl) rfl (Zf 2 12 rfl rfl) rfl (Zf 1 0 rfl rfl) rfl (Zo M 2 0 rfl rfl rfl rfl) rfl (fun _ T => Zq (rn_sub rfl (T.e 3 rfl) (T.e 0 rfl) (by omega))) rfl (Zm 17 rfl rfl) rfl (fun _ T => Zq (rn_mul rfl (T.e 1 rfl) (T.e 0 rfl) (by omega))) rfl ?_; clear T ac; intro ac T
 refine Zg8 (v2 := (Zj g2)) (v3 := (.pointer (some ⟨g2, 1, none⟩))) (v5 := (Zj g1)) (v6 := (Zj g1)) T (Zq (rn_add rfl (T.e 9 rfl) (T.e 0 rfl) (by omega))) rfl (Zf 0 18 rfl rfl) rfl (Zf 1 0 rfl rfl) rfl (Zo M 1 0 rfl rfl rfl rfl) rfl (Zf 0 22 rfl rfl) rfl (Zf 0 0 rfl rfl) rfl (Zo M 2 0 rfl rfl rfl rfl) rfl (fun _ T => Zq (rn_sub rfl (T.e 3 rfl) (T.e 0 rfl) (by omega))) rfl ?_; clear T ac; intro ac T
 refine Zg8 (v1 := (.pointer (some ⟨g2, 2, none⟩))) (v2 := (.pointer (some ⟨g2, 3, none⟩))) (v4 := (.pointer (some ⟨g1, 2, none⟩))) (v5 := (.pointer (some ⟨g1, 2, none⟩))) T (Zq (Zrf (off := 2) rfl (T.e 25 rfl) (fun _ _ _ => by kernel_rfl))) rfl (Zf 1 0 rfl rfl) rfl (Zo M 1 0 rfl rfl rfl rfl) rfl (Zf 2 29 rfl rfl) rfl (Zf 0 0 rfl rfl) rfl (Zo M 2 0 rfl rfl rfl rfl) rfl (fun _ T => Zq (rn_sub rfl (T.e 3 rfl) (T.e 0 rfl) (by omega))) rfl (Zm 34 rfl rfl) rfl ?_; clear T ac; intro ac T
 refine Zg3 (v3 := (.agg #[Zi ((hi.t0 - lo.t1) + ((hi.s0 - lo.s1) * p)), Zi ((hi.t1 - lo.t0) + ((hi.s1 - lo.s0) * p))])) T (Zq (rn_mul rfl (T.e 1 rfl) (T.e 0 rfl) (by omega))) rfl (fun _ T => Zq (rn_add rfl (T.e 9 rfl) (T.e 0 rfl) (by omega))) rfl (fun _ T => Zq (rn_build rfl (.cons (T.e 17 rfl) (.cons (T.e 0 rfl) .nil)) (fun _ => by kernel_rfl))) rfl ?_; clear T ac; intro ac T
 refine Zl2 ?_
 refine Zos M T rfl rfl (T.e 35 rfl) (T.e 0 rfl) rfl .head rfl (by simp) rfl (by kernel_rfl) ?_; clear M T; intro wc ac M T
 refine wpList_nil ?_
 replace T := T.pick [35] rfl
 replace M := M.mask [true, false, false] rfl
 refine Znr ?_
 refine rt_c M T rfl (T.e 0 rfl) (Zne (i := 0) rfl) rfl ?_
 have e1 : (beatP lo hi p).1 = hi.t0 - lo.t1 + (hi.s0 - lo.s1) * p := by unfold beatP riseP; rw [Int.sub_mul, Int.mul_comm p hi.s0, Int.mul_comm p lo.s1]; omega
 have e2 : (beatP lo hi p).2 = hi.t1 - lo.t0 + (hi.s1 - lo.s0) * p := by unfold beatP riseP; rw [Int.sub_mul, Int.mul_comm p hi.s1, Int.mul_comm p lo.s0]; omega
 rw [e1, e2]
 exact ⟨rfl, M.below⟩
theorem kept5_any (l : Lw) (note a r : Int) (w : World) (gl : l.good) (hnt : 0 ≤ note ∧ note ≤ 11) (hd : 0 ≤ l.first + l.step * note ∧ l.first + l.step * note ≤ 30) (ha : -100 ≤ a ∧ a ≤ 100) (hr : -100 ≤ r ∧ r ≤ 100) :
   Calls Tryz.prog 116 #[.agg #[Zi l.first, Zi l.step, Zi l.span, Zi l.press], Zi note, Zi a, Zi r] w fun e w' => e = .returned (.bool (agreeP l (l.first + l.step * note) a r)) ∧ Below w.heap.size w w' := by
 obtain ⟨gl1, gl2, gl3, gl4⟩ := gl
 refine Zpx noEx Tryz.func116 rfl 35 rfl [.agg #[Zi l.first, Zi l.step, Zi l.span, Zi l.press], Zi note, Zi a, Zi r] rfl rfl (Mem.init w _) ?_
 intro ac wc T M
 refine Zsr ?_
 refine Zl2 ?_
 refine Zob M T rfl rfl rfl rfl (T.e 0 rfl) rfl ?_; clear M T; intro g1 wc ac M T
 refine lq T (Zra rfl evc) ?_; clear T ac; intro ac T
 replace T := T.pick [1, 3, 4, 5] rfl
 refine Zln ?_
 refine wp_seq ?_
 refine Zsr ?_
 refine lq T (Zra rfl evc) ?_; clear T ac; intro ac T
 refine Zln ?_
 refine wp_block ?_
 refine wp_loop_n (fun mz ac wc => ∃ (k : Nat), mz = (l.press + 1 - k).toNat ∧ ((k : Int) ≤ l.press + 1) ∧ (((List.range k).all fun (p : Nat) => withinB (a + (p : Int) * r - (l.first + l.step * note)) (-l.span) l.span) = true) ∧ Tm ac 35 [(1, Zi note), (2, Zi a), (3, Zi r), (4, Zj g1), (9, Zi (k : Int))] ∧ Mem w noEx wc [(g1, .cells [Zi l.first, Zi l.step, Zi l.span, Zi l.press])]) ?_ ?_
 ·exact ⟨_, 0, rfl, (by omega), rfl, T.pick [2, 3, 4, 1, 0] rfl, M.mask [true] rfl⟩
 clear T M
 rintro mz ac wc ⟨k, hmm1, hk, H, T, M⟩
 refine wp_seq ?_
 refine Zsr ?_
 refine Zg4 (v2 := (.pointer (some ⟨g1, 3, none⟩))) T (Zq (Zrm rfl (T.e 4 rfl))) rfl (Zf 3 4 rfl rfl) rfl (Zo M 0 0 rfl rfl rfl rfl) rfl (fun _ T => Zq (rn_leq rfl (T.e 2 rfl) (T.e 0 rfl))) rfl ?_; clear T ac; intro ac T
 replace T := T.pick [0, 4, 5, 6, 7, 8] rfl
 refine Zln ?_
 refine wp_if (T.e 0 rfl) ?_ ?_
 ·intro h1
  have m1 := mulB (a := r) (b := (k : Int)) (by omega) (by omega)
  refine Zsk ?_
  refine wp_seq ?_
  refine wp_block ?_
  refine wp_seq ?_
  refine Zgs M (M.mask [true] rfl) 19 (by kernel_rfl) rfl (by kernel_rfl) ?_
  clear M; intro wc M
  refine gq T 0 1 rfl (fun _ _ _ _ _ => (Zrm rfl (T.e 2 rfl))) ?_; clear T ac; intro ac T
  refine gq T 1 3 rfl (fun _ _ _ _ _ => (Zrm rfl (T.e 4 rfl))) ?_; clear T ac; intro ac T
  refine gq T 2 7 rfl (fun _ _ _ _ _ => (Zrm rfl (T.e 7 rfl))) ?_; clear T ac; intro ac T
  refine gq T 3 15 rfl (fun _ _ _ _ _ => (rn_mul rfl (T.e 1 rfl) (T.e 0 rfl) (by omega))) ?_; clear T ac; intro ac T
  refine gq T 4 31 rfl (fun _ _ _ _ _ => (rn_add rfl (T.e 3 rfl) (T.e 0 rfl) (by omega))) ?_; clear T ac; intro ac T
  refine gq T 5 63 rfl (fun B w' hD hl hS => (Zrr (Mem.nth (show Mem w noEx w' _ from hS) 0 rfl) rfl (T.e 9 rfl) rfl)) ?_; clear T ac; intro ac T
  refine gq T 6 127 rfl (fun _ _ _ _ _ => (Zrm rfl (T.e 7 rfl))) ?_; clear T ac; intro ac T
  refine gq (v := (.pointer (some ⟨g1, 2, none⟩))) T 8 383 rfl (fun _ _ _ _ _ => (Zrf (off := 2) rfl (T.e 11 rfl) (fun _ _ _ => by kernel_rfl))) ?_; clear T ac; intro ac T
  refine gq T 9 895 rfl (fun B w' hD hl hS => (Zro (Mem.nth (show Mem w noEx w' _ from hS) 0 rfl) rfl (T.e 0 rfl) rfl)) ?_; clear T ac; intro ac T
  refine gq T 11 2943 rfl (fun B w' hD hl hS => (Zrr (Mem.nth (show Mem w noEx w' _ from hS) 0 rfl) rfl (T.e 13 rfl) rfl)) ?_; clear T ac; intro ac T
  refine gq T 12 7039 rfl (fun _ _ _ _ _ => (Zrm rfl (T.e 11 rfl))) ?_; clear T ac; intro ac T
  refine gq (v := (.pointer (some ⟨g1, 2, none⟩))) T 14 23423 rfl (fun _ _ _ _ _ => (Zrf (off := 2) rfl (T.e 15 rfl) (fun _ _ _ => by kernel_rfl))) ?_; clear T ac; intro ac T
  refine gq T 15 56191 rfl (fun B w' hD hl hS => (Zro (Mem.nth (show Mem w noEx w' _ from hS) 0 rfl) rfl (T.e 0 rfl) rfl)) ?_; clear T ac; intro ac T
  refine gw 7 56319 ?_; intro K hK
  refine Zoc (first := []) (cap := []) T rfl rfl rfl rfl evf (.cons (T.e 7 rfl) (.cons (T.e 6 rfl) .nil)) Tryz.func74 rfl rfl ?_
  refine Calls.mono (due5_any l note _ (by (try dsimp only); omega) (by (try dsimp only); omega) (by (try dsimp only); omega)) ?_
  clear T; rintro e wc ⟨rfl, hb⟩ ac T
  replace M := M.call hb; clear hb
  refine Zso hK _ _ (M.mask [true] rfl) ?_; clear hK K
  refine gq T 10 57343 rfl (fun _ _ _ _ _ => (rn_sub rfl (T.e 0 rfl) (T.e 5 rfl) (by omega))) ?_; clear T ac; intro ac T
  refine gw 13 65535 ?_; intro K hK
  refine Zoc (first := []) (cap := []) T rfl rfl rfl rfl evf (.cons (T.e 5 rfl) (.cons (T.e 4 rfl) .nil)) Tryz.func74 rfl rfl ?_
  refine Calls.mono (due5_any l note _ (by (try dsimp only); omega) (by (try dsimp only); omega) (by (try dsimp only); omega)) ?_
  clear T; rintro e wc ⟨rfl, hb⟩ ac T
  replace M := M.call hb; clear hb
  refine Zso hK _ _ (M.mask [true] rfl) ?_; clear hK K
  refine gq T 16 131071 rfl (fun _ _ _ _ _ => (rn_add rfl (T.e 0 rfl) (T.e 3 rfl) (by omega))) ?_; clear T ac; intro ac T
  refine gw 17 262143 ?_; intro K hK
  refine Zoc (first := []) (cap := []) T rfl rfl rfl rfl evf (.cons (T.e 12 rfl) (.cons (T.e 2 rfl) (.cons (T.e 0 rfl) .nil))) Tryz.func73 rfl rfl ?_
  refine Calls.mono (among5_any (a + (r * (k : Int))) ((l.first + l.step * note) - l.span) ((l.first + l.step * note) + l.span) _) ?_
  clear T; rintro e wc ⟨rfl, hb⟩ ac T
  replace M := M.call hb; clear hb
  refine Zso hK _ _ (M.mask [true] rfl) ?_; clear hK K
  refine gq T 18 524287 rfl (fun _ _ _ _ _ => (rn_not rfl (T.e 0 rfl))) ?_; clear T ac; intro ac T
  refine Zgd (by kernel_rfl) ?_
  replace T := T.pick [0, 20, 21, 22, 23, 24] rfl
  refine nm_then ?_
  refine wp_cond_split (T.e 0 rfl) ?_ ?_
  ·intro h2
   (have h2' := h2; try simp only [Zb1, Zb2, Zb3, Zb4, Zb5, Zb6, Zb7] at h2')
   refine Zsr ?_
   refine lq T (Zra rfl evc) ?_; clear T ac; intro ac T
   refine wpList_nil ?_
   replace T := T.pick [0] rfl
   replace M := M.mask [false] rfl
   refine Znr ?_
   refine Zrb ?_
   refine Zrt ?_
   refine Zrt ?_
   refine Zrb ?_
   refine Zrt ?_
   refine rt_1 T rfl (T.e 0 rfl) ?_
   have e9 : agreeP l (l.first + l.step * note) a r = false := by refine Bool.eq_false_iff.2 fun h9 => ?_; have := agree_iff.1 h9 (k : Int) (by omega) (by omega); rw [Int.mul_comm] at this; unfold withinB at *; simp_all; omega
   rw [e9]
   exact ⟨rfl, M.below⟩
  intro h2
  (have h2' := h2; try simp only [Zb1, Zb2, Zb3, Zb4, Zb5, Zb6, Zb7] at h2')
  refine wp_skip ?_
  refine Znb ?_
  refine nm_then ?_
  refine wp_region_lit ?_
  refine Zg2 T (Zq (Zrm rfl (T.e 5 rfl))) rfl (fun _ T => Zq (rn_add rfl (T.e 0 rfl) evc (by omega))) rfl ?_; clear T ac; intro ac T
  refine l_q (v := (Zi ((k : Int) + 1))) (T.pick [0, 1, 2, 3, 4, 5, 6] rfl) rfl rfl rfl rfl (Zra rfl (T.e 0 rfl)) ?_; clear T ac; intro ac T
  replace T := T.pick [0, 4, 5, 6, 7] rfl
  refine Zln ?_
  exact ⟨_, by omega, k + 1, rfl, (by omega), (by rw [agree_next (by omega), H, Bool.true_and]; unfold withinB at *; simp_all [Int.mul_comm]; omega), T.pick [1, 2, 3, 4, 0] rfl, M.mask [true] rfl⟩
 intro h1
 refine wp_exit ?_
 refine Zet ?_
 refine Zet ?_
 refine ex_hit ?_
 refine nm_then ?_
 refine Zsr ?_
 refine lq T (Zra rfl evc) ?_; clear T ac; intro ac T
 refine wpList_nil ?_
 replace T := T.pick [0] rfl
 replace M := M.mask [false] rfl
 refine Znr ?_
 refine rt_1 T rfl (T.e 0 rfl) ?_
 have e9 : agreeP l (l.first + l.step * note) a r = true := by unfold agreeP; rw [show (l.press + 1).toNat = k by omega]; exact H
 rw [e9]
 exact ⟨rfl, M.below⟩
theorem Mem.tail9 {w0 w : World} {ex : Nat → Prop} {K A B C : List (Nat × BA)} (M : Mem w0 ex w (K ++ (A ++ B ++ C))) : Mem w0 ex w (K ++ (A ++ C ++ B)) :=
 have hp : (K ++ (A ++ B ++ C)).Perm (K ++ (A ++ C ++ B)) := List.Perm.append_left K (by rw [List.append_assoc, List.append_assoc]; exact List.Perm.append_left A List.perm_append_comm)
 ⟨M.os, M.tape, M.output, M.size, M.block, fun p h => M.blk p (hp.mem_iff.2 h), (hp.map _).nodup_iff.1 M.nd⟩
theorem keeps5_any (l : Lw) (note : Int) (lo hi : Snd) (w : World) (gl : l.good) (hnt : 0 ≤ note ∧ note ≤ 11) (hd : 0 ≤ l.first + l.step * note ∧ l.first + l.step * note ≤ 30) (glo : lo.good) (ghi : hi.good)  :
   Calls Tryz.prog 81 #[.agg #[Zi l.first, Zi l.step, Zi l.span, Zi l.press], Zi note, .agg #[Zi lo.t0, Zi lo.t1, Zi lo.s0, Zi lo.s1], .agg #[Zi hi.t0, Zi hi.t1, Zi hi.s0, Zi hi.s1]] w fun e w' => e = .returned (Zi (keepsP l (l.first + l.step * note) [lo, hi])) ∧ Below w.heap.size w w' := by
 obtain ⟨gl1, gl2, gl3, gl4⟩ := id gl
 obtain ⟨g1, g2⟩ := id glo
 obtain ⟨g3, g4⟩ := id ghi
 refine Zpx noEx Tryz.func81 rfl 64 rfl [.agg #[Zi l.first, Zi l.step, Zi l.span, Zi l.press], Zi note, .agg #[Zi lo.t0, Zi lo.t1, Zi lo.s0, Zi lo.s1], .agg #[Zi hi.t0, Zi hi.t1, Zi hi.s0, Zi hi.s1]] rfl rfl (Mem.init w _) ?_
 intro ac wc T M
 refine Zsr ?_
 refine Zl2 ?_
 refine Zob M T rfl rfl rfl rfl (T.e 0 rfl) rfl ?_; clear M T; intro g1 wc ac M T
 refine Zl2 ?_
 refine Zob M T rfl rfl rfl rfl (T.e 3 rfl) rfl ?_; clear M T; intro g2 wc ac M T
 refine Zl2 ?_
 refine Zob M T rfl rfl rfl rfl (T.e 5 rfl) rfl ?_; clear M T; intro g3 wc ac M T
 refine lq T (Zra rfl evc) ?_; clear T ac; intro ac T
 replace T := T.pick [1, 2, 3, 5] rfl
 refine Zln ?_
 refine Zsr ?_
 refine Zg2 T (Zq (Zra rfl evc)) rfl (Zc rfl) rfl ?_; clear T ac; intro ac T
 refine Zln ?_
 refine wp_seq ?_
 refine Zsr ?_
 refine Zg8 (v1 := (Zj g3)) (v2 := (Zj g3)) (v4 := (Zj g2)) (v5 := (.pointer (some ⟨g2, 1, none⟩))) T (Zq (Zrf (off := 0) rfl (T.e 2 rfl) (fun _ _ _ => by kernel_rfl))) rfl (Zf 0 0 rfl rfl) rfl (Zo M 0 0 rfl rfl rfl rfl) rfl (Zf 0 6 rfl rfl) rfl (Zf 1 0 rfl rfl) rfl (Zo M 1 0 rfl rfl rfl rfl) rfl (fun _ T => Zq (rn_sub rfl (T.e 3 rfl) (T.e 0 rfl) (by omega))) rfl (Za 0 rfl rfl) rfl ?_; clear T ac; intro ac T
 replace T := T.pick [0, 8, 9, 10, 11, 12, 13] rfl
 refine Zln ?_
 refine wp_block ?_
 refine wp_loop_n (fun mz ac wc => ∃ (k : Nat) (a : Int) (N C : Nat), mz = ((hi.t1 - lo.t0) + 1 - a).toNat ∧ (a = (hi.t0 - lo.t1) + (k : Int)) ∧ (a ≤ (hi.t1 - lo.t0) + 1) ∧ (N = (allP (hi.t0 - lo.t1) (hi.t1 - lo.t0) (hi.s0 - lo.s1) (hi.s1 - lo.s0) k 0).length) ∧ (C = cntA l (l.first + l.step * note) (allP (hi.t0 - lo.t1) (hi.t1 - lo.t0) (hi.s0 - lo.s1) (hi.s1 - lo.s0) k 0)) ∧ (N ≤ 13 * k ∧ C ≤ N) ∧ Tm ac 64 [(1, Zi note), (4, Zj g1), (6, Zj g2), (7, Zj g3), (9, Zi (C : Int)), (10, Zi (N : Int)), (11, Zi a)] ∧ Mem w noEx wc [(g3, .cells [Zi hi.t0, Zi hi.t1, Zi hi.s0, Zi hi.s1]), (g2, .cells [Zi lo.t0, Zi lo.t1, Zi lo.s0, Zi lo.s1]), (g1, .cells [Zi l.first, Zi l.step, Zi l.span, Zi l.press])]) ?_ ?_
 ·exact ⟨_, 0, _, 0, 0, rfl, (by omega), (by omega), rfl, rfl, (by omega), T.pick [6, 5, 4, 3, 2, 1, 0] rfl, M.mask [true, true, true] rfl⟩
 clear T M
 rintro mz ac wc ⟨k, a, N, C, hmm1, ha, hka, hN, hC, hb, T, M⟩
 refine wp_seq ?_
 refine Zsr ?_
 refine Zg8 (v2 := (Zj g3)) (v3 := (.pointer (some ⟨g3, 1, none⟩))) (v5 := (Zj g2)) (v6 := (Zj g2)) T (Zq (Zrm rfl (T.e 6 rfl))) rfl (Zf 0 4 rfl rfl) rfl (Zf 1 0 rfl rfl) rfl (Zo M 0 0 rfl rfl rfl rfl) rfl (Zf 0 6 rfl rfl) rfl (Zf 0 0 rfl rfl) rfl (Zo M 1 0 rfl rfl rfl rfl) rfl (fun _ T => Zq (rn_sub rfl (T.e 3 rfl) (T.e 0 rfl) (by omega))) rfl ?_; clear T ac; intro ac T
 refine lq T (rn_leq rfl (T.e 7 rfl) (T.e 0 rfl)) ?_; clear T ac; intro ac T
 replace T := T.pick [0, 9, 10, 11, 12, 13, 14, 15] rfl
 refine Zln ?_
 refine wp_if (T.e 0 rfl) ?_ ?_
 ·intro h1
  refine Zsk ?_
  refine wp_seq ?_
  refine wp_block ?_
  refine Zsr ?_
  refine Zg8 (v1 := (.pointer (some ⟨g3, 2, none⟩))) (v2 := (.pointer (some ⟨g3, 2, none⟩))) (v4 := (.pointer (some ⟨g2, 2, none⟩))) (v5 := (.pointer (some ⟨g2, 3, none⟩))) T (Zq (Zrf (off := 2) rfl (T.e 4 rfl) (fun _ _ _ => by kernel_rfl))) rfl (Zf 0 0 rfl rfl) rfl (Zo M 0 0 rfl rfl rfl rfl) rfl (Zf 2 6 rfl rfl) rfl (Zf 1 0 rfl rfl) rfl (Zo M 1 0 rfl rfl rfl rfl) rfl (fun _ T => Zq (rn_sub rfl (T.e 3 rfl) (T.e 0 rfl) (by omega))) rfl (Za 0 rfl rfl) rfl ?_; clear T ac; intro ac T
  replace T := T.pick [0, 9, 10, 11, 12, 13, 14, 15] rfl
  refine Zln ?_
  refine wp_block ?_
  refine wp_loop_n (fun mz ac wc => ∃ (m : Nat) (r : Int) (N2 C2 : Nat), mz = ((hi.s1 - lo.s0) + 1 - r).toNat ∧ (r = (hi.s0 - lo.s1) + (m : Int)) ∧ (r ≤ (hi.s1 - lo.s0) + 1) ∧ (N2 = (allP (hi.t0 - lo.t1) (hi.t1 - lo.t0) (hi.s0 - lo.s1) (hi.s1 - lo.s0) k m).length) ∧ (C2 = cntA l (l.first + l.step * note) (allP (hi.t0 - lo.t1) (hi.t1 - lo.t0) (hi.s0 - lo.s1) (hi.s1 - lo.s0) k m)) ∧ (N2 ≤ 13 * k + m ∧ C2 ≤ N2) ∧ Tm ac 64 [(1, Zi note), (4, Zj g1), (6, Zj g2), (7, Zj g3), (9, Zi (C2 : Int)), (10, Zi (N2 : Int)), (11, Zi a), (12, Zi r)] ∧ Mem w noEx wc [(g3, .cells [Zi hi.t0, Zi hi.t1, Zi hi.s0, Zi hi.s1]), (g2, .cells [Zi lo.t0, Zi lo.t1, Zi lo.s0, Zi lo.s1]), (g1, .cells [Zi l.first, Zi l.step, Zi l.span, Zi l.press])]) ?_ ?_
  ·exact ⟨_, 0, _, N, C, rfl, (by omega), (by omega), hN, hC, (by omega), T.pick [1, 2, 3, 4, 5, 6, 7, 0] rfl, M.mask [true, true, true] rfl⟩
  clear T M
  rintro mz ac wc ⟨m, r, N2, C2, hmm2, hr, hmr, hN2, hC2, hb2, T, M⟩
  refine wp_seq ?_
  refine Zsr ?_
  refine Zg8 (v2 := (.pointer (some ⟨g3, 2, none⟩))) (v3 := (.pointer (some ⟨g3, 3, none⟩))) (v5 := (.pointer (some ⟨g2, 2, none⟩))) (v6 := (.pointer (some ⟨g2, 2, none⟩))) T (Zq (Zrm rfl (T.e 7 rfl))) rfl (Zf 2 4 rfl rfl) rfl (Zf 1 0 rfl rfl) rfl (Zo M 0 0 rfl rfl rfl rfl) rfl (Zf 2 6 rfl rfl) rfl (Zf 0 0 rfl rfl) rfl (Zo M 1 0 rfl rfl rfl rfl) rfl (fun _ T => Zq (rn_sub rfl (T.e 3 rfl) (T.e 0 rfl) (by omega))) rfl ?_; clear T ac; intro ac T
  refine lq T (rn_leq rfl (T.e 7 rfl) (T.e 0 rfl)) ?_; clear T ac; intro ac T
  replace T := T.pick [0, 9, 10, 11, 12, 13, 14, 15, 16] rfl
  refine Zln ?_
  refine wp_if (T.e 0 rfl) ?_ ?_
  ·intro h2
   refine Zsk ?_
   refine wp_seq ?_
   refine wp_block ?_
   refine Zsr ?_
   refine Zg2 T (Zq (Zrm rfl (T.e 6 rfl))) rfl (fun _ T => Zq (rn_add rfl (T.e 0 rfl) evc (by omega))) rfl ?_; clear T ac; intro ac T
   refine l_q (v := (Zi ((N2 : Int) + 1))) (T.pick [0, 1, 2, 3, 4, 5, 6, 7, 9, 10] rfl) rfl rfl rfl rfl (Zra rfl (T.e 0 rfl)) ?_; clear T ac; intro ac T
   replace T := T.pick [0, 4, 5, 6, 7, 8, 9, 10] rfl
   refine Zln ?_
   refine Zsr ?_
   refine Zg4 T (Zq (Zrr (Mem.nth M 2 rfl) rfl (T.e 2 rfl) rfl)) rfl (Zm 2 rfl rfl) rfl (Zm 8 rfl rfl) rfl (Zm 10 rfl rfl) rfl ?_; clear T ac; intro ac T
   refine Zl2 ?_
   refine Zoc (first := []) (cap := []) T rfl rfl rfl rfl evf (.cons (T.e 3 rfl) (.cons (T.e 2 rfl) (.cons (T.e 1 rfl) (.cons (T.e 0 rfl) .nil)))) Tryz.func116 rfl rfl ?_
   refine Calls.mono (kept5_any l note a r _ gl hnt hd (by omega) (by omega)) ?_
   clear T; rintro e wc ⟨rfl, hb⟩ ac T
   replace M := M.call hb; clear hb
   replace T := T.pick [0, 5, 6, 7, 8, 9, 10, 11, 12] rfl
   refine Zln ?_
   refine wp_cond_split (T.e 0 rfl) ?_ ?_
   ·intro h3
    refine wp_region_lit ?_
    refine Zg2 T (Zq (Zrm rfl (T.e 6 rfl))) rfl (fun _ T => Zq (rn_add rfl (T.e 0 rfl) evc (by omega))) rfl ?_; clear T ac; intro ac T
    refine l_q (v := (Zi ((C2 : Int) + 1))) (T.pick [0, 1, 2, 3, 4, 5, 6, 7, 9, 10] rfl) rfl rfl rfl rfl (Zra rfl (T.e 0 rfl)) ?_; clear T ac; intro ac T
    refine wpList_nil ?_
    replace T := T.pick [0, 4, 5, 6, 7, 8, 9, 10] rfl
    refine Znb ?_
    refine nm_then ?_
    refine wp_region_lit ?_
    refine Zg2 T (Zq (Zrm rfl (T.e 7 rfl))) rfl (fun _ T => Zq (rn_add rfl (T.e 0 rfl) evc (by omega))) rfl ?_; clear T ac; intro ac T
    refine l_q (v := (Zi (r + 1))) (T.pick [0, 1, 2, 3, 4, 5, 6, 7, 8] rfl) rfl rfl rfl rfl (Zra rfl (T.e 0 rfl)) ?_; clear T ac; intro ac T
    replace T := T.pick [0, 3, 4, 5, 6, 7, 8, 9] rfl
    refine Zln ?_
    exact ⟨_, by omega, m + 1, _, N2 + 1, C2 + 1, rfl, (by omega), (by omega), (by rw [allP_step (by omega), List.length_append, ← hN2]; rfl), (by rw [allP_step (by omega), cntA_snoc, ← hC2, ← ha, ← hr, if_pos h3]), (by omega), T.pick [3, 4, 5, 6, 1, 2, 7, 0] rfl, M.mask [true, true, true] rfl⟩
   intro h3
   refine wp_skip ?_
   refine Znb ?_
   refine nm_then ?_
   refine wp_region_lit ?_
   refine Zg2 T (Zq (Zrm rfl (T.e 8 rfl))) rfl (fun _ T => Zq (rn_add rfl (T.e 0 rfl) evc (by omega))) rfl ?_; clear T ac; intro ac T
   refine l_q (v := (Zi (r + 1))) (T.pick [0, 1, 2, 3, 4, 5, 6, 7, 8, 9] rfl) rfl rfl rfl rfl (Zra rfl (T.e 0 rfl)) ?_; clear T ac; intro ac T
   replace T := T.pick [0, 4, 5, 6, 7, 8, 9, 10] rfl
   refine Zln ?_
   exact ⟨_, by omega, m + 1, _, N2 + 1, C2, rfl, (by omega), (by omega), (by rw [allP_step (by omega), List.length_append, ← hN2]; rfl), (by rw [allP_step (by omega), cntA_snoc, ← hC2, ← ha, ← hr, if_neg (by rw [h3]; decide), Nat.add_zero]), (by omega), T.pick [2, 3, 4, 5, 6, 1, 7, 0] rfl, M.mask [true, true, true] rfl⟩
  intro h2
  refine wp_exit ?_
  refine Zet ?_
  refine Zet ?_
  refine ex_hit ?_
  refine Znb ?_
  refine nm_then ?_
  refine wp_region_lit ?_
  refine Zg2 T (Zq (Zrm rfl (T.e 7 rfl))) rfl (fun _ T => Zq (rn_add rfl (T.e 0 rfl) evc (by omega))) rfl ?_; clear T ac; intro ac T
  refine l_q (v := (Zi (a + 1))) (T.pick [0, 1, 2, 3, 4, 5, 6, 7, 8, 10] rfl) rfl rfl rfl rfl (Zra rfl (T.e 0 rfl)) ?_; clear T ac; intro ac T
  replace T := T.pick [0, 4, 5, 6, 7, 8, 9] rfl
  refine Zln ?_
  exact ⟨_, by omega, k + 1, _, N2, C2, rfl, (by omega), (by omega), (by rw [← allP_row (m := m) (by omega) (by omega)]; exact hN2), (by rw [← allP_row (m := m) (by omega) (by omega)]; exact hC2), (by omega), T.pick [1, 2, 3, 4, 5, 6, 0] rfl, M.mask [true, true, true] rfl⟩
 intro h1
 refine wp_exit ?_
 refine Zet ?_
 refine Zet ?_
 refine ex_hit ?_
 refine Zns ?_
 refine Zsr ?_
 refine lq T (Zrm rfl (T.e 5 rfl)) ?_; clear T ac; intro ac T
 refine wpList_nil ?_
 replace T := T.pick [0, 7] rfl
 replace M := M.mask [false, false, false] rfl
 refine nm_then ?_
 refine wp_block ?_
 refine Zsr ?_
 refine Zg3 T (Zq (Zrm rfl (T.e 1 rfl))) rfl (fun _ T => Zq (rn_eql rfl (T.e 1 rfl) (T.e 0 rfl))) rfl (Za 0 rfl rfl) rfl ?_; clear T ac; intro ac T
 replace T := T.pick [0, 3] rfl
 refine Zln ?_
 refine wp_if (T.e 0 rfl) ?_ ?_
 ·intro h4
  refine Zsr ?_
  refine lq T (Zra rfl evc) ?_; clear T ac; intro ac T
  replace T := T.pick [0] rfl
  refine Zln ?_
  refine wp_ret ?_
  refine Zrb ?_
  refine Zrt ?_
  refine rt_1 T rfl (T.e 0 rfl) ?_
  have e9 : keepsP l (l.first + l.step * note) [lo, hi] = 1 := by
    rw [← keeps8_eq gl3.1 ⟨by omega, by omega⟩ ⟨by omega, by omega⟩, keeps8_cnt, show difL lo hi = (allP (hi.t0 - lo.t1) (hi.t1 - lo.t0) (hi.s0 - lo.s1) (hi.s1 - lo.s0) k 0) from (allP_end (by omega)).symm, ← hC, ← hN]
    rw [if_pos (by omega)]
  rw [e9]
  exact ⟨rfl, M.below⟩
 intro h4
 refine Zsr ?_
 refine Zg2 T (Zq (rn_eql rfl (T.e 1 rfl) evc)) rfl (Za 0 rfl rfl) rfl ?_; clear T ac; intro ac T
 replace T := T.pick [0] rfl
 refine Zln ?_
 refine wp_if (T.e 0 rfl) ?_ ?_
 ·intro h5
  refine Zsr ?_
  refine lq T (Zra rfl evc) ?_; clear T ac; intro ac T
  replace T := T.pick [0] rfl
  refine Zln ?_
  refine wp_ret ?_
  refine Zrb ?_
  refine Zrt ?_
  refine rt_1 T rfl (T.e 0 rfl) ?_
  have e9 : keepsP l (l.first + l.step * note) [lo, hi] = 2 := by
    rw [← keeps8_eq gl3.1 ⟨by omega, by omega⟩ ⟨by omega, by omega⟩, keeps8_cnt, show difL lo hi = (allP (hi.t0 - lo.t1) (hi.t1 - lo.t0) (hi.s0 - lo.s1) (hi.s1 - lo.s0) k 0) from (allP_end (by omega)).symm, ← hC, ← hN]
    rw [if_neg (by omega), if_pos (by omega)]
  rw [e9]
  exact ⟨rfl, M.below⟩
 intro h5
 refine wp_skip ?_
 refine Znb ?_
 refine nm_then ?_
 refine Zsr ?_
 refine lq T (Zra rfl evc) ?_; clear T ac; intro ac T
 replace T := T.pick [0] rfl
 refine Zln ?_
 refine wp_ret ?_
 refine rt_1 T rfl (T.e 0 rfl) ?_
 have e9 : keepsP l (l.first + l.step * note) [lo, hi] = 3 := by
   rw [← keeps8_eq gl3.1 ⟨by omega, by omega⟩ ⟨by omega, by omega⟩, keeps8_cnt, show difL lo hi = (allP (hi.t0 - lo.t1) (hi.t1 - lo.t0) (hi.s0 - lo.s1) (hi.s1 - lo.s0) k 0) from (allP_end (by omega)).symm, ← hC, ← hN]
   rw [if_neg (by omega), if_neg (by omega)]
 rw [e9]
 exact ⟨rfl, M.below⟩
end Go.Proofs.YtdnbljihhimijaaGreat


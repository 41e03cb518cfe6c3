/-
  Walks of functions, and plain laws (texts put together). No condition.
-/
import Derived.Test.YtehpcclfgjccbaaDoorMSheetOrdered1
import Derived.Test.YtehpcclfgjccbaaDoorMSheetOrdered2
import Derived.Test.YtehpcclfgjccbaaDoorMSheetOrdered3
import Derived.Test.YtehpcclfgjccbaaDoorMSheetOrdered4
set_option maxRecDepth 100000
set_option maxHeartbeats 1000000
section
/-
 kit: chances, lists of places, stocks out of a pot.
-/
namespace Go.Proofs.YtehpcclfgjccbaaDoor
set_option linter.unusedSimpArgs false
set_option linter.unusedVariables false
open Go.RowKit
section
variable {df : List Deferred} {P : Program} {op : Oper} {a : Act} {K : Act → World → Prop} {Q : Exit → Act → World → Prop} {w0 w : World} {ex : Nat → Prop} {L : List (Nat × BA)} {E : List (Nat × Value)} {t n : Nat}
theorem madeCells_ic (m : Nat) : madeCells (Value.cells (.int .i64 0)) (m * 1) = (ic (List.replicate m 0) ++ []).toArray := by
 apply Array.ext
 · simp [madeCells, ic]
 · intro i h1 h2
   simp [madeCells, ic, Value.cells, Nat.mod_one]
theorem ow_ms {ty e m : Nat} {x y : Operand} (M : Mem w0 ex w L) (T : TmD df a n E) (ho : op.op = .makeSlice ty x y) (hd : op.dst = some t) (hf : freshE E t = true) (hn : Nat.blt t n = true) (hx : a.eval x = .int .i64 (m : Int)) (hy : a.eval y = .int .i64 (m : Int))
   (ht : P.underlying ty = some (.slice e)) (hinfo : (P.info? e).map (fun i => (i.zero, i.size, i.bytes)) = some (some (.int .i64 0), 1, 8)) (hm : m ≤ 1000000)
   (h : ∀ g w' a', Mem w0 ex w' ((g, .cells (ic (List.replicate m 0) ++ [])) :: L) → TmD df a' n ((t, .slice (some ⟨g, 0, none⟩) m m) :: E) → K a' w') : op.wp P a w K Q := by
 obtain ⟨i, hi, hz, hs, hb⟩ := info_parts hinfo
 have hr := run_makeSlice (P := P) w ty e i _ ht hi hz .i64 .i64 (m : Int) (m : Int) (by omega) (Int.le_refl _) (by rw [hs]; omega) (by rw [hb]; omega) (by omega)
 rw [hs, Int.toNat_natCast, madeCells_ic] at hr
 unfold Oper.wp execOp
 simp only [ho, hx, hy, hr, Sem.run_bind, Result.andThen_ok, Sem.run_pure]
 rw [Oper.upon_value, hd]
 exact h _ _ _ (M.new _ _) (T.put hn hf _)
end
def OddsPost (bp : Nat) (w : World) (e : Ending) (w' : World) : Prop := ∃ (b : Bool) (s' : Int), u64ok s' ∧ e = .returned (.bool b) ∧ w.grownBy w' (some bp) ∧ Bk w' bp #[.int .u64 s']
def Idx (n : Int) (l : List Int) : Prop := (∀ x ∈ l, 0 ≤ x ∧ x < n) ∧ l.Nodup
theorem Idx.nil (n : Int) : Idx n [] := ⟨fun x h => (by cases h), List.nodup_nil⟩
theorem Idx.more {n m : Int} {l : List Int} (h : Idx n l) (hn : n ≤ m) : Idx m l := ⟨fun x hx => by have := h.1 x hx; omega, h.2⟩
theorem Idx.snoc {n m : Int} {l : List Int} (h : Idx n l) (h0 : 0 ≤ n) (hm : n < m) : Idx m (l ++ [n]) :=
 ⟨fun x hx => by
   rcases List.mem_append.1 hx with hx | hx
   · have := h.1 x hx; omega
   · rw [List.mem_singleton.1 hx]; omega,
  List.nodup_append.2 ⟨h.2, by simp, fun a ha b hb e => by
   have := h.1 a ha
   rw [List.mem_singleton] at hb
   omega⟩⟩
def IdxPost (bp : Nat) (P : List Int → Prop) (w : World) (e : Ending) (w' : World) : Prop := ∃ (l : List Int) (A : Option Addr) (c : Nat) (s : Int) (I : List (Nat × BA)), e = .returned (.slice A l.length c) ∧ P l ∧ u64ok s ∧ l.length ≤ c ∧ (∃ b o, ∀ (w : World) (ex : Nat → Prop), Sp w ex I A l.length 1 b o (ic l)) ∧ Mem w (fun b => b = bp) w' ((bp, .cells [.int .u64 s]) :: I)
def MixI (i : Nat) (l : List Int) : Prop := Idx i (l.take i)
theorem mix_step {i k : Nat} {l : List Int} {v : Int} (h : MixI i l) (hi : i < l.length) (hk : k ≤ i) (hv : l[k]? = some v) : MixI (i + 1) ((l.set i v).set k (i : Int)) := by
 have hkl : k < l.length := by omega
 have hve : l[k] = v := (List.getElem?_eq_some_iff.1 hv).2
 have get : ∀ j (hj : j < (((l.set i v).set k (i : Int)).take (i + 1)).length), (((l.set i v).set k (i : Int)).take (i + 1))[j] = if j = k then (i : Int) else if j = i then v else l[j]'(by simp at hj; omega) := fun j hj => by
   simp only [List.getElem_take, List.getElem_set]
   by_cases h1 : j = k
   · subst h1; simp
   · rw [if_neg (fun e => h1 e.symm), if_neg h1]
     by_cases h2 : j = i
     · subst h2; simp
     · rw [if_neg (fun e => h2 e.symm), if_neg h2]
 have old : ∀ j (hj : j < i), 0 ≤ l[j]'(by omega) ∧ l[j]'(by omega) < (i : Int) := fun j hj => by
   have hm : l[j]'(by omega) ∈ l.take i := List.mem_iff_getElem.2 ⟨j, by simp; omega, by simp⟩
   exact h.1 _ hm
 have inj : ∀ a b (ha : a < i) (hb : b < i), l[a]'(by omega) = l[b]'(by omega) → a = b := fun a b ha hb e =>
   nodup_inj h.2 (i := a) (j := b) (by simp; omega) (by simp; omega) (by simpa using e)
 refine ⟨fun x hx => ?_, List.pairwise_iff_getElem.2 fun a b ha hb hab e => ?_⟩
 · obtain ⟨j, hj, rfl⟩ := List.mem_iff_getElem.1 hx
   rw [get j hj]
   simp at hj
   split
   · omega
   · split
     · rename_i h1 h2
       rw [← hve]
       have := old k (by omega)
       omega
     · rename_i h1 h2
       have := old j (by omega)
       omega
 · rw [get a ha, get b hb] at e
   simp at ha hb
   by_cases h1 : a = k
   · rw [if_pos h1, if_neg (by omega)] at e
     by_cases h2 : b = i
     · rw [if_pos h2] at e
       have := old k (by omega)
       omega
     · rw [if_neg h2] at e
       have := old b (by omega)
       omega
   · rw [if_neg h1] at e
     have ha2 : ¬ a = i := by omega
     rw [if_neg ha2] at e
     by_cases h2 : b = k
     · rw [if_pos h2] at e
       have := old a (by omega)
       omega
     · rw [if_neg h2] at e
       by_cases h3 : b = i
       · rw [if_pos h3] at e
         have := inj a k (by omega) (by omega) (e.trans hve.symm)
         omega
       · rw [if_neg h3] at e
         have := inj a b (by omega) (by omega) e
         omega
def PtPost (bp : Nat) (w : World) (e : Ending) (w' : World) : Prop := ∃ (p : Pt) (s' : Int), p.good ∧ u64ok s' ∧ e = .returned (.agg #[.int .i64 p.l, .int .i64 p.w, .bool p.gr, .int .i64 p.pa]) ∧ w.grownBy w' (some bp) ∧ Bk w' bp #[.int .u64 s']
def SkOfPost (bp : Nat) (side parts : Int) (w : World) (e : Ending) (w' : World) : Prop := ∃ (s : Sk) (A : Option Addr) (c : Nat) (sd : Int) (I : List (Nat × BA)), e = .returned (.agg #[.int .i64 s.lo, .int .i64 s.wi, .int .i64 s.a0, .int .i64 s.a1, .int .i64 s.c0, .int .i64 s.c1, .slice A s.ps.length c]) ∧ s.good ∧ ((s.lo ≤ side ∧ s.wi ≤ side) ∧ (s.ps.length : Int) ≤ parts) ∧ u64ok sd ∧ s.ps.length ≤ c ∧ (∃ b o, ∀ (w : World) (ex : Nat → Prop), Sp w ex I A s.ps.length 4 b o (pc s.ps)) ∧ Mem w (fun b => b = bp) w' ((bp, .cells [.int .u64 sd]) :: I)
theorem odds_any (s : Int) (bp : Nat) (n m : Int) (w : World) (hn : 0 ≤ n ∧ n ≤ 1000) (hm : 1 ≤ m ∧ m ≤ 1000) (hp : Bk w bp #[.int .u64 s]) (hs : u64ok s) :
   Calls Tryd.prog 23 #[.pointer (some ⟨bp, 0, none⟩), .int .i64 n, .int .i64 m] w (OddsPost bp w) := by
 refine px_enter (fun b => b = bp) Tryd.func23 rfl 13 rfl [.pointer (some ⟨bp, 0, none⟩), .int .i64 n, .int .i64 m] rfl rfl (Mem.initEx (p := .cells [.int .u64 s]) hp) ?_
 intro ac wc T M
 refine wp_seq ?_
 refine wp_region_lit ?_
 refine lq T (rn_assign rfl evc) ?_; clear T ac; intro ac T
 refine wpList_nil ?_
 replace T := T.pick [1, 2, 3] rfl
 refine nm_then ?_
 refine wp_seq ?_
 refine wp_region_lit ?_
 refine lq T (rn_move rfl (T.ev 0 rfl)) ?_; clear T ac; intro ac T
 refine lq T (rn_move rfl (T.ev 3 rfl)) ?_; clear T ac; intro ac T
 refine lq T (rn_sub rfl (T.ev 0 rfl) evc (by omega)) ?_; clear T ac; intro ac T
 refine l_w rfl ?_; intro K hK
 refine ow_call (first := []) (cap := []) T rfl rfl rfl rfl evf (.cons (T.ev 2 rfl) (.cons (T.ev 0 rfl) .nil)) Tryd.func21 rfl rfl ?_
 refine Calls.mono (upto_any _ bp (m - 1) _ (by omega) (by omega) (M.nth 0 rfl) hs) ?_
 clear T
 rintro e wc ⟨xu1, su1, hxu1, hsu1, rfl, hgr, hbk⟩
 intro ac T
 replace M := M.callC (cs' := [.int .u64 su1]) .head hgr hbk
 clear hgr hbk
 refine sh_out hK _ _ ?_; clear hK K
 refine lq T (rn_move rfl (T.ev 5 rfl)) ?_; clear T ac; intro ac T
 refine lq T (rn_lss rfl (T.ev 1 rfl) (T.ev 0 rfl)) ?_; clear T ac; intro ac T
 refine lq T (rn_assign rfl (T.ev 0 rfl)) ?_; clear T ac; intro ac T
 refine wpList_nil ?_
 replace T := T.pick [0] rfl
 refine nm_then ?_
 refine wp_ret ?_
 refine rt_1 T rfl (T.ev 0 rfl) ?_
 exact ⟨_, _, hsu1, rfl, M.grown, M.nth 0 rfl⟩
theorem pick_any (s : Int) (bp : Nat) (n : Int) (w : World) (hn : 0 ≤ n ∧ n ≤ 1000) (hp : Bk w bp #[.int .u64 s]) (hs : u64ok s) :
   Calls Tryd.prog 48 #[.pointer (some ⟨bp, 0, none⟩), .int .i64 n] w (IdxPost bp (Idx n) w) := by
 refine px_enter (fun b => b = bp) Tryd.func48 rfl 19 rfl [.pointer (some ⟨bp, 0, none⟩), .int .i64 n] rfl rfl (Mem.initEx (p := .cells [.int .u64 s]) hp) ?_
 intro ac wc T M
 refine wp_seq ?_
 refine wp_region_lit ?_
 refine lq T (rn_assign rfl evc) ?_; clear T ac; intro ac T
 refine wpList_nil ?_
 replace T := T.pick [1, 2] rfl
 refine nm_then ?_
 refine wp_seq ?_
 refine wp_region_lit ?_
 refine lq T (rn_assign rfl evc) ?_; clear T ac; intro ac T
 refine wpList_nil ?_
 refine nm_then ?_
 refine wp_seq ?_
 refine wp_seq ?_
 refine wp_region_lit ?_
 refine lq T (rn_assign rfl evc) ?_; clear T ac; intro ac T
 refine wpList_nil ?_
 refine nm_then ?_
 refine wp_block ?_
 refine wp_loop_n (fun mz ac wc => ∃ (i : Int) (ol : List Int) (A3 : Option Addr) (c3 : Nat) (s : Int) (Io : List (Nat × BA)), mz = (n - i).toNat ∧ (0 ≤ i ∧ i ≤ n) ∧ (Idx i ol) ∧ ((ol.length : Int) ≤ i) ∧ (u64ok s) ∧ (Sl 3 1 (.slice A3 ol.length c3) ol.length (ic ol) Io) ∧ Tm ac 19 [(0, .pointer (some ⟨bp, 0, none⟩)), (1, .int .i64 n), (5, .slice A3 ol.length c3), (6, .int .i64 i)] ∧ Mem w (fun b => b = bp) wc ((bp, .cells [.int .u64 s]) :: Io)) ?_ ?_
 ·exact ⟨_, 0, [], none, 0, _, [], rfl, (by omega), (Idx.nil _), (by simp), hs, (Sl.nil _ _), T.pick [2, 3, 1, 0] rfl, M.mask [true] rfl⟩
 clear T M
 rintro mz ac wc ⟨i, ol, A3, c3, s, Io, hmm1, hi, ha, hol, hs, hsl, T, M⟩
 refine wp_seq ?_
 refine wp_seq ?_
 refine wp_region_lit ?_
 refine lq T (rn_move rfl (T.ev 3 rfl)) ?_; clear T ac; intro ac T
 refine lq T (rn_move rfl (T.ev 2 rfl)) ?_; clear T ac; intro ac T
 refine lq T (rn_lss rfl (T.ev 1 rfl) (T.ev 0 rfl)) ?_; clear T ac; intro ac T
 refine wpList_nil ?_
 replace T := T.pick [0, 3, 4, 5, 6] rfl
 refine nm_then ?_
 refine wp_if (T.ev 0 rfl) ?_ ?_
 ·intro h1
  refine wp_skip ?_
  refine nm_then ?_
  refine wp_seq ?_
  refine wp_block ?_
  refine wp_seq ?_
  refine wp_region_lit ?_
  refine lq T (rn_move rfl (T.ev 1 rfl)) ?_; clear T ac; intro ac T
  refine l_w rfl ?_; intro K hK
  refine ow_call (first := []) (cap := []) T rfl rfl rfl rfl evf (.cons (T.ev 0 rfl) (.cons evc (.cons evc .nil))) Tryd.func23 rfl rfl ?_
  refine Calls.mono (odds_any _ bp 1 2 _ (by omega) (by omega) (M.nth 0 rfl) hs) ?_
  clear T
  rintro e wc ⟨bu1, su1, hsu1, rfl, hgr, hbk⟩
  intro ac T
  replace M := M.callC (cs' := [.int .u64 su1]) .head hgr hbk
  clear hgr hbk
  refine sh_out hK _ _ ?_; clear hK K
  refine wpList_nil ?_
  replace T := T.pick [0, 3, 4, 5, 6] rfl
  refine nm_then ?_
  refine wp_cond_split (T.ev 0 rfl) ?_ ?_
  ·intro h2
   refine wp_region_lit ?_
   refine lq T (rn_move rfl (T.ev 3 rfl)) ?_; clear T ac; intro ac T
   refine lq T (rn_move rfl (T.ev 5 rfl)) ?_; clear T ac; intro ac T
   refine l_w rfl ?_; intro K hK
   refine ow_bs (e := 3) [.int .i64 i] M T rfl rfl rfl rfl (.cons (T.ev 0 rfl) .nil) (fun _ => by kernel_rfl) ?_; clear M T; intro g1 wc ac M T
   refine sh_out hK _ _ ?_; clear hK K
   refine l_w rfl ?_; intro K hK
   refine ow_app ([(g1, .cells [.int .i64 i]), (bp, .cells [.int .u64 su1])]) Tryd.info3 hsl M (by first | rfl | simp) T rfl rfl rfl rfl Tryd.underlying27 rfl rfl rfl (by omega) (T.ev 2 rfl) (T.ev 0 rfl) (nthE_mem (i := 0) rfl) rfl rfl ?_; clear M T; intro ga1 cga1 wc ac M T
   refine sh_out hK _ _ ?_; clear hK K
   refine l_q (v := (.slice (some ⟨ga1, 0, none⟩) (ol.length + 1) cga1)) (T.pick [0, 1, 2, 3, 4, 5, 6, 8] rfl) rfl rfl rfl rfl (rn_assign rfl (T.ev 0 rfl)) ?_; clear T ac; intro ac T
   refine wpList_nil ?_
   replace T := T.pick [0, 6, 7, 8] rfl
   replace M := M.mask [true, false, true] rfl
   refine nm_blk ?_
   refine nm_then ?_
   refine wp_region_lit ?_
   refine lq T (rn_move rfl (T.ev 3 rfl)) ?_; clear T ac; intro ac T
   refine lq T (rn_add rfl (T.ev 0 rfl) evc (by omega)) ?_; clear T ac; intro ac T
   refine l_q (v := (.int .i64 (i + 1))) (T.pick [0, 1, 2, 3, 4] rfl) rfl rfl rfl rfl (rn_assign rfl (T.ev 0 rfl)) ?_; clear T ac; intro ac T
   refine wpList_nil ?_
   replace T := T.pick [0, 3, 4, 5] rfl
   refine nm_then ?_
   have e9 : ol.length + 1 = (ol ++ [i]).length := by simp
   have e8 : ((ic ol) ++ [.int .i64 i]) = ic (ol ++ [i]) := by rw [← ic_snoc]
   rw [e9, e8] at M
   rw [e9] at T
   clear e9 e8
   exact ⟨_, by omega, (i + 1), (ol ++ [i]), _, _, su1, [(ga1, .row 3 1 (ol ++ [i]).length (ic (ol ++ [i])) cga1)], rfl, (by omega), (ha.snoc (by omega) (by omega)), (by simp only [List.length_append, List.length_cons, List.length_nil]; omega), hsu1, (Sl.row _ _ _ _ _ _), T.pick [2, 3, 1, 0] rfl, M.perm [1, 0] rfl rfl⟩
  intro h2
  refine wp_skip ?_
  refine nm_blk ?_
  refine nm_then ?_
  refine wp_region_lit ?_
  refine lq T (rn_move rfl (T.ev 4 rfl)) ?_; clear T ac; intro ac T
  refine lq T (rn_add rfl (T.ev 0 rfl) evc (by omega)) ?_; clear T ac; intro ac T
  refine l_q (v := (.int .i64 (i + 1))) (T.pick [0, 1, 2, 3, 4, 5] rfl) rfl rfl rfl rfl (rn_assign rfl (T.ev 0 rfl)) ?_; clear T ac; intro ac T
  refine wpList_nil ?_
  replace T := T.pick [0, 4, 5, 6] rfl
  refine nm_then ?_
  exact ⟨_, by omega, (i + 1), ol, _, _, su1, Io, rfl, (by omega), (ha.more (by omega)), (by omega), hsu1, hsl, T.pick [1, 2, 3, 0] rfl, M.permT [0] 1 rfl rfl rfl rfl⟩
 intro h1
 refine wp_exit ?_
 refine ex_then ?_
 refine ex_then ?_
 refine ex_hit ?_
 refine nm_then ?_
 refine wp_seq ?_
 refine wp_region_lit ?_
 refine lq T (rn_move rfl (T.ev 3 rfl)) ?_; clear T ac; intro ac T
 refine lq T (rn_assign rfl (T.ev 0 rfl)) ?_; clear T ac; intro ac T
 refine wpList_nil ?_
 replace T := T.pick [0] rfl
 refine nm_then ?_
 refine wp_ret ?_
 refine rt_1 T rfl (T.ev 0 rfl) ?_
 obtain ⟨b9, o9, h9⟩ := hsl.spV (by rw [ic_length]; omega)
 have hcap := hsl.capLe M (.cons _ (List.Sublist.refl _))
 exact ⟨ol, A3, c3, _, Io, rfl, ha.more (by omega), hs, hcap, ⟨b9, o9, h9⟩, M.mask [true] rfl⟩
theorem mix_any (s : Int) (bp : Nat) (n : Nat) (w : World) (hn : n ≤ 1000) (hp : Bk w bp #[.int .u64 s]) (hs : u64ok s) :
   Calls Tryd.prog 20 #[.pointer (some ⟨bp, 0, none⟩), .int .i64 (n : Int)] w (IdxPost bp (fun l => Idx n l ∧ l.length = n) w) := by
 refine px_enter (fun b => b = bp) Tryd.func20 rfl 31 rfl [.pointer (some ⟨bp, 0, none⟩), .int .i64 (n : Int)] rfl rfl (Mem.initEx (p := .cells [.int .u64 s]) hp) ?_
 intro ac wc T M
 refine wp_seq ?_
 refine wp_region_lit ?_
 refine lq T (rn_assign rfl evc) ?_; clear T ac; intro ac T
 refine wpList_nil ?_
 replace T := T.pick [1, 2] rfl
 refine nm_then ?_
 refine wp_seq ?_
 refine wp_region_lit ?_
 refine lq T (rn_move rfl (T.ev 1 rfl)) ?_; clear T ac; intro ac T
 refine lq T (rn_max2 rfl evc (T.ev 0 rfl)) ?_; clear T ac; intro ac T
 refine l_w rfl ?_; intro K hK
 rw [show (max 0 (n : Int)) = (n : Int) from (by omega)] at T
 refine ow_ms (m := n) M T rfl rfl rfl rfl (T.ev 0 rfl) (T.ev 0 rfl) Tryd.underlying27 Tryd.info3 (by omega) ?_; clear M T; intro g1 wc ac M T
 obtain ⟨lm1, hlm1⟩ : ∃ q : List Int, q = List.replicate n 0 := ⟨_, rfl⟩
 have llm1 : lm1.length = n := by rw [hlm1, List.length_replicate]
 rw [← hlm1] at M
 have Ss1 := Sp.pre (w := w) (ex := (fun b => b = bp)) (size := 1) (n := lm1.length) (g := g1) (xs := ic lm1) (ys := []) (by simp [ic_length])
 refine sh_out hK _ _ ?_; clear hK K
 refine lq T (rn_assign rfl (T.ev 0 rfl)) ?_; clear T ac; intro ac T
 refine wpList_nil ?_
 replace T := T.pick [0, 4, 5] rfl
 refine nm_then ?_
 refine wp_seq ?_
 refine wp_seq ?_
 refine wp_region_lit ?_
 refine lq T (rn_assign rfl evc) ?_; clear T ac; intro ac T
 refine wpList_nil ?_
 refine nm_then ?_
 refine wp_block ?_
 refine wp_loop_n (fun mz ac wc => ∃ (i : Nat) (l : List Int) (s : Int), mz = n - i ∧ (i ≤ n) ∧ (l.length = n) ∧ (MixI i l) ∧ (u64ok s) ∧ Tm ac 31 [(0, .pointer (some ⟨bp, 0, none⟩)), (1, .int .i64 (n : Int)), (5, .slice (some ⟨g1, 0, none⟩) n n), (6, .int .i64 (i : Int))] ∧ Mem w (fun b => b = bp) wc [(g1, .cells (ic l ++ [])), (bp, .cells [.int .u64 s])]) ?_ ?_
 ·exact ⟨_, 0, lm1, _, rfl, (Nat.zero_le _), (by omega), (Idx.nil _), hs, T.pick [2, 3, 1, 0] rfl, M.mask [true, true] rfl⟩
 clear T M
 rintro mz ac wc ⟨i, l, s, hmm1, hi, hl, hm, hs, T, M⟩
 have Sl9 := Sp.pre (w := w) (ex := fun b => b = bp) (size := 1) (n := l.length) (g := g1) (xs := ic l) (ys := []) (by simp [ic_length])
 rw [hl] at Sl9
 refine wp_seq ?_
 refine wp_seq ?_
 refine wp_region_lit ?_
 refine lq T (rn_move rfl (T.ev 3 rfl)) ?_; clear T ac; intro ac T
 refine lq T (rn_move rfl (T.ev 2 rfl)) ?_; clear T ac; intro ac T
 refine lq T (rn_lss rfl (T.ev 1 rfl) (T.ev 0 rfl)) ?_; clear T ac; intro ac T
 refine wpList_nil ?_
 replace T := T.pick [0, 3, 4, 5, 6] rfl
 refine nm_then ?_
 refine wp_if (T.ev 0 rfl) ?_ ?_
 ·intro h1
  refine wp_skip ?_
  refine nm_then ?_
  refine wp_seq ?_
  refine wp_block ?_
  refine wp_seq ?_
  refine wp_region_lit ?_
  refine lq T (rn_move rfl (T.ev 1 rfl)) ?_; clear T ac; intro ac T
  refine lq T (rn_move rfl (T.ev 5 rfl)) ?_; clear T ac; intro ac T
  refine l_w rfl ?_; intro K hK
  refine ow_call (first := []) (cap := []) T rfl rfl rfl rfl evf (.cons (T.ev 1 rfl) (.cons (T.ev 0 rfl) .nil)) Tryd.func21 rfl rfl ?_
  refine Calls.mono (upto_any _ bp (i : Int) _ (by omega) (by omega) (M.nth 1 rfl) hs) ?_
  clear T
  rintro e wc ⟨xu1, su1, hxu1, hsu1, rfl, hgr, hbk⟩
  intro ac T
  replace M := M.callC (cs' := [.int .u64 su1]) (.tail .head) hgr hbk
  clear hgr hbk
  obtain ⟨ku1, hku1⟩ : ∃ k : Nat, xu1 = (k : Int) := ⟨xu1.toNat, by omega⟩
  obtain ⟨v9, hkv, -⟩ := ic_next (l := l) (k := ku1) (by omega)
  refine sh_out hK _ _ ?_; clear hK K
  refine lq T (rn_assign rfl (T.ev 0 rfl)) ?_; clear T ac; intro ac T
  refine wpList_nil ?_
  replace T := T.pick [0, 5, 6, 7, 8] rfl
  refine nm_then ?_
  refine wp_seq ?_
  refine wp_region_lit ?_
  refine lq T (rn_move rfl (T.ev 3 rfl)) ?_; clear T ac; intro ac T
  refine lq T (rn_move rfl (T.ev 5 rfl)) ?_; clear T ac; intro ac T
  refine lq T (rn_move rfl (T.ev 5 rfl)) ?_; clear T ac; intro ac T
  refine lq T (rn_move rfl (T.ev 3 rfl)) ?_; clear T ac; intro ac T
  refine lq T (rn_indexAddr (size := 1) ku1 rfl (T.ev 1 rfl) (T.ev 0 rfl) ⟨_, Tryd.underlying27, by kernel_rfl⟩ hku1 (by omega) rfl) ?_; clear T ac; intro ac T
  refine lq T (rn_cell (Sp.ic0 Sl9 M (List.Sublist.cons_cons _ (List.nil_sublist _)) hkv) rfl (T.ev 0 rfl)) ?_; clear T ac; intro ac T
  refine lq T (rn_indexAddr (size := 1) i rfl (T.ev 5 rfl) (T.ev 4 rfl) ⟨_, Tryd.underlying27, by kernel_rfl⟩ rfl (by omega) rfl) ?_; clear T ac; intro ac T
  refine l_w rfl ?_; intro K hK
  refine ow_stI M T rfl rfl (T.ev 0 rfl) (T.ev 1 rfl) .head (by omega) rfl ?_; clear M T; intro wc ac M T
  obtain ⟨lo1, hlo1⟩ : ∃ q, q = l.set i v9 := ⟨_, rfl⟩
  have lhlo1 : l.length = lo1.length := by rw [hlo1, List.length_set]
  rw [← hlo1] at M; (try rw [lhlo1] at M); (try rw [lhlo1] at T)
  have Ss2 := Sp.pre (w := w) (ex := (fun b => b = bp)) (size := 1) (n := lo1.length) (g := g1) (xs := ic lo1) (ys := []) (by simp [ic_length])
  refine sh_out hK _ _ ?_; clear hK K
  refine wpList_nil ?_
  replace T := T.pick [7, 8, 9, 10, 11] rfl
  refine nm_then ?_
  refine wp_region_lit ?_
  refine lq T (rn_move rfl (T.ev 3 rfl)) ?_; clear T ac; intro ac T
  refine lq T (rn_move rfl (T.ev 1 rfl)) ?_; clear T ac; intro ac T
  refine lq T (rn_move rfl (T.ev 6 rfl)) ?_; clear T ac; intro ac T
  refine lq T (rn_indexAddr (size := 1) ku1 rfl (T.ev 2 rfl) (T.ev 1 rfl) ⟨_, Tryd.underlying27, by kernel_rfl⟩ hku1 (by omega) rfl) ?_; clear T ac; intro ac T
  refine l_w rfl ?_; intro K hK
  refine ow_stI M T rfl rfl (T.ev 0 rfl) (T.ev 1 rfl) .head (by omega) rfl ?_; clear M T; intro wc ac M T
  obtain ⟨lo2, hlo2⟩ : ∃ q, q = lo1.set ku1 (i : Int) := ⟨_, rfl⟩
  have lhlo2 : lo1.length = lo2.length := by rw [hlo2, List.length_set]
  rw [← hlo2] at M; (try rw [lhlo2] at M); (try rw [lhlo2] at T)
  have Ss3 := Sp.pre (w := w) (ex := (fun b => b = bp)) (size := 1) (n := lo2.length) (g := g1) (xs := ic lo2) (ys := []) (by simp [ic_length])
  refine sh_out hK _ _ ?_; clear hK K
  refine wpList_nil ?_
  replace T := T.pick [5, 6, 7, 8] rfl
  refine nm_blk ?_
  refine nm_then ?_
  refine wp_region_lit ?_
  refine lq T (rn_move rfl (T.ev 3 rfl)) ?_; clear T ac; intro ac T
  refine lq T (rn_add rfl (T.ev 0 rfl) evc (by omega)) ?_; clear T ac; intro ac T
  refine l_q (v := (.int .i64 ((i : Int) + 1))) (T.pick [0, 1, 2, 3, 4] rfl) rfl rfl rfl rfl (rn_assign rfl (T.ev 0 rfl)) ?_; clear T ac; intro ac T
  refine wpList_nil ?_
  replace T := T.pick [0, 3, 4, 5] rfl
  refine nm_then ?_
  exact ⟨_, by omega, i + 1, lo2, su1, rfl, (by omega), (by omega), (by rw [hlo2, hlo1]; exact mix_step hm (by omega) (by omega) hkv), hsu1, T.pick [1, 2, 3, 0] rfl, M.mask [true, true] rfl⟩
 intro h1
 refine wp_exit ?_
 refine ex_then ?_
 refine ex_then ?_
 refine ex_hit ?_
 refine nm_then ?_
 refine wp_seq ?_
 refine wp_region_lit ?_
 refine lq T (rn_move rfl (T.ev 3 rfl)) ?_; clear T ac; intro ac T
 refine lq T (rn_assign rfl (T.ev 0 rfl)) ?_; clear T ac; intro ac T
 refine wpList_nil ?_
 replace T := T.pick [0] rfl
 refine nm_then ?_
 refine wp_ret ?_
 refine rt_1 T rfl (T.ev 0 rfl) ?_
 have hx9 : Idx n l ∧ l.length = n := ⟨by have h8 := hm; unfold MixI at h8; rw [List.take_of_length_le (by omega), show i = n by omega] at h8; exact h8, hl⟩
 obtain ⟨hx8, hx7⟩ := hx9
 refine ⟨l, some ⟨g1, 0, none⟩, n, _, [(g1, .cells (ic l ++ []))], by rw [hl], ⟨hx8, hx7⟩, hs, by omega, ⟨g1, 0, fun w ex => Sp.pre (by rw [ic_length]; omega)⟩, M.perm [1, 0] rfl rfl⟩
set_option maxHeartbeats 2000000 in
theorem partOf_any (s : Int) (bp : Nat) (lo wi a0 a1 c0 c1 : Int) (A : Option Addr) (m c : Nat)  (w : World) (h1 : 0 ≤ lo ∧ lo ≤ 12) (h2 : 0 ≤ wi ∧ wi ≤ 12) (h3 : 0 ≤ a1 ∧ a1 ≤ 2) (h4 : 0 ≤ c1 ∧ c1 ≤ 2) (hp : Bk w bp #[.int .u64 s]) (hs : u64ok s) :
   Calls Tryd.prog 40 #[.pointer (some ⟨bp, 0, none⟩), .agg #[.int .i64 lo, .int .i64 wi, .int .i64 a0, .int .i64 a1, .int .i64 c0, .int .i64 c1, .slice A m c]] w (PtPost bp w) := by
 refine px_enter (fun b => b = bp) Tryd.func40 rfl 38 rfl [.pointer (some ⟨bp, 0, none⟩), .agg #[.int .i64 lo, .int .i64 wi, .int .i64 a0, .int .i64 a1, .int .i64 c0, .int .i64 c1, .slice A m c]] rfl rfl (Mem.initEx (p := .cells [.int .u64 s]) hp) ?_
 intro ac wc T M
 refine wp_seq ?_
 refine wp_region_lit ?_
 refine l_w rfl ?_; intro K hK
 refine ow_bx M T rfl rfl rfl rfl (T.ev 1 rfl) rfl ?_; clear M T; intro g1 wc ac M T
 refine sh_out hK _ _ ?_; clear hK K
 refine l_w rfl ?_; intro K hK
 refine ow_al M T rfl rfl rfl rfl ?_; clear M T; intro g2 wc ac M T
 refine sh_out hK _ _ ?_; clear hK K
 refine wpList_nil ?_
 replace T := T.pick [0, 1, 2] rfl
 refine nm_then ?_
 refine wp_seq ?_
 refine g_start2 M (M.perm [0, 1] rfl rfl) 28 (by kernel_rfl) rfl (by kernel_rfl) ?_
 clear M; intro wc M
 refine g_addG 8 M ?_
 refine g_have (fun ac wc => ∃ (xur1_8 : Int), ∃ (sur1_8 : Int), ∃ (xur1_17 : Int), ∃ (sur1_17 : Int), ∃ (bur1_19 : Bool), ∃ (sur1_19 : Int), ∃ (xur1_22 : Int), ∃ (sur1_22 : Int), ∃ (xur1_24 : Int), ∃ (sur1_24 : Int), (1 ≤ xur1_8 ∧ xur1_8 ≤ (max 1 (lo - a1))) ∧ (u64ok sur1_8) ∧ (1 ≤ xur1_17 ∧ xur1_17 ≤ (max 1 (wi - c1))) ∧ (u64ok sur1_17) ∧ (u64ok sur1_19) ∧ (0 ≤ xur1_22 ∧ xur1_22 ≤ 3) ∧ (u64ok sur1_22) ∧ (xur1_24 = 0 ∨ xur1_24 = 0 ∨ xur1_24 = 0 ∨ xur1_24 = xur1_22) ∧ (u64ok sur1_24) ∧ ∃ (gr1_26 gr1_23 : Nat), Tm ac 38 [(5, .pointer (some ⟨gr1_26, 0, none⟩)), (31, .agg #[.int .i64 xur1_8, .int .i64 xur1_17, .bool bur1_19, .int .i64 xur1_24]), (30, .int .i64 xur1_24), (29, .slice (some ⟨gr1_23, 0, none⟩) 4 4), (28, .int .i64 xur1_22), (25, .bool bur1_19), (23, .int .i64 xur1_17), (14, .int .i64 xur1_8), (27, .pointer (some ⟨bp, 0, none⟩)), (26, .pointer (some ⟨bp, 0, none⟩)), (24, .pointer (some ⟨bp, 0, none⟩)), (22, .int .i64 (max 1 (wi - c1))), (21, .int .i64 (wi - c1)), (20, .int .i64 c1), (19, .pointer (some ⟨g1, 5, none⟩)), (18, .pointer (some ⟨g1, 4, none⟩)), (17, .int .i64 wi), (16, .pointer (some ⟨g1, 1, none⟩)), (15, .pointer (some ⟨bp, 0, none⟩)), (13, .int .i64 (max 1 (lo - a1))), (12, .int .i64 (lo - a1)), (11, .int .i64 a1), (10, .pointer (some ⟨g1, 3, none⟩)), (9, .pointer (some ⟨g1, 2, none⟩)), (8, .int .i64 lo), (7, .pointer (some ⟨g1, 0, none⟩)), (6, .pointer (some ⟨bp, 0, none⟩)), (4, .pointer (some ⟨g2, 0, none⟩)), (3, .pointer (some ⟨g1, 0, none⟩)), (0, .pointer (some ⟨bp, 0, none⟩))] ∧ Mem w (fun b => b = bp) wc [(gr1_26, .cells [.int .i64 0, .int .i64 0, .bool false, .int .i64 0]), (gr1_23, .cells [.int .i64 0, .int .i64 0, .int .i64 0, .int .i64 xur1_22]), (g2, .cells [.int .i64 0, .int .i64 0, .bool false, .int .i64 0]), (g1, .cells [.int .i64 lo, .int .i64 wi, .int .i64 a0, .int .i64 a1, .int .i64 c0, .int .i64 c1, .slice A m c]), (bp, .cells [.int .u64 sur1_24])]) (pbits 28 134217727) 1 ?_ ?_
 ·clear T M
  rintro ac wc ⟨xur1_8, sur1_8, xur1_17, sur1_17, bur1_19, sur1_19, xur1_22, sur1_22, xur1_24, sur1_24, hxur1_8, hsur1_8, hxur1_17, hsur1_17, hsur1_19, hxur1_22, hsur1_22, hxur1_24, hsur1_24, gr1_26, gr1_23, T, M⟩
  refine gw 27 268435455 ?_; intro K hK
  refine ow_stO M T rfl rfl (T.ev 0 rfl) (T.ev 1 rfl) rfl .head rfl (by simp) rfl (by kernel_rfl) ?_; clear M T; intro wc ac M T
  refine sh_out hK _ _ (MA.mk (fun h => (no_of (by kernel_rfl) h).elim) (M.mask [false, false, true, true, false] rfl)) ?_; clear hK K
  refine g_done (by kernel_rfl) ?_
  replace T := T.pick [0, 27, 29] rfl
  replace M := M.mask [true, false, true, false, true] rfl
  refine nm_then ?_
  refine wp_seq ?_
  refine wp_seq ?_
  refine wp_region_lit ?_
  refine lq T (rn_move rfl (T.ev 2 rfl)) ?_; clear T ac; intro ac T
  refine l_w rfl ?_; intro K hK
  refine ow_call (first := []) (cap := []) T rfl rfl rfl rfl evf (.cons (T.ev 0 rfl) (.cons evc (.cons evc .nil))) Tryd.func23 rfl rfl ?_
  refine Calls.mono (odds_any _ bp 1 12 _ (by omega) (by omega) (M.nth 2 rfl) hsur1_24) ?_
  clear T
  rintro e wc ⟨bu1, su1, hsu1, rfl, hgr, hbk⟩
  intro ac T
  replace M := M.callC (cs' := [.int .u64 su1]) (.tail (.tail .head)) hgr hbk
  clear hgr hbk
  refine sh_out hK _ _ ?_; clear hK K
  refine wpList_nil ?_
  replace T := T.pick [0, 2, 3, 4] rfl
  refine nm_then ?_
  refine wp_cond_split (T.ev 0 rfl) ?_ ?_
  ·intro h1
   refine wp_region_lit ?_
   refine lq T (rn_move rfl (T.ev 3 rfl)) ?_; clear T ac; intro ac T
   refine l_w rfl ?_; intro K hK
   refine ow_call (first := []) (cap := []) T rfl rfl rfl rfl evf (.cons (T.ev 0 rfl) (.cons evc (.cons evc .nil))) Tryd.func39 rfl rfl ?_
   refine Calls.mono (within_pot _ bp 1 12 _ (by omega) (by omega) (by omega) (M.nth 2 rfl) hsu1) ?_
   clear T
   rintro e wc ⟨xu2, su2, hxu2, hsu2, rfl, hgr, hbk⟩
   intro ac T
   replace M := M.callC (cs' := [.int .u64 su2]) (.tail (.tail .head)) hgr hbk
   clear hgr hbk
   refine sh_out hK _ _ ?_; clear hK K
   refine lq (v := (.pointer (some ⟨gr1_26, 0, none⟩))) T (rn_fieldAddr (off := 0) rfl (T.ev 3 rfl) (fun _ _ _ => by kernel_rfl)) ?_; clear T ac; intro ac T
   refine l_w rfl ?_; intro K hK
   refine ow_stO M T rfl rfl (T.ev 0 rfl) (T.ev 1 rfl) rfl .head rfl (by simp) rfl (by kernel_rfl) ?_; clear M T; intro wc ac M T
   refine sh_out hK _ _ ?_; clear hK K
   refine wpList_nil ?_
   replace T := T.pick [4, 5] rfl
   refine nm_then ?_
   refine wp_seq ?_
   refine wp_region_lit ?_
   refine lq T (rn_rowO (Mem.nth M 0 rfl) rfl (T.ev 0 rfl) rfl) ?_; clear T ac; intro ac T
   refine l_w rfl ?_; intro K hK
   refine ow_stO M T rfl rfl (T.ev 2 rfl) (T.ev 0 rfl) rfl (.tail .head) rfl (by simp) rfl (by kernel_rfl) ?_; clear M T; intro wc ac M T
   refine sh_out hK _ _ ?_; clear hK K
   refine wpList_nil ?_
   replace T := T.pick [2] rfl
   replace M := M.mask [false, true, true] rfl
   refine nm_then ?_
   refine wp_ret ?_
   refine rt_c M T rfl (T.ev 0 rfl) (nthE_mem (i := 0) rfl) rfl ?_
   exact ⟨⟨xu2, xur1_17, bur1_19, xur1_24⟩, _, ⟨by dsimp only; omega, by dsimp only; omega, by dsimp only; omega⟩, hsu2, rfl, M.grown, M.nth 1 rfl⟩
  intro h1
  refine wp_skip ?_
  refine nm_then ?_
  refine wp_seq ?_
  refine wp_region_lit ?_
  refine lq T (rn_rowO (Mem.nth M 0 rfl) rfl (T.ev 1 rfl) rfl) ?_; clear T ac; intro ac T
  refine l_w rfl ?_; intro K hK
  refine ow_stO M T rfl rfl (T.ev 3 rfl) (T.ev 0 rfl) rfl (.tail .head) rfl (by simp) rfl (by kernel_rfl) ?_; clear M T; intro wc ac M T
  refine sh_out hK _ _ ?_; clear hK K
  refine wpList_nil ?_
  replace T := T.pick [3] rfl
  replace M := M.mask [false, true, true] rfl
  refine nm_then ?_
  refine wp_ret ?_
  refine rt_c M T rfl (T.ev 0 rfl) (nthE_mem (i := 0) rfl) rfl ?_
  exact ⟨⟨xur1_8, xur1_17, bur1_19, xur1_24⟩, _, ⟨by dsimp only; omega, by dsimp only; omega, by dsimp only; omega⟩, hsu1, rfl, M.grown, M.nth 1 rfl⟩
 intro H5
 refine g_have (fun ac wc => ∃ (xur1_8 : Int), ∃ (sur1_8 : Int), ∃ (xur1_17 : Int), ∃ (sur1_17 : Int), ∃ (bur1_19 : Bool), ∃ (sur1_19 : Int), ∃ (xur1_22 : Int), ∃ (sur1_22 : Int), (1 ≤ xur1_8 ∧ xur1_8 ≤ (max 1 (lo - a1))) ∧ (u64ok sur1_8) ∧ (1 ≤ xur1_17 ∧ xur1_17 ≤ (max 1 (wi - c1))) ∧ (u64ok sur1_17) ∧ (u64ok sur1_19) ∧ (0 ≤ xur1_22 ∧ xur1_22 ≤ 3) ∧ (u64ok sur1_22) ∧ ∃ (gr1_26 gr1_23 : Nat), Tm ac 38 [(5, .pointer (some ⟨gr1_26, 0, none⟩)), (29, .slice (some ⟨gr1_23, 0, none⟩) 4 4), (28, .int .i64 xur1_22), (25, .bool bur1_19), (23, .int .i64 xur1_17), (14, .int .i64 xur1_8), (27, .pointer (some ⟨bp, 0, none⟩)), (26, .pointer (some ⟨bp, 0, none⟩)), (24, .pointer (some ⟨bp, 0, none⟩)), (22, .int .i64 (max 1 (wi - c1))), (21, .int .i64 (wi - c1)), (20, .int .i64 c1), (19, .pointer (some ⟨g1, 5, none⟩)), (18, .pointer (some ⟨g1, 4, none⟩)), (17, .int .i64 wi), (16, .pointer (some ⟨g1, 1, none⟩)), (15, .pointer (some ⟨bp, 0, none⟩)), (13, .int .i64 (max 1 (lo - a1))), (12, .int .i64 (lo - a1)), (11, .int .i64 a1), (10, .pointer (some ⟨g1, 3, none⟩)), (9, .pointer (some ⟨g1, 2, none⟩)), (8, .int .i64 lo), (7, .pointer (some ⟨g1, 0, none⟩)), (6, .pointer (some ⟨bp, 0, none⟩)), (4, .pointer (some ⟨g2, 0, none⟩)), (3, .pointer (some ⟨g1, 0, none⟩)), (0, .pointer (some ⟨bp, 0, none⟩))] ∧ Mem w (fun b => b = bp) wc [(gr1_26, .cells [.int .i64 0, .int .i64 0, .bool false, .int .i64 0]), (gr1_23, .cells [.int .i64 0, .int .i64 0, .int .i64 0, .int .i64 xur1_22]), (g2, .cells [.int .i64 0, .int .i64 0, .bool false, .int .i64 0]), (g1, .cells [.int .i64 lo, .int .i64 wi, .int .i64 a0, .int .i64 a1, .int .i64 c0, .int .i64 c1, .slice A m c]), (bp, .cells [.int .u64 sur1_22])]) (pbits 28 83886079) 3 ?_ ?_
 ·clear T M
  rintro ac wc ⟨xur1_8, sur1_8, xur1_17, sur1_17, bur1_19, sur1_19, xur1_22, sur1_22, hxur1_8, hsur1_8, hxur1_17, hsur1_17, hsur1_19, hxur1_22, hsur1_22, gr1_26, gr1_23, T, M⟩
  refine gw 24 100663295 ?_; intro K hK
  refine ow_call (first := []) (cap := []) T rfl rfl rfl rfl evf (.cons (T.ev 7 rfl) (.cons (T.ev 1 rfl) .nil)) Tryd.func85 rfl rfl ?_
  refine Calls.mono (of_any _ bp _ 4 4 [0, 0, 0, xur1_22] _ (M.rdOwn (nthE_mem (i := 1) rfl) rfl rfl) (M.nee 1 4 rfl rfl rfl) (by decide) (by decide) (M.nth 4 rfl) hsur1_22) ?_
  clear T
  rintro e wc ⟨xur1_24, sur1_24, hxur1_24, hsur1_24, rfl, hgr, hbk⟩
  intro ac T
  replace M := M.callC (cs' := [.int .u64 sur1_24]) (.tail (.tail (.tail (.tail .head)))) hgr hbk
  clear hgr hbk
  simp only [List.mem_cons, List.not_mem_nil, or_false] at hxur1_24
  refine sh_out hK _ _ (MA.mk (fun h => (no_of (by kernel_rfl) h).elim) (M.mask [false, false, true, true, false] rfl)) ?_; clear hK K
  refine gq (v := (.agg #[.int .i64 xur1_8, .int .i64 xur1_17, .bool bur1_19, .int .i64 xur1_24])) T 25 134217727 rfl (fun _ _ _ _ _ => (rn_build rfl (.cons (T.ev 6 rfl) (.cons (T.ev 5 rfl) (.cons (T.ev 4 rfl) (.cons (T.ev 0 rfl) .nil)))) (fun _ => by kernel_rfl))) ?_; clear T ac; intro ac T
  exact H5 _ _ ⟨xur1_8, sur1_8, xur1_17, sur1_17, bur1_19, sur1_19, xur1_22, sur1_22, xur1_24, sur1_24, hxur1_8, hsur1_8, hxur1_17, hsur1_17, hsur1_19, hxur1_22, hsur1_22, hxur1_24, hsur1_24, gr1_26, gr1_23, T.pick [2, 0, 1, 3, 4, 5, 6, 7, 8, 9, 10, 11, 12, 13, 14, 15, 16, 17, 18, 19, 20, 21, 22, 23, 24, 25, 26, 27, 28, 29] rfl, M⟩
 intro H4
 refine g_have (fun ac wc => ∃ (xur1_8 : Int), ∃ (sur1_8 : Int), ∃ (xur1_17 : Int), ∃ (sur1_17 : Int), ∃ (bur1_19 : Bool), ∃ (sur1_19 : Int), ∃ (xur1_22 : Int), ∃ (sur1_22 : Int), (1 ≤ xur1_8 ∧ xur1_8 ≤ (max 1 (lo - a1))) ∧ (u64ok sur1_8) ∧ (1 ≤ xur1_17 ∧ xur1_17 ≤ (max 1 (wi - c1))) ∧ (u64ok sur1_17) ∧ (u64ok sur1_19) ∧ (0 ≤ xur1_22 ∧ xur1_22 ≤ 3) ∧ (u64ok sur1_22) ∧ ∃ (gr1_26 : Nat), Tm ac 38 [(5, .pointer (some ⟨gr1_26, 0, none⟩)), (28, .int .i64 xur1_22), (25, .bool bur1_19), (23, .int .i64 xur1_17), (14, .int .i64 xur1_8), (27, .pointer (some ⟨bp, 0, none⟩)), (26, .pointer (some ⟨bp, 0, none⟩)), (24, .pointer (some ⟨bp, 0, none⟩)), (22, .int .i64 (max 1 (wi - c1))), (21, .int .i64 (wi - c1)), (20, .int .i64 c1), (19, .pointer (some ⟨g1, 5, none⟩)), (18, .pointer (some ⟨g1, 4, none⟩)), (17, .int .i64 wi), (16, .pointer (some ⟨g1, 1, none⟩)), (15, .pointer (some ⟨bp, 0, none⟩)), (13, .int .i64 (max 1 (lo - a1))), (12, .int .i64 (lo - a1)), (11, .int .i64 a1), (10, .pointer (some ⟨g1, 3, none⟩)), (9, .pointer (some ⟨g1, 2, none⟩)), (8, .int .i64 lo), (7, .pointer (some ⟨g1, 0, none⟩)), (6, .pointer (some ⟨bp, 0, none⟩)), (4, .pointer (some ⟨g2, 0, none⟩)), (3, .pointer (some ⟨g1, 0, none⟩)), (0, .pointer (some ⟨bp, 0, none⟩))] ∧ Mem w (fun b => b = bp) wc [(gr1_26, .cells [.int .i64 0, .int .i64 0, .bool false, .int .i64 0]), (g2, .cells [.int .i64 0, .int .i64 0, .bool false, .int .i64 0]), (g1, .cells [.int .i64 lo, .int .i64 wi, .int .i64 a0, .int .i64 a1, .int .i64 c0, .int .i64 c1, .slice A m c]), (bp, .cells [.int .u64 sur1_22])]) (pbits 28 75497471) 4 ?_ ?_
 ·clear T M
  rintro ac wc ⟨xur1_8, sur1_8, xur1_17, sur1_17, bur1_19, sur1_19, xur1_22, sur1_22, hxur1_8, hsur1_8, hxur1_17, hsur1_17, hsur1_19, hxur1_22, hsur1_22, gr1_26, T, M⟩
  refine gw 23 83886079 ?_; intro K hK
  refine ow_bs (e := 3) [.int .i64 0, .int .i64 0, .int .i64 0, .int .i64 xur1_22] M T rfl rfl rfl rfl (.cons evc (.cons evc (.cons evc (.cons (T.ev 1 rfl) .nil)))) (fun _ => by kernel_rfl) ?_; clear M T; intro gr1_23 wc ac M T
  refine sh_out hK _ _ (MA.mk (fun h => (no_of (by kernel_rfl) h).elim) (M.mask [false, false, true, true, false] rfl)) ?_; clear hK K
  exact H4 _ _ ⟨xur1_8, sur1_8, xur1_17, sur1_17, bur1_19, sur1_19, xur1_22, sur1_22, hxur1_8, hsur1_8, hxur1_17, hsur1_17, hsur1_19, hxur1_22, hsur1_22, gr1_26, gr1_23, T.pick [1, 0, 2, 3, 4, 5, 6, 7, 8, 9, 10, 11, 12, 13, 14, 15, 16, 17, 18, 19, 20, 21, 22, 23, 24, 25, 26, 27] rfl, M.perm [1, 0, 2, 3, 4] rfl rfl⟩
 intro H3
 refine g_have (fun ac wc => ∃ (xur1_8 : Int), ∃ (sur1_8 : Int), ∃ (xur1_17 : Int), ∃ (sur1_17 : Int), ∃ (bur1_19 : Bool), ∃ (sur1_19 : Int), (1 ≤ xur1_8 ∧ xur1_8 ≤ (max 1 (lo - a1))) ∧ (u64ok sur1_8) ∧ (1 ≤ xur1_17 ∧ xur1_17 ≤ (max 1 (wi - c1))) ∧ (u64ok sur1_17) ∧ (u64ok sur1_19) ∧ ∃ (gr1_26 : Nat), Tm ac 38 [(5, .pointer (some ⟨gr1_26, 0, none⟩)), (25, .bool bur1_19), (23, .int .i64 xur1_17), (14, .int .i64 xur1_8), (27, .pointer (some ⟨bp, 0, none⟩)), (26, .pointer (some ⟨bp, 0, none⟩)), (24, .pointer (some ⟨bp, 0, none⟩)), (22, .int .i64 (max 1 (wi - c1))), (21, .int .i64 (wi - c1)), (20, .int .i64 c1), (19, .pointer (some ⟨g1, 5, none⟩)), (18, .pointer (some ⟨g1, 4, none⟩)), (17, .int .i64 wi), (16, .pointer (some ⟨g1, 1, none⟩)), (15, .pointer (some ⟨bp, 0, none⟩)), (13, .int .i64 (max 1 (lo - a1))), (12, .int .i64 (lo - a1)), (11, .int .i64 a1), (10, .pointer (some ⟨g1, 3, none⟩)), (9, .pointer (some ⟨g1, 2, none⟩)), (8, .int .i64 lo), (7, .pointer (some ⟨g1, 0, none⟩)), (6, .pointer (some ⟨bp, 0, none⟩)), (4, .pointer (some ⟨g2, 0, none⟩)), (3, .pointer (some ⟨g1, 0, none⟩)), (0, .pointer (some ⟨bp, 0, none⟩))] ∧ Mem w (fun b => b = bp) wc [(gr1_26, .cells [.int .i64 0, .int .i64 0, .bool false, .int .i64 0]), (g2, .cells [.int .i64 0, .int .i64 0, .bool false, .int .i64 0]), (g1, .cells [.int .i64 lo, .int .i64 wi, .int .i64 a0, .int .i64 a1, .int .i64 c0, .int .i64 c1, .slice A m c]), (bp, .cells [.int .u64 sur1_19])]) (pbits 28 71303167) 5 ?_ ?_
 ·clear T M
  rintro ac wc ⟨xur1_8, sur1_8, xur1_17, sur1_17, bur1_19, sur1_19, hxur1_8, hsur1_8, hxur1_17, hsur1_17, hsur1_19, gr1_26, T, M⟩
  refine gw 22 75497471 ?_; intro K hK
  refine ow_call (first := []) (cap := []) T rfl rfl rfl rfl evf (.cons (T.ev 4 rfl) (.cons evc .nil)) Tryd.func21 rfl rfl ?_
  refine Calls.mono (upto_any _ bp 3 _ (by omega) (by omega) (M.nth 3 rfl) hsur1_19) ?_
  clear T
  rintro e wc ⟨xur1_22, sur1_22, hxur1_22, hsur1_22, rfl, hgr, hbk⟩
  intro ac T
  replace M := M.callC (cs' := [.int .u64 sur1_22]) (.tail (.tail (.tail .head))) hgr hbk
  clear hgr hbk
  refine sh_out hK _ _ (MA.mk (fun h => (no_of (by kernel_rfl) h).elim) (M.mask [false, true, true, false] rfl)) ?_; clear hK K
  exact H3 _ _ ⟨xur1_8, sur1_8, xur1_17, sur1_17, bur1_19, sur1_19, xur1_22, sur1_22, hxur1_8, hsur1_8, hxur1_17, hsur1_17, hsur1_19, hxur1_22, hsur1_22, gr1_26, T.pick [1, 0, 2, 3, 4, 5, 6, 7, 8, 9, 10, 11, 12, 13, 14, 15, 16, 17, 18, 19, 20, 21, 22, 23, 24, 25, 26] rfl, M⟩
 intro H2
 refine g_have (fun ac wc => ∃ (xur1_8 : Int), ∃ (sur1_8 : Int), ∃ (xur1_17 : Int), ∃ (sur1_17 : Int), (1 ≤ xur1_8 ∧ xur1_8 ≤ (max 1 (lo - a1))) ∧ (u64ok sur1_8) ∧ (1 ≤ xur1_17 ∧ xur1_17 ≤ (max 1 (wi - c1))) ∧ (u64ok sur1_17) ∧ ∃ (gr1_26 : Nat), Tm ac 38 [(5, .pointer (some ⟨gr1_26, 0, none⟩)), (23, .int .i64 xur1_17), (14, .int .i64 xur1_8), (27, .pointer (some ⟨bp, 0, none⟩)), (26, .pointer (some ⟨bp, 0, none⟩)), (24, .pointer (some ⟨bp, 0, none⟩)), (22, .int .i64 (max 1 (wi - c1))), (21, .int .i64 (wi - c1)), (20, .int .i64 c1), (19, .pointer (some ⟨g1, 5, none⟩)), (18, .pointer (some ⟨g1, 4, none⟩)), (17, .int .i64 wi), (16, .pointer (some ⟨g1, 1, none⟩)), (15, .pointer (some ⟨bp, 0, none⟩)), (13, .int .i64 (max 1 (lo - a1))), (12, .int .i64 (lo - a1)), (11, .int .i64 a1), (10, .pointer (some ⟨g1, 3, none⟩)), (9, .pointer (some ⟨g1, 2, none⟩)), (8, .int .i64 lo), (7, .pointer (some ⟨g1, 0, none⟩)), (6, .pointer (some ⟨bp, 0, none⟩)), (4, .pointer (some ⟨g2, 0, none⟩)), (3, .pointer (some ⟨g1, 0, none⟩)), (0, .pointer (some ⟨bp, 0, none⟩))] ∧ Mem w (fun b => b = bp) wc [(gr1_26, .cells [.int .i64 0, .int .i64 0, .bool false, .int .i64 0]), (g2, .cells [.int .i64 0, .int .i64 0, .bool false, .int .i64 0]), (g1, .cells [.int .i64 lo, .int .i64 wi, .int .i64 a0, .int .i64 a1, .int .i64 c0, .int .i64 c1, .slice A m c]), (bp, .cells [.int .u64 sur1_17])]) (pbits 28 70778879) 6 ?_ ?_
 ·clear T M
  rintro ac wc ⟨xur1_8, sur1_8, xur1_17, sur1_17, hxur1_8, hsur1_8, hxur1_17, hsur1_17, gr1_26, T, M⟩
  refine gw 19 71303167 ?_; intro K hK
  refine ow_call (first := []) (cap := []) T rfl rfl rfl rfl evf (.cons (T.ev 5 rfl) (.cons evc (.cons evc .nil))) Tryd.func23 rfl rfl ?_
  refine Calls.mono (odds_any _ bp 1 3 _ (by omega) (by omega) (M.nth 3 rfl) hsur1_17) ?_
  clear T
  rintro e wc ⟨bur1_19, sur1_19, hsur1_19, rfl, hgr, hbk⟩
  intro ac T
  replace M := M.callC (cs' := [.int .u64 sur1_19]) (.tail (.tail (.tail .head))) hgr hbk
  clear hgr hbk
  refine sh_out hK _ _ (MA.mk (fun h => (no_of (by kernel_rfl) h).elim) (M.mask [false, true, true, false] rfl)) ?_; clear hK K
  exact H2 _ _ ⟨xur1_8, sur1_8, xur1_17, sur1_17, bur1_19, sur1_19, hxur1_8, hsur1_8, hxur1_17, hsur1_17, hsur1_19, gr1_26, T.pick [1, 0, 2, 3, 4, 5, 6, 7, 8, 9, 10, 11, 12, 13, 14, 15, 16, 17, 18, 19, 20, 21, 22, 23, 24, 25] rfl, M⟩
 intro H1
 refine g_have (fun ac wc => ∃ (xur1_8 : Int), ∃ (sur1_8 : Int), (1 ≤ xur1_8 ∧ xur1_8 ≤ (max 1 (lo - a1))) ∧ (u64ok sur1_8) ∧ ∃ (gr1_26 : Nat), Tm ac 38 [(5, .pointer (some ⟨gr1_26, 0, none⟩)), (14, .int .i64 xur1_8), (27, .pointer (some ⟨bp, 0, none⟩)), (26, .pointer (some ⟨bp, 0, none⟩)), (24, .pointer (some ⟨bp, 0, none⟩)), (22, .int .i64 (max 1 (wi - c1))), (21, .int .i64 (wi - c1)), (20, .int .i64 c1), (19, .pointer (some ⟨g1, 5, none⟩)), (18, .pointer (some ⟨g1, 4, none⟩)), (17, .int .i64 wi), (16, .pointer (some ⟨g1, 1, none⟩)), (15, .pointer (some ⟨bp, 0, none⟩)), (13, .int .i64 (max 1 (lo - a1))), (12, .int .i64 (lo - a1)), (11, .int .i64 a1), (10, .pointer (some ⟨g1, 3, none⟩)), (9, .pointer (some ⟨g1, 2, none⟩)), (8, .int .i64 lo), (7, .pointer (some ⟨g1, 0, none⟩)), (6, .pointer (some ⟨bp, 0, none⟩)), (4, .pointer (some ⟨g2, 0, none⟩)), (3, .pointer (some ⟨g1, 0, none⟩)), (0, .pointer (some ⟨bp, 0, none⟩))] ∧ Mem w (fun b => b = bp) wc [(gr1_26, .cells [.int .i64 0, .int .i64 0, .bool false, .int .i64 0]), (g2, .cells [.int .i64 0, .int .i64 0, .bool false, .int .i64 0]), (g1, .cells [.int .i64 lo, .int .i64 wi, .int .i64 a0, .int .i64 a1, .int .i64 c0, .int .i64 c1, .slice A m c]), (bp, .cells [.int .u64 sur1_8])]) (pbits 28 70647807) 7 ?_ ?_
 ·clear T M
  rintro ac wc ⟨xur1_8, sur1_8, hxur1_8, hsur1_8, gr1_26, T, M⟩
  refine gw 17 70778879 ?_; intro K hK
  refine ow_call (first := []) (cap := []) T rfl rfl rfl rfl evf (.cons (T.ev 12 rfl) (.cons evc (.cons (T.ev 5 rfl) .nil))) Tryd.func39 rfl rfl ?_
  refine Calls.mono (within_pot _ bp 1 (max 1 (wi - c1)) _ (by omega) (by omega) (by omega) (M.nth 3 rfl) hsur1_8) ?_
  clear T
  rintro e wc ⟨xur1_17, sur1_17, hxur1_17, hsur1_17, rfl, hgr, hbk⟩
  intro ac T
  replace M := M.callC (cs' := [.int .u64 sur1_17]) (.tail (.tail (.tail .head))) hgr hbk
  clear hgr hbk
  refine sh_out hK _ _ (MA.mk (fun h => (no_of (by kernel_rfl) h).elim) (M.mask [false, true, true, false] rfl)) ?_; clear hK K
  exact H1 _ _ ⟨xur1_8, sur1_8, xur1_17, sur1_17, hxur1_8, hsur1_8, hxur1_17, hsur1_17, gr1_26, T.pick [1, 0, 2, 3, 4, 5, 6, 7, 8, 9, 10, 11, 12, 13, 14, 15, 16, 17, 18, 19, 20, 21, 22, 23, 24] rfl, M⟩
 intro H0
 refine gq T 0 1 rfl (fun _ _ _ _ _ => (rn_move rfl (T.ev 2 rfl))) ?_; clear T ac; intro ac T
 refine gq (v := (.pointer (some ⟨g1, 0, none⟩))) T 1 3 rfl (fun _ _ _ _ _ => (rn_fieldAddr (off := 0) rfl (T.ev 2 rfl) (fun _ _ _ => by kernel_rfl))) ?_; clear T ac; intro ac T
 refine gq T 2 7 rfl (fun B w' hD hl hS => (rn_one (Mem.nth (show Mem w (fun b => b = bp) w' _ from ((MA.lft hS) (hD.wait (i := 7) (m := 8) (by kernel_rfl) (hD.wait (i := 6) (m := 7) (by kernel_rfl) (hD.wait (i := 2) (m := 6) (by kernel_rfl) hl))))) 1 rfl) rfl (T.ev 0 rfl) rfl)) ?_; clear T ac; intro ac T
 refine gq (v := (.pointer (some ⟨g1, 2, none⟩))) T 3 15 rfl (fun _ _ _ _ _ => (rn_fieldAddr (off := 2) rfl (T.ev 4 rfl) (fun _ _ _ => by kernel_rfl))) ?_; clear T ac; intro ac T
 refine gq (v := (.pointer (some ⟨g1, 3, none⟩))) T 4 31 rfl (fun _ _ _ _ _ => (rn_fieldAddr (off := 1) rfl (T.ev 0 rfl) (fun _ _ _ => by kernel_rfl))) ?_; clear T ac; intro ac T
 refine gq T 5 63 rfl (fun B w' hD hl hS => (rn_one (Mem.nth (show Mem w (fun b => b = bp) w' _ from ((MA.lft hS) (hD.wait (i := 7) (m := 8) (by kernel_rfl) (hD.wait (i := 6) (m := 7) (by kernel_rfl) (hD.wait (i := 5) (m := 6) (by kernel_rfl) hl))))) 1 rfl) rfl (T.ev 0 rfl) rfl)) ?_; clear T ac; intro ac T
 refine gq T 6 127 rfl (fun _ _ _ _ _ => (rn_sub rfl (T.ev 3 rfl) (T.ev 0 rfl) (by omega))) ?_; clear T ac; intro ac T
 refine gq T 7 255 rfl (fun _ _ _ _ _ => (rn_max2 rfl evc (T.ev 0 rfl))) ?_; clear T ac; intro ac T
 refine gq T 9 767 rfl (fun _ _ _ _ _ => (rn_move rfl (T.ev 10 rfl))) ?_; clear T ac; intro ac T
 refine gq (v := (.pointer (some ⟨g1, 1, none⟩))) T 10 1791 rfl (fun _ _ _ _ _ => (rn_fieldAddr (off := 1) rfl (T.ev 10 rfl) (fun _ _ _ => by kernel_rfl))) ?_; clear T ac; intro ac T
 refine gq T 11 3839 rfl (fun B w' hD hl hS => (rn_one (Mem.nth (show Mem w (fun b => b = bp) w' _ from (MA.rgt hS)) 1 rfl) rfl (T.ev 0 rfl) rfl)) ?_; clear T ac; intro ac T
 refine gq (v := (.pointer (some ⟨g1, 4, none⟩))) T 12 7935 rfl (fun _ _ _ _ _ => (rn_fieldAddr (off := 4) rfl (T.ev 12 rfl) (fun _ _ _ => by kernel_rfl))) ?_; clear T ac; intro ac T
 refine gq (v := (.pointer (some ⟨g1, 5, none⟩))) T 13 16127 rfl (fun _ _ _ _ _ => (rn_fieldAddr (off := 1) rfl (T.ev 0 rfl) (fun _ _ _ => by kernel_rfl))) ?_; clear T ac; intro ac T
 refine gq T 14 32511 rfl (fun B w' hD hl hS => (rn_one (Mem.nth (show Mem w (fun b => b = bp) w' _ from (MA.rgt hS)) 1 rfl) rfl (T.ev 0 rfl) rfl)) ?_; clear T ac; intro ac T
 refine gq T 15 65279 rfl (fun _ _ _ _ _ => (rn_sub rfl (T.ev 3 rfl) (T.ev 0 rfl) (by omega))) ?_; clear T ac; intro ac T
 refine gq T 16 130815 rfl (fun _ _ _ _ _ => (rn_max2 rfl evc (T.ev 0 rfl))) ?_; clear T ac; intro ac T
 refine gq T 18 392959 rfl (fun _ _ _ _ _ => (rn_move rfl (T.ev 18 rfl))) ?_; clear T ac; intro ac T
 refine gq T 20 1441535 rfl (fun _ _ _ _ _ => (rn_move rfl (T.ev 19 rfl))) ?_; clear T ac; intro ac T
 refine gq T 21 3538687 rfl (fun _ _ _ _ _ => (rn_move rfl (T.ev 20 rfl))) ?_; clear T ac; intro ac T
 refine g_m2 (i := 8) (j := 26) (by kernel_rfl) ?_ ?_
 ·refine gi 3538943 ?_; intro K hK
  refine ow_call (first := []) (cap := []) T rfl rfl rfl rfl evf (.cons (T.ev 18 rfl) (.cons evc (.cons (T.ev 11 rfl) .nil))) Tryd.func39 rfl rfl ?_
  refine Calls.mono (within_pot _ bp 1 (max 1 (lo - a1)) _ (by omega) (by omega) (by omega) (M.nth 2 rfl) hs) ?_
  clear T
  rintro e wc ⟨xur1_8, sur1_8, hxur1_8, hsur1_8, rfl, hgr, hbk⟩
  intro ac T
  replace M := M.callC (cs' := [.int .u64 sur1_8]) (.tail (.tail .head)) hgr hbk
  clear hgr hbk
  refine sh_out hK _ _ (MA.mk (fun h => (no_of (by kernel_rfl) h).elim) (M.mask [true, true, false] rfl)) ?_; clear hK K
  refine g_m2 (i := 17) (j := 26) (by kernel_rfl) ?_ ?_
  ·refine gi 3670015 ?_; intro K hK
   refine ow_call (first := []) (cap := []) T rfl rfl rfl rfl evf (.cons (T.ev 11 rfl) (.cons evc (.cons (T.ev 4 rfl) .nil))) Tryd.func39 rfl rfl ?_
   refine Calls.mono (within_pot _ bp 1 (max 1 (wi - c1)) _ (by omega) (by omega) (by omega) (M.nth 2 rfl) hsur1_8) ?_
   clear T
   rintro e wc ⟨xur1_17, sur1_17, hxur1_17, hsur1_17, rfl, hgr, hbk⟩
   intro ac T
   replace M := M.callC (cs' := [.int .u64 sur1_17]) (.tail (.tail .head)) hgr hbk
   clear hgr hbk
   refine sh_out hK _ _ (MA.mk (fun h => (no_of (by kernel_rfl) h).elim) (M.mask [true, true, false] rfl)) ?_; clear hK K
   refine g_m2 (i := 19) (j := 26) (by kernel_rfl) ?_ ?_
   ·refine gi 4194303 ?_; intro K hK
    refine ow_call (first := []) (cap := []) T rfl rfl rfl rfl evf (.cons (T.ev 4 rfl) (.cons evc (.cons evc .nil))) Tryd.func23 rfl rfl ?_
    refine Calls.mono (odds_any _ bp 1 3 _ (by omega) (by omega) (M.nth 2 rfl) hsur1_17) ?_
    clear T
    rintro e wc ⟨bur1_19, sur1_19, hsur1_19, rfl, hgr, hbk⟩
    intro ac T
    replace M := M.callC (cs' := [.int .u64 sur1_19]) (.tail (.tail .head)) hgr hbk
    clear hgr hbk
    refine sh_out hK _ _ (MA.mk (fun h => (no_of (by kernel_rfl) h).elim) (M.mask [true, true, false] rfl)) ?_; clear hK K
    refine g_m2 (i := 22) (j := 26) (by kernel_rfl) ?_ ?_
    ·refine gi 8388607 ?_; intro K hK
     refine ow_call (first := []) (cap := []) T rfl rfl rfl rfl evf (.cons (T.ev 3 rfl) (.cons evc .nil)) Tryd.func21 rfl rfl ?_
     refine Calls.mono (upto_any _ bp 3 _ (by omega) (by omega) (M.nth 2 rfl) hsur1_19) ?_
     clear T
     rintro e wc ⟨xur1_22, sur1_22, hxur1_22, hsur1_22, rfl, hgr, hbk⟩
     intro ac T
     replace M := M.callC (cs' := [.int .u64 sur1_22]) (.tail (.tail .head)) hgr hbk
     clear hgr hbk
     refine sh_out hK _ _ (MA.mk (fun h => (no_of (by kernel_rfl) h).elim) (M.mask [true, true, false] rfl)) ?_; clear hK K
     refine g_m2 (i := 23) (j := 26) (by kernel_rfl) ?_ ?_
     ·refine gi 16777215 ?_; intro K hK
      refine ow_bs (e := 3) [.int .i64 0, .int .i64 0, .int .i64 0, .int .i64 xur1_22] M T rfl rfl rfl rfl (.cons evc (.cons evc (.cons evc (.cons (T.ev 0 rfl) .nil)))) (fun _ => by kernel_rfl) ?_; clear M T; intro gr1_23 wc ac M T
      refine sh_out hK _ _ (MA.mk (fun h => (no_of (by kernel_rfl) h).elim) (M.mask [false, true, true, false] rfl)) ?_; clear hK K
      refine g_m2 (i := 24) (j := 26) (by kernel_rfl) ?_ ?_
      ·refine gi 33554431 ?_; intro K hK
       refine ow_call (first := []) (cap := []) T rfl rfl rfl rfl evf (.cons (T.ev 6 rfl) (.cons (T.ev 0 rfl) .nil)) Tryd.func85 rfl rfl ?_
       refine Calls.mono (of_any _ bp _ 4 4 [0, 0, 0, xur1_22] _ (M.rdOwn (nthE_mem (i := 0) rfl) rfl rfl) (M.nee 0 3 rfl rfl rfl) (by decide) (by decide) (M.nth 3 rfl) hsur1_22) ?_
       clear T
       rintro e wc ⟨xur1_24, sur1_24, hxur1_24, hsur1_24, rfl, hgr, hbk⟩
       intro ac T
       replace M := M.callC (cs' := [.int .u64 sur1_24]) (.tail (.tail (.tail .head))) hgr hbk
       clear hgr hbk
       simp only [List.mem_cons, List.not_mem_nil, or_false] at hxur1_24
       refine sh_out hK _ _ (MA.mk (fun h => (no_of (by kernel_rfl) h).elim) (M.mask [false, true, true, false] rfl)) ?_; clear hK K
       refine gq (v := (.agg #[.int .i64 xur1_8, .int .i64 xur1_17, .bool bur1_19, .int .i64 xur1_24])) T 25 67108863 rfl (fun _ _ _ _ _ => (rn_build rfl (.cons (T.ev 5 rfl) (.cons (T.ev 4 rfl) (.cons (T.ev 3 rfl) (.cons (T.ev 0 rfl) .nil)))) (fun _ => by kernel_rfl))) ?_; clear T ac; intro ac T
       refine gw 26 134217727 ?_; intro K hK
       refine ow_al M T rfl rfl rfl rfl ?_; clear M T; intro gr1_26 wc ac M T
       refine sh_out hK _ _ (MA.mk (fun h => (no_of (by kernel_rfl) h).elim) (M.mask [false, false, true, true, false] rfl)) ?_; clear hK K
       exact H5 _ _ ⟨xur1_8, sur1_8, xur1_17, sur1_17, bur1_19, sur1_19, xur1_22, sur1_22, xur1_24, sur1_24, hxur1_8, hsur1_8, hxur1_17, hsur1_17, hsur1_19, hxur1_22, hsur1_22, hxur1_24, hsur1_24, gr1_26, gr1_23, T, M⟩
      refine gi 83886079 ?_; intro K hK
      refine ow_al M T rfl rfl rfl rfl ?_; clear M T; intro gr1_26 wc ac M T
      refine sh_out hK _ _ (MA.mk (fun h => (no_of (by kernel_rfl) h).elim) (M.mask [false, false, true, true, false] rfl)) ?_; clear hK K
      exact H4 _ _ ⟨xur1_8, sur1_8, xur1_17, sur1_17, bur1_19, sur1_19, xur1_22, sur1_22, hxur1_8, hsur1_8, hxur1_17, hsur1_17, hsur1_19, hxur1_22, hsur1_22, gr1_26, gr1_23, T, M⟩
     refine gi 75497471 ?_; intro K hK
     refine ow_al M T rfl rfl rfl rfl ?_; clear M T; intro gr1_26 wc ac M T
     refine sh_out hK _ _ (MA.mk (fun h => (no_of (by kernel_rfl) h).elim) (M.mask [false, true, true, false] rfl)) ?_; clear hK K
     exact H3 _ _ ⟨xur1_8, sur1_8, xur1_17, sur1_17, bur1_19, sur1_19, xur1_22, sur1_22, hxur1_8, hsur1_8, hxur1_17, hsur1_17, hsur1_19, hxur1_22, hsur1_22, gr1_26, T, M⟩
    refine gi 71303167 ?_; intro K hK
    refine ow_al M T rfl rfl rfl rfl ?_; clear M T; intro gr1_26 wc ac M T
    refine sh_out hK _ _ (MA.mk (fun h => (no_of (by kernel_rfl) h).elim) (M.mask [false, true, true, false] rfl)) ?_; clear hK K
    exact H2 _ _ ⟨xur1_8, sur1_8, xur1_17, sur1_17, bur1_19, sur1_19, hxur1_8, hsur1_8, hxur1_17, hsur1_17, hsur1_19, gr1_26, T, M⟩
   refine gi 70778879 ?_; intro K hK
   refine ow_al M T rfl rfl rfl rfl ?_; clear M T; intro gr1_26 wc ac M T
   refine sh_out hK _ _ (MA.mk (fun h => (no_of (by kernel_rfl) h).elim) (M.mask [false, true, true, false] rfl)) ?_; clear hK K
   exact H1 _ _ ⟨xur1_8, sur1_8, xur1_17, sur1_17, hxur1_8, hsur1_8, hxur1_17, hsur1_17, gr1_26, T, M⟩
  refine gi 70647807 ?_; intro K hK
  refine ow_al M T rfl rfl rfl rfl ?_; clear M T; intro gr1_26 wc ac M T
  refine sh_out hK _ _ (MA.mk (fun h => (no_of (by kernel_rfl) h).elim) (M.mask [false, true, true, false] rfl)) ?_; clear hK K
  exact H0 _ _ ⟨xur1_8, sur1_8, hxur1_8, hsur1_8, gr1_26, T, M⟩
 refine gi 70647551 ?_; intro K hK
 refine ow_al M T rfl rfl rfl rfl ?_; clear M T; intro gr1_26 wc ac M T
 refine sh_out hK _ _ (MA.mk (fun _ => M.mask [false, true, true, true] rfl) (M.mask [false, true, true, false] rfl)) ?_; clear hK K
 refine gw 8 70647807 ?_; intro K hK
 refine ow_call (first := []) (cap := []) T rfl rfl rfl rfl evf (.cons (T.ev 19 rfl) (.cons evc (.cons (T.ev 12 rfl) .nil))) Tryd.func39 rfl rfl ?_
 refine Calls.mono (within_pot _ bp 1 (max 1 (lo - a1)) _ (by omega) (by omega) (by omega) (M.nth 3 rfl) hs) ?_
 clear T
 rintro e wc ⟨xur1_8, sur1_8, hxur1_8, hsur1_8, rfl, hgr, hbk⟩
 intro ac T
 replace M := M.callC (cs' := [.int .u64 sur1_8]) (.tail (.tail (.tail .head))) hgr hbk
 clear hgr hbk
 refine sh_out hK _ _ (MA.mk (fun h => (no_of (by kernel_rfl) h).elim) (M.mask [false, true, true, false] rfl)) ?_; clear hK K
 exact H0 _ _ ⟨xur1_8, sur1_8, hxur1_8, hsur1_8, gr1_26, T.pick [1, 0, 2, 3, 4, 5, 6, 7, 8, 9, 10, 11, 12, 13, 14, 15, 16, 17, 18, 19, 20, 21, 22, 23] rfl, M⟩
set_option maxHeartbeats 2000000 in
theorem sheetOf_any (s : Int) (bp : Nat) (side parts : Int)  (w : World) (h1 : 2 ≤ side ∧ side ≤ 12) (h2 : 0 ≤ parts ∧ parts ≤ 5) (hp : Bk w bp #[.int .u64 s]) (hs : u64ok s) :
   Calls Tryd.prog 19 #[.pointer (some ⟨bp, 0, none⟩), .int .i64 side, .int .i64 parts] w (SkOfPost bp side parts w) := by
 refine px_enter (fun b => b = bp) Tryd.func19 rfl 40 rfl [.pointer (some ⟨bp, 0, none⟩), .int .i64 side, .int .i64 parts] rfl rfl (Mem.initEx (p := .cells [.int .u64 s]) hp) ?_
 intro ac wc T M
 refine wp_seq ?_
 refine wp_region_lit ?_
 refine l_w rfl ?_; intro K hK
 refine ow_al M T rfl rfl rfl rfl ?_; clear M T; intro g1 wc ac M T
 refine sh_out hK _ _ ?_; clear hK K
 refine wpList_nil ?_
 refine nm_then ?_
 refine wp_seq ?_
 refine wp_region_lit ?_
 refine lq T (rn_move rfl (T.ev 1 rfl)) ?_; clear T ac; intro ac T
 refine lq T (rn_move rfl (T.ev 3 rfl)) ?_; clear T ac; intro ac T
 refine l_w rfl ?_; intro K hK
 refine ow_call (first := []) (cap := []) T rfl rfl rfl rfl evf (.cons (T.ev 1 rfl) (.cons evc (.cons (T.ev 0 rfl) .nil))) Tryd.func39 rfl rfl ?_
 refine Calls.mono (within_pot _ bp 2 side _ (by omega) (by omega) (by omega) (M.nth 1 rfl) hs) ?_
 clear T
 rintro e wc ⟨xu1, su1, hxu1, hsu1, rfl, hgr, hbk⟩
 intro ac T
 replace M := M.callC (cs' := [.int .u64 su1]) (.tail .head) hgr hbk
 clear hgr hbk
 refine sh_out hK _ _ ?_; clear hK K
 refine lq T (rn_move rfl (T.ev 4 rfl)) ?_; clear T ac; intro ac T
 refine lq T (rn_move rfl (T.ev 6 rfl)) ?_; clear T ac; intro ac T
 refine l_w rfl ?_; intro K hK
 refine ow_call (first := []) (cap := []) T rfl rfl rfl rfl evf (.cons (T.ev 1 rfl) (.cons evc (.cons (T.ev 0 rfl) .nil))) Tryd.func39 rfl rfl ?_
 refine Calls.mono (within_pot _ bp 2 side _ (by omega) (by omega) (by omega) (M.nth 1 rfl) hsu1) ?_
 clear T
 rintro e wc ⟨xu2, su2, hxu2, hsu2, rfl, hgr, hbk⟩
 intro ac T
 replace M := M.callC (cs' := [.int .u64 su2]) (.tail .head) hgr hbk
 clear hgr hbk
 refine sh_out hK _ _ ?_; clear hK K
 refine lq T (rn_move rfl (T.ev 7 rfl)) ?_; clear T ac; intro ac T
 refine lq T (rn_move rfl (T.ev 8 rfl)) ?_; clear T ac; intro ac T
 refine l_w rfl ?_; intro K hK
 refine ow_call (first := []) (cap := []) T rfl rfl rfl rfl evf (.cons (T.ev 0 rfl) (.cons evc .nil)) Tryd.func21 rfl rfl ?_
 refine Calls.mono (upto_any _ bp 1 _ (by omega) (by omega) (M.nth 1 rfl) hsu2) ?_
 clear T
 rintro e wc ⟨xu3, su3, hxu3, hsu3, rfl, hgr, hbk⟩
 intro ac T
 replace M := M.callC (cs' := [.int .u64 su3]) (.tail .head) hgr hbk
 clear hgr hbk
 refine sh_out hK _ _ ?_; clear hK K
 refine l_w rfl ?_; intro K hK
 refine ow_call (first := []) (cap := []) T rfl rfl rfl rfl evf (.cons (T.ev 2 rfl) (.cons (T.ev 0 rfl) (.cons evc (.cons evc (.cons evc .nil))))) Tryd.func64 rfl rfl ?_
 refine Calls.mono (near_pot _ bp xu3 0 2 1 _ (by omega) (by omega) (by omega) (by omega) (by omega) (by omega) (M.nth 1 rfl) hsu3) ?_
 clear T
 rintro e wc ⟨xu4, yu4, su4, hxu4, hsu4, rfl, hgr, hbk⟩
 intro ac T
 replace M := M.callC (cs' := [.int .u64 su4]) (.tail .head) hgr hbk
 clear hgr hbk
 refine sh_out hK _ _ ?_; clear hK K
 refine lq T (rn_move rfl (T.ev 11 rfl)) ?_; clear T ac; intro ac T
 refine lq T (rn_move rfl (T.ev 12 rfl)) ?_; clear T ac; intro ac T
 refine l_w rfl ?_; intro K hK
 refine ow_call (first := []) (cap := []) T rfl rfl rfl rfl evf (.cons (T.ev 0 rfl) (.cons evc .nil)) Tryd.func21 rfl rfl ?_
 refine Calls.mono (upto_any _ bp 1 _ (by omega) (by omega) (M.nth 1 rfl) hsu4) ?_
 clear T
 rintro e wc ⟨xu5, su5, hxu5, hsu5, rfl, hgr, hbk⟩
 intro ac T
 replace M := M.callC (cs' := [.int .u64 su5]) (.tail .head) hgr hbk
 clear hgr hbk
 refine sh_out hK _ _ ?_; clear hK K
 refine l_w rfl ?_; intro K hK
 refine ow_call (first := []) (cap := []) T rfl rfl rfl rfl evf (.cons (T.ev 2 rfl) (.cons (T.ev 0 rfl) (.cons evc (.cons evc (.cons evc .nil))))) Tryd.func64 rfl rfl ?_
 refine Calls.mono (near_pot _ bp xu5 0 2 1 _ (by omega) (by omega) (by omega) (by omega) (by omega) (by omega) (M.nth 1 rfl) hsu5) ?_
 clear T
 rintro e wc ⟨xu6, yu6, su6, hxu6, hsu6, rfl, hgr, hbk⟩
 intro ac T
 replace M := M.callC (cs' := [.int .u64 su6]) (.tail .head) hgr hbk
 clear hgr hbk
 refine sh_out hK _ _ ?_; clear hK K
 refine lq (v := (.agg #[.int .i64 xu1, .int .i64 xu2, .int .i64 xu4, .int .i64 yu4, .int .i64 xu6, .int .i64 yu6, .slice none 0 0])) T (rn_build rfl (.cons (T.ev 11 rfl) (.cons (T.ev 8 rfl) (.cons (T.ev 4 rfl) (.cons (T.ev 0 rfl) .nil)))) (fun _ => by kernel_rfl)) ?_; clear T ac; intro ac T
 refine l_w rfl ?_; intro K hK
 refine ow_al M T rfl rfl rfl rfl ?_; clear M T; intro g2 wc ac M T
 refine sh_out hK _ _ ?_; clear hK K
 refine l_w rfl ?_; intro K hK
 refine ow_stO M T rfl rfl (T.ev 0 rfl) (T.ev 1 rfl) rfl .head rfl (by simp) rfl (by kernel_rfl) ?_; clear M T; intro wc ac M T
 refine sh_out hK _ _ ?_; clear hK K
 refine wpList_nil ?_
 replace T := T.pick [0, 16, 17, 19] rfl
 refine nm_then ?_
 refine wp_seq ?_
 refine wp_seq ?_
 refine wp_region_lit ?_
 refine lq T (rn_move rfl (T.ev 2 rfl)) ?_; clear T ac; intro ac T
 refine lq T (rn_move rfl (T.ev 4 rfl)) ?_; clear T ac; intro ac T
 refine l_w rfl ?_; intro K hK
 refine ow_call (first := []) (cap := []) T rfl rfl rfl rfl evf (.cons (T.ev 1 rfl) (.cons (T.ev 0 rfl) .nil)) Tryd.func21 rfl rfl ?_
 refine Calls.mono (upto_any _ bp parts _ (by omega) (by omega) (M.nth 2 rfl) hsu6) ?_
 clear T
 rintro e wc ⟨xu7, su7, hxu7, hsu7, rfl, hgr, hbk⟩
 intro ac T
 replace M := M.callC (cs' := [.int .u64 su7]) (.tail (.tail .head)) hgr hbk
 clear hgr hbk
 refine sh_out hK _ _ ?_; clear hK K
 refine lq T (rn_assign rfl (T.ev 0 rfl)) ?_; clear T ac; intro ac T
 refine wpList_nil ?_
 replace T := T.pick [0, 4, 5, 6] rfl
 refine nm_then ?_
 refine wp_block ?_
 refine wp_loop_n (fun mz ac wc => ∃ (i : Int) (OL : List Pt) (A3 : Option Addr) (c3 : Nat) (s : Int) (Io : List (Nat × BA)), mz = i.toNat ∧ (0 ≤ i) ∧ ((OL.length : Int) + i ≤ parts) ∧ (∀ q ∈ OL, q.good) ∧ (u64ok s) ∧ (Sl 63 4 (.slice A3 OL.length c3) OL.length (pc OL) Io) ∧ Tm ac 40 [(0, .pointer (some ⟨bp, 0, none⟩)), (6, .pointer (some ⟨g1, 0, none⟩)), (7, .pointer (some ⟨g2, 0, none⟩)), (8, .int .i64 i)] ∧ Mem w (fun b => b = bp) wc ((g2, .cells [.int .i64 xu1, .int .i64 xu2, .int .i64 xu4, .int .i64 yu4, .int .i64 xu6, .int .i64 yu6, .slice A3 OL.length c3]) :: (g1, .cells [.int .i64 0, .int .i64 0, .int .i64 0, .int .i64 0, .int .i64 0, .int .i64 0, .slice none 0 0]) :: (bp, .cells [.int .u64 s]) :: Io)) ?_ ?_
 ·exact ⟨_, _, [], none, 0, _, [], rfl, (by omega), (by simp; omega), (fun q h => by cases h), hsu7, (Sl.nil _ _), T.pick [3, 2, 1, 0] rfl, M.mask [true, true, true] rfl⟩
 clear T M
 rintro mz ac wc ⟨i, OL, A3, c3, s, Io, hmm1, hi, hol, hgO, hs, hsl, T, M⟩
 refine wp_seq ?_
 refine wp_seq ?_
 refine wp_region_lit ?_
 refine lq T (rn_move rfl (T.ev 3 rfl)) ?_; clear T ac; intro ac T
 refine lq T (rn_gtr rfl (T.ev 0 rfl) evc) ?_; clear T ac; intro ac T
 refine wpList_nil ?_
 replace T := T.pick [0, 2, 3, 4, 5] rfl
 refine nm_then ?_
 refine wp_if (T.ev 0 rfl) ?_ ?_
 ·intro h1
  refine wp_skip ?_
  refine nm_then ?_
  refine wp_seq ?_
  refine wp_block ?_
  refine g_start2 M (M.perm [1] rfl rfl) 9 (by kernel_rfl) rfl (by kernel_rfl) ?_
  clear M; intro wc M
  refine g_addG 4 M ?_
  refine g_addG 8 (M.perm [0, 1] rfl rfl) ?_
  refine gq (v := (.pointer (some ⟨g2, 6, none⟩))) T 0 1 rfl (fun _ _ _ _ _ => (rn_fieldAddr (off := 6) rfl (T.ev 3 rfl) (fun _ _ _ => by kernel_rfl))) ?_; clear T ac; intro ac T
  refine gq T 1 3 rfl (fun B w' hD hl hS => (rn_one (Mem.nth (show Mem w (fun b => b = bp) w' _ from ((MA.lft hS) (hD.wait (i := 1) (m := 8) (by kernel_rfl) hl))) 0 rfl) rfl (T.ev 0 rfl) rfl)) ?_; clear T ac; intro ac T
  refine gq T 2 7 rfl (fun _ _ _ _ _ => (rn_move rfl (T.ev 3 rfl))) ?_; clear T ac; intro ac T
  refine gq T 3 15 rfl (fun B w' hD hl hS => (rn_rowO (Mem.nth (show Mem w (fun b => b = bp) w' _ from ((MA.lft hS) (hD.wait (i := 3) (m := 8) (by kernel_rfl) hl))) 0 rfl) rfl (T.ev 6 rfl) rfl)) ?_; clear T ac; intro ac T
  refine gw 4 31 ?_; intro K hK
  refine ow_call (first := []) (cap := []) T rfl rfl rfl rfl evf (.cons (T.ev 1 rfl) (.cons (T.ev 0 rfl) .nil)) Tryd.func40 rfl rfl ?_
  refine Calls.mono (partOf_any _ bp xu1 xu2 xu4 yu4 xu6 yu6 A3 OL.length c3 _ (by omega) (by omega) (by omega) (by omega) (M.nth 2 rfl) hs) ?_
  clear T
  rintro e wc ⟨pu8, su8, hpu8, hsu8, rfl, hgr, hbk⟩
  intro ac T
  replace M := M.callC (cs' := [.int .u64 su8]) (.tail (.tail .head)) hgr hbk
  clear hgr hbk
  refine sh_out hK _ _ (MA.mk (fun _ => M.perm [0, 1] rfl rfl) (MA.mk (fun h => (no_of (by kernel_rfl) h).elim) (M.perm [1] rfl rfl))) ?_; clear hK K
  refine gw 5 63 ?_; intro K hK
  refine ow_bs (e := 63) [.int .i64 pu8.l, .int .i64 pu8.w, .bool pu8.gr, .int .i64 pu8.pa] M T rfl rfl rfl rfl (.cons (T.ev 0 rfl) .nil) (fun _ => by kernel_rfl) ?_; clear M T; intro g3 wc ac M T
  refine sh_out hK _ _ (MA.mk (fun _ => M.perm [1, 2] rfl rfl) (MA.mk (fun h => (no_of (by kernel_rfl) h).elim) (M.perm [2] rfl rfl))) ?_; clear hK K
  refine gw 6 127 ?_; intro K hK
  refine ow_app ([(g3, .cells [.int .i64 pu8.l, .int .i64 pu8.w, .bool pu8.gr, .int .i64 pu8.pa]), (g2, .cells [.int .i64 xu1, .int .i64 xu2, .int .i64 xu4, .int .i64 yu4, .int .i64 xu6, .int .i64 yu6, .slice A3 OL.length c3]), (g1, .cells [.int .i64 0, .int .i64 0, .int .i64 0, .int .i64 0, .int .i64 0, .int .i64 0, .slice none 0 0]), (bp, .cells [.int .u64 su8])]) Tryd.info63 hsl M (by first | rfl | simp) T rfl rfl rfl rfl Tryd.underlying24 rfl rfl rfl (by omega) (T.ev 4 rfl) (T.ev 0 rfl) (nthE_mem (i := 0) rfl) rfl rfl ?_; clear M T; intro ga1 cga1 wc ac M T
  refine sh_out hK _ _ (MA.mk (fun _ => M.mask [false, false, true, true, false] rfl) (MA.mk (fun h => (no_of (by kernel_rfl) h).elim) (M.mask [false, false, false, true, false] rfl))) ?_; clear hK K
  have e9 : OL.length + 1 = (OL ++ [pu8]).length := by simp
  have e8 : ((pc OL) ++ [.int .i64 pu8.l, .int .i64 pu8.w, .bool pu8.gr, .int .i64 pu8.pa]) = pc (OL ++ [pu8]) := by rw [← pc_snoc]
  rw [e9, e8] at M
  rw [e9] at T
  clear e9 e8
  refine gq (v := (.pointer (some ⟨g2, 6, none⟩))) T 7 255 rfl (fun _ _ _ _ _ => (rn_fieldAddr (off := 6) rfl (T.ev 10 rfl) (fun _ _ _ => by kernel_rfl))) ?_; clear T ac; intro ac T
  refine gw 8 511 ?_; intro K hK
  refine ow_stO M T rfl rfl (T.ev 0 rfl) (T.ev 1 rfl) rfl (.tail (.tail .head)) rfl (by simp) rfl (by kernel_rfl) ?_; clear M T; intro wc ac M T
  refine sh_out hK _ _ (MA.mk (fun h => (no_of (by kernel_rfl) h).elim) (MA.mk (fun h => (no_of (by kernel_rfl) h).elim) (M.mask [false, false, false, true, false] rfl))) ?_; clear hK K
  refine g_done (by kernel_rfl) ?_
  replace T := T.pick [9, 10, 11, 12] rfl
  replace M := M.mask [true, false, true, true, true] rfl
  refine nm_blk ?_
  refine nm_then ?_
  refine wp_region_lit ?_
  refine lq T (rn_move rfl (T.ev 3 rfl)) ?_; clear T ac; intro ac T
  refine lq T (rn_sub rfl (T.ev 0 rfl) evc (by omega)) ?_; clear T ac; intro ac T
  refine l_q (v := (.int .i64 (i - 1))) (T.pick [0, 1, 2, 3, 4] rfl) rfl rfl rfl rfl (rn_assign rfl (T.ev 0 rfl)) ?_; clear T ac; intro ac T
  refine wpList_nil ?_
  replace T := T.pick [0, 3, 4, 5] rfl
  refine nm_then ?_
  exact ⟨_, by omega, (i - 1), (OL ++ [pu8]), _, cga1, su8, [(ga1, .row 63 4 (OL ++ [pu8]).length (pc (OL ++ [pu8])) cga1)], rfl, (by omega), (by simp only [List.length_append, List.length_cons, List.length_nil]; omega), (fun q hq => by rcases List.mem_append.1 hq with h9 | h9; exact hgO q h9; rw [List.mem_singleton.1 h9]; exact hpu8), hsu8, (Sl.row _ _ _ _ _ _), T.pick [1, 2, 3, 0] rfl, M.perm [1, 2, 3, 0] rfl rfl⟩
 intro h1
 refine wp_exit ?_
 refine ex_then ?_
 refine ex_then ?_
 refine ex_hit ?_
 refine nm_then ?_
 refine wp_seq ?_
 refine wp_region_lit ?_
 refine lq T (rn_rowO (Mem.nth M 0 rfl) rfl (T.ev 3 rfl) rfl) ?_; clear T ac; intro ac T
 refine l_w rfl ?_; intro K hK
 refine ow_stO M T rfl rfl (T.ev 3 rfl) (T.ev 0 rfl) rfl (.tail .head) rfl (by simp) rfl (by kernel_rfl) ?_; clear M T; intro wc ac M T
 refine sh_out hK _ _ ?_; clear hK K
 refine wpList_nil ?_
 replace T := T.pick [3] rfl
 replace M := M.mask [false, true, true] rfl
 refine nm_then ?_
 refine wp_ret ?_
 refine rt_c M T rfl (T.ev 0 rfl) (nthE_mem (i := 0) rfl) rfl ?_
 obtain ⟨b9, o9, h9⟩ := hsl.spV (pc_length _)
 have hcap := hsl.capLe M (.cons _ (.cons _ (List.Sublist.refl _)))
 refine ⟨⟨xu1, xu2, xu4, yu4, xu6, yu6, OL⟩, A3, c3, _, Io, rfl, ⟨by dsimp only; omega, by dsimp only; omega, by dsimp only; omega, by dsimp only; omega, by dsimp only; omega, hgO⟩, ⟨by dsimp only; omega, by dsimp only; omega⟩, hs, hcap, ⟨b9, o9, h9⟩, M.mask [false, true] rfl⟩
end Go.Proofs.YtehpcclfgjccbaaDoor
end

section
/-
 Sheets, in plain Lean: what the laws say of the fewest sheets.
-/
namespace Go.Proofs.YtehpcclfgjccbaaDoor
set_option linter.unusedSimpArgs false
set_option linter.unusedVariables false
theorem shE_cases {s : Sk} (hg : s.good) (su : Bool) : shE s su = 0 ∨ shE s su = 11 := by
 unfold shE
 rw [if_neg (by rw [skErr_iff.2 hg]; decide)]
 split
 · exact .inl rfl
 · exact .inr rfl
theorem shE_some {s : Sk} {su : Bool} (hg : s.good) : shE s su = 0 ↔ ∃ l m, shF s su = some (l, m) ∧ shN s su = m ∧ shL s su = l := by
 have h0 := skErr_iff.2 hg
 constructor
 · intro h
   cases hf : shF s su with
   | none =>
     unfold shE at h
     rw [if_neg (by rw [h0]; decide), hf] at h
     simp at h
   | some y =>
     refine ⟨y.1, y.2, rfl, ?_, ?_⟩
     · unfold shN; rw [if_pos h, hf]; rfl
     · unfold shL; rw [if_pos h, hf]; rfl
 · rintro ⟨l, m, hf, -⟩
   unfold shE
   rw [if_neg (by rw [h0]; decide), hf]
   rfl
theorem shE_zero {s : Sk} {su : Bool} (hg : s.good) {n : Nat} (h : ColP (Fit (cutA s su) (cutC s su)) s.lo s.wi s.ps n) : shE s su = 0 ∧ shN s su ≤ n := by
 obtain ⟨l, m, hf, hm⟩ := shF_some h
 have h0 : shE s su = 0 := by
   unfold shE
   rw [if_neg (by rw [skErr_iff.2 hg]; decide), hf]
   rfl
 obtain ⟨l', m', h1, h2, -⟩ := (shE_some hg).1 h0
 rw [hf] at h1
 injection h1 with h1
 injection h1 with _ h1
 exact ⟨h0, by omega⟩
theorem shN_col {s : Sk} {su : Bool} (hg : s.good) (h : shE s su = 0) : ColP (Fit (cutA s su) (cutC s su)) s.lo s.wi s.ps (shN s su) ∧ ∀ n, ColP (Fit (cutA s su) (cutC s su)) s.lo s.wi s.ps n → shN s su ≤ n := by
 obtain ⟨l, m, hf, hm, -⟩ := (shE_some hg).1 h
 rw [hm]
 exact shF_col.2 l m hf
theorem sh_mono {s x : Sk} {su sx : Bool} (hg : s.good) (hx : x.good) (h : ∀ n, ColP (Fit (cutA s su) (cutC s su)) s.lo s.wi s.ps n → ColP (Fit (cutA x sx) (cutC x sx)) x.lo x.wi x.ps n) (h0 : shE s su = 0) : shE x sx = 0 ∧ shN x sx ≤ shN s su :=
 shE_zero hx (h _ (shN_col hg h0).1)
end Go.Proofs.YtehpcclfgjccbaaDoor
end

section
/-
 Sheets, in plain Lean: room for more, what is easier, another order, turned stocks, bounds.
-/
namespace Go.Proofs.YtehpcclfgjccbaaDoor
set_option linter.unusedSimpArgs false
set_option linter.unusedVariables false
def skA (s : Sk) (p : Pt) (k : Nat) : Sk := skP s (s.ps ++ List.replicate k p)
def easier (p q : Pt) : Prop := q.l = p.l ∧ q.w = p.w ∧ (q.gr = p.gr ∨ q.gr = false) ∧ (q.pa = p.pa ∨ q.pa = 0)
theorem easier.rfl' (p : Pt) : easier p p := ⟨rfl, rfl, .inl rfl, .inl rfl⟩
theorem easier.good {p q : Pt} (h : easier p q) (hp : p.good) : q.good := by
 obtain ⟨h1, h2, -, h4⟩ := h
 obtain ⟨g1, g2, g3⟩ := hp
 exact ⟨by omega, by omega, by omega⟩
def easierL (ps qs : List Pt) : Prop := qs.length = ps.length ∧ ∀ (i : Nat) (p q : Pt), ps[i]? = some p → qs[i]? = some q → easier p q
theorem easierL.refl (ps : List Pt) : easierL ps ps := ⟨rfl, fun i p q h1 h2 => by rw [h1] at h2; injection h2 with h2; subst h2; exact easier.rfl' p⟩
theorem easierL.set {ps qs : List Pt} (h : easierL ps qs) {i : Nat} {q q' : Pt} (hq : qs[i]? = some q) (hs : ∀ p, easier p q → easier p q') : easierL ps (qs.set i q') :=
 ⟨by rw [List.length_set]; exact h.1, fun j p r h1 h2 => by
   by_cases hj : i = j
   · subst hj
     rw [List.getElem?_set_self (List.getElem?_eq_some_iff.1 hq).1] at h2
     injection h2 with h2
     subst h2
     exact hs p (h.2 i p q h1 hq)
   · rw [List.getElem?_set_ne hj] at h2
     exact h.2 j p r h1 h2⟩
theorem easierL.good {ps qs : List Pt} (h : easierL ps qs) (hg : ∀ p ∈ ps, p.good) : ∀ q ∈ qs, q.good := fun q hq => by
 obtain ⟨i, hi, rfl⟩ := List.mem_iff_getElem.1 hq
 have hi2 : i < ps.length := by have := h.1; omega
 exact (h.2 i _ _ (List.getElem?_eq_getElem hi2) (List.getElem?_eq_getElem hi)).good (hg _ (List.getElem_mem hi2))
theorem sh_eq {s x : Sk} {su sx : Bool} (hg : s.good) (hx : x.good) (h : ∀ n, ColP (Fit (cutA s su) (cutC s su)) s.lo s.wi s.ps n ↔ ColP (Fit (cutA x sx) (cutC x sx)) x.lo x.wi x.ps n) : shE s su = shE x sx ∧ shN s su = shN x sx := by
 rcases shE_cases hg su with h1 | h1
 · obtain ⟨h2, h3⟩ := sh_mono hg hx (fun n => (h n).1) h1
   obtain ⟨h4, h5⟩ := sh_mono hx hg (fun n => (h n).2) h2
   exact ⟨by omega, by omega⟩
 · rcases shE_cases hx sx with h2 | h2
   · obtain ⟨h4, h5⟩ := sh_mono hx hg (fun n => (h n).2) h2
     omega
   · refine ⟨by omega, ?_⟩
     unfold shN
     rw [if_neg (by omega), if_neg (by omega)]
theorem perm_law {s x : Sk} {su : Bool} (hg : s.good) (hx : x.good) (h1 : x.lo = s.lo) (h2 : x.wi = s.wi) (ha : cutA x su = cutA s su) (hc : cutC x su = cutC s su) (hp : x.ps.Perm s.ps) : shE s su = shE x su ∧ shN s su = shN x su :=
 sh_eq hg hx fun n => by
   rw [h1, h2, ha, hc]
   exact ⟨fun h => h.perm hp.symm, fun h => h.perm hp⟩
theorem canS_perm {s x : Sk} {su : Bool} {L K : List Pt} (h1 : x.lo = s.lo) (h2 : x.wi = s.wi) (ha : cutA x su = cutA s su) (hc : cutC x su = cutC s su) (hp : L.Perm K) : canS s su L = canS x su K := by
 rw [Bool.eq_iff_iff, canS_iff, canS_iff, h1, h2, ha, hc]
 exact ⟨fun h => h.perm hp.symm, fun h => h.perm hp⟩
def turnP (p : Pt) : Pt := ⟨p.w, p.l, p.gr, p.pa⟩
def trnS (s : Sk) : Sk := ⟨s.wi, s.lo, s.c0, s.c1, s.a0, s.a1, s.ps.map turnP⟩
end Go.Proofs.YtehpcclfgjccbaaDoor
end

section
/-
 sheet's laws, plain: blanks in another order.
-/
namespace Go.Proofs.YtehpcclfgjccbaaDoor
set_option linter.unusedSimpArgs false
set_option linter.unusedVariables false
open Go.RowKit
theorem idx_perm : ∀ {n : Nat} {o : List Int}, Idx n o → o.length = n → o.Perm ((List.range n).map fun k : Nat => (k : Int))
 | 0, o, _, hl => by rw [List.eq_nil_of_length_eq_zero hl]; exact .refl _
 | n + 1, o, h, hl => by
   have hm : ((n : Nat) : Int) ∈ o := by
     apply Classical.byContradiction
     intro hn
     have := nodup_short (n := n) (g := o) (fun x hx => by
       have h1 := h.1 x hx
       have h2 : x ≠ (n : Int) := fun e => hn (e ▸ hx)
       omega) h.2
     omega
   have he : Idx n (o.erase (n : Int)) := ⟨fun x hx => by
     have h1 := h.2.mem_erase_iff.1 hx
     have := h.1 x h1.2
     omega, h.2.erase _⟩
   have hl' : (o.erase (n : Int)).length = n := by rw [List.length_erase_of_mem hm]; omega
   refine (List.perm_cons_erase hm).trans ?_
   rw [List.range_succ, List.map_append]
   exact ((idx_perm he hl').cons _).trans (List.perm_append_singleton _ _).symm
def OrdI (o : List Int) (ps L : List Pt) (i : Nat) : Prop := ∀ (j : Nat) (x : Int), j < i → o[j]? = some x → L[x.toNat]? = ps[j]?
theorem OrdI.zero (o : List Int) (ps L : List Pt) : OrdI o ps L 0 := fun j x h => by omega
theorem OrdI.step {n : Int} {o : List Int} {ps L : List Pt} {i m : Nat} {v : Int} {p : Pt} (h : OrdI o ps L i) (hi : Idx n o) (hv : o[i]? = some v) (hm : v = (m : Int)) (hml : m < L.length) (hp : ps[i]? = some p) : OrdI o ps (L.set m p) (i + 1) := fun j x hj hx => by
 obtain ⟨a1, a2⟩ := List.getElem?_eq_some_iff.1 hv
 obtain ⟨b1, b2⟩ := List.getElem?_eq_some_iff.1 hx
 by_cases e : j = i
 · subst e
   rw [hv] at hx
   injection hx with hx
   subst hx
   rw [hm, Int.toNat_natCast, List.getElem?_set_self hml, hp]
 · have hne : x ≠ v := fun e2 => e (nodup_inj hi.2 b1 a1 (by rw [a2, b2, e2]))
   have hx0 := hi.1 x (List.mem_of_getElem? hx)
   rw [List.getElem?_set_ne (by omega)]
   exact h j x (by omega) hx
theorem ord_perm {o : List Int} {ps L : List Pt} {i : Nat} (hi : Idx ps.length o) (hl : o.length = ps.length) (hL : L.length = ps.length) (h : OrdI o ps L i) (hle : ps.length ≤ i) : L.Perm ps := by
 have e1 : o.map (fun x => L.getD x.toNat default) = ps := by
   apply List.ext_getElem?
   intro j
   rw [List.getElem?_map]
   rcases Nat.lt_or_ge j ps.length with hj | hj
   · obtain ⟨x, hx⟩ : ∃ x, o[j]? = some x := ⟨_, List.getElem?_eq_getElem (by omega)⟩
     have h1 := h j x (by omega) hx
     rw [hx, Option.map_some, List.getD_eq_getElem?_getD, h1, List.getElem?_eq_getElem hj]
     rfl
   · rw [List.getElem?_eq_none (by omega), List.getElem?_eq_none hj]
     rfl
 have e2 : ((List.range ps.length).map fun k : Nat => (k : Int)).map (fun x => L.getD x.toNat default) = L := by
   apply List.ext_getElem?
   intro j
   rw [List.map_map, List.getElem?_map]
   rcases Nat.lt_or_ge j ps.length with hj | hj
   · rw [List.getElem?_range hj, Option.map_some]
     show some (L.getD j default) = _
     rw [List.getD_eq_getElem?_getD, List.getElem?_eq_getElem (by omega)]
     rfl
   · rw [List.getElem?_eq_none (by rw [List.length_range]; exact hj), List.getElem?_eq_none (by omega)]
     rfl
 exact (List.Perm.of_eq e2.symm).trans ((((idx_perm hi hl).map _).symm).trans (List.Perm.of_eq e1))
def othL (o g : List Int) : List Int := (g.map fun i => o.getD i.toNat 0).reverse
theorem oth_step {o g : List Int} {z v8 v7 : Int} {k m : Nat} (hz : z = (k : Int)) (hk : g[k]? = some v8) (hm : v8 = (m : Int)) (ho : o[m]? = some v7) : othL o (g.drop (z + 1).toNat) ++ [v7] = othL o (g.drop (z - 1 + 1).toNat) := by
 obtain ⟨hl, he⟩ := List.getElem?_eq_some_iff.1 hk
 rw [show (z - 1 + 1).toNat = k by omega, show (z + 1).toNat = k + 1 by omega, List.drop_eq_getElem_cons hl, he]
 unfold othL
 rw [List.map_cons, List.reverse_cons, hm, Int.toNat_natCast, List.getD_eq_getElem?_getD, ho]
 rfl
theorem oth_get {n : Nat} {o : List Int} (hl : o.length = n) {x : Int} (hx : 0 ≤ x ∧ x < (n : Int)) : ∃ v, o[x.toNat]? = some v ∧ o.getD x.toNat 0 = v := by
 have h : x.toNat < o.length := by omega
 exact ⟨o[x.toNat], List.getElem?_eq_getElem h, by rw [List.getD_eq_getElem?_getD, List.getElem?_eq_getElem h]; rfl⟩
theorem oth_idx {n : Nat} {o g : List Int} (hi : Idx n o) (hl : o.length = n) (hg : Idx n g) : Idx n (othL o g) := by
 refine ⟨fun x hx => ?_, ?_⟩
 · unfold othL at hx
   rw [List.mem_reverse] at hx
   obtain ⟨y, hy, rfl⟩ := List.mem_map.1 hx
   obtain ⟨v, h1, h2⟩ := oth_get hl (hg.1 y hy)
   rw [h2]
   exact hi.1 v (List.mem_of_getElem? h1)
 · unfold othL
   refine List.pairwise_reverse.2 (List.pairwise_map.2 (hg.2.imp_of_mem fun {a b} ha hb hne => ?_))
   obtain ⟨v, h1, h2⟩ := oth_get hl (hg.1 a ha)
   obtain ⟨u, h3, h4⟩ := oth_get hl (hg.1 b hb)
   rw [h2, h4]
   intro e
   subst e
   obtain ⟨p1, p2⟩ := List.getElem?_eq_some_iff.1 h1
   obtain ⟨q1, q2⟩ := List.getElem?_eq_some_iff.1 h3
   have := nodup_inj hi.2 p1 q1 (by rw [p2, q2])
   have := hg.1 a ha
   have := hg.1 b hb
   exact hne (by omega)
theorem ord_fit_law {s x : Sk} {o g : List Int} {i : Nat} (hg : s.good) (hx : x.good) (h1 : x.lo = s.lo) (h2 : x.wi = s.wi) (ha : ∀ su, cutA x su = cutA s su) (hc : ∀ su, cutC x su = cutC s su) (hi : Idx s.ps.length o) (hl : o.length = s.ps.length) (hL : x.ps.length = s.ps.length) (h : OrdI o s.ps x.ps i) (hle : s.ps.length ≤ i) (hgi : Idx s.ps.length g) : lstE s g = 0 ∧ lstE x (othL o g) = 0 ∧ fitV s g = fitV x (othL o g) := by
 have hoi := oth_idx hi hl hgi
 have k1 : lstE s g = 0 := lstE_iff.2 ⟨hg, hgi.1, hgi.2⟩
 have k2 : lstE x (othL o g) = 0 := lstE_iff.2 ⟨hx, by rw [hL]; exact hoi.1, hoi.2⟩
 have e : gP x (othL o g) = (gP s g).reverse := by
   unfold gP othL
   rw [List.map_reverse, List.map_map]
   congr 1
   apply List.map_congr_left
   intro y hy
   have hy0 := hgi.1 y hy
   obtain ⟨v, h1, h2⟩ := oth_get hl hy0
   show x.ps.getD (o.getD y.toNat 0).toNat default = _
   rw [h2, List.getD_eq_getElem?_getD, List.getD_eq_getElem?_getD, h y.toNat v (by omega) h1]
 refine ⟨k1, k2, ?_⟩
 have hp : (gP s g).Perm (gP x (othL o g)) := by rw [e]; exact (List.reverse_perm _).symm
 unfold fitV
 rw [if_neg (show ¬ lstE s g ≠ 0 by omega), if_neg (show ¬ lstE x (othL o g) ≠ 0 by omega), canS_perm h1 h2 (ha true) (hc true) hp, canS_perm h1 h2 (ha false) (hc false) hp]
end Go.Proofs.YtehpcclfgjccbaaDoor
end

section
/-
 kit: copies of stocks, stocks that are equal.
-/
namespace Go.Proofs.YtehpcclfgjccbaaDoor
set_option linter.unusedSimpArgs false
set_option linter.unusedVariables false
open Go.RowKit
def CopySkPost (s : Sk) (w : World) (e : Ending) (w' : World) : Prop := ∃ A c I, e = .returned (.agg #[.int .i64 s.lo, .int .i64 s.wi, .int .i64 s.a0, .int .i64 s.a1, .int .i64 s.c0, .int .i64 s.c1, .slice A s.ps.length c]) ∧ Cl 63 4 A s.ps.length c (pc s.ps) I ∧ Mem w noEx w' I
def eqF (s t : Sk) : Prop := s.lo = t.lo ∧ s.wi = t.wi ∧ (s.a0 = t.a0 ∧ s.a1 = t.a1) ∧ (s.c0 = t.c0 ∧ s.c1 = t.c1) ∧ s.ps.length = t.ps.length
theorem copySheet_any (s : Sk) (A : Option Addr) (d : Nat)  (w : World) (hA : Rd w w.heap.size 4 A s.ps.length (pc s.ps)) (nA : s.ps.length ≤ 1000000)  :
   Calls Tryd.prog 25 #[.agg #[.int .i64 s.lo, .int .i64 s.wi, .int .i64 s.a0, .int .i64 s.a1, .int .i64 s.c0, .int .i64 s.c1, .slice A s.ps.length d]] w (CopySkPost s w) := by
 obtain ⟨bA, oA, SA⟩ := Sp.old hA
 refine px_enter noEx Tryd.func25 rfl 9 rfl [.agg #[.int .i64 s.lo, .int .i64 s.wi, .int .i64 s.a0, .int .i64 s.a1, .int .i64 s.c0, .int .i64 s.c1, .slice A s.ps.length d]] rfl rfl (Mem.init w _) ?_
 intro ac wc T M
 refine wp_seq ?_
 refine wp_region_lit ?_
 refine l_w rfl ?_; intro K hK
 refine ow_bx M T rfl rfl rfl rfl (T.ev 0 rfl) rfl ?_; clear M T; intro g1 wc ac M T
 refine sh_out hK _ _ ?_; clear hK K
 refine l_w rfl ?_; intro K hK
 refine ow_al M T rfl rfl rfl rfl ?_; clear M T; intro g2 wc ac M T
 refine sh_out hK _ _ ?_; clear hK K
 refine wpList_nil ?_
 replace T := T.pick [0, 1] rfl
 refine nm_then ?_
 refine wp_seq ?_
 refine wp_region_lit ?_
 refine l_w rfl ?_; intro K hK
 refine ow_bs0 (e := 63) M T rfl rfl rfl rfl (fun _ => by kernel_rfl) ?_; clear M T; intro g3 wc ac M T
 refine sh_out hK _ _ ?_; clear hK K
 refine lq (v := (.pointer (some ⟨g1, 6, none⟩))) T (rn_fieldAddr (off := 6) rfl (T.ev 2 rfl) (fun _ _ _ => by kernel_rfl)) ?_; clear T ac; intro ac T
 refine lq T (rn_one (Mem.nth M 2 rfl) rfl (T.ev 0 rfl) rfl) ?_; clear T ac; intro ac T
 refine l_w rfl ?_; intro K hK
 refine ow_appS Tryd.info63 M T rfl rfl rfl rfl (fun g w => Tryd.append0_24 _ _ g _ w) Tryd.underlying24 rfl rfl rfl (by omega) (T.ev 2 rfl) (T.ev 0 rfl) (SA.rd M (List.nil_sublist _)) (pc_one _) ?_; clear M T; intro Augo1 cugo1 Iugo1 wc ac hSmgo1 M T
 replace M : Mem w noEx wc ((g2, .cells [.int .i64 0, .int .i64 0, .int .i64 0, .int .i64 0, .int .i64 0, .int .i64 0, .slice none 0 0]) :: (g1, .cells [.int .i64 s.lo, .int .i64 s.wi, .int .i64 s.a0, .int .i64 s.a1, .int .i64 s.c0, .int .i64 s.c1, .slice A s.ps.length d]) :: Iugo1) := M.swapI
 refine sh_out hK _ _ ?_; clear hK K
 refine lq (v := (.pointer (some ⟨g1, 6, none⟩))) T (rn_fieldAddr (off := 6) rfl (T.ev 5 rfl) (fun _ _ _ => by kernel_rfl)) ?_; clear T ac; intro ac T
 refine l_w rfl ?_; intro K hK
 refine ow_stO M T rfl rfl (T.ev 0 rfl) (T.ev 1 rfl) rfl (.tail .head) rfl (by simp) rfl (by kernel_rfl) ?_; clear M T; intro wc ac M T
 refine sh_out hK _ _ ?_; clear hK K
 refine wpList_nil ?_
 replace T := T.pick [5, 6] rfl
 refine nm_then ?_
 refine wp_seq ?_
 refine wp_region_lit ?_
 refine lq T (rn_rowO (Mem.nth M 1 rfl) rfl (T.ev 1 rfl) rfl) ?_; clear T ac; intro ac T
 refine l_w rfl ?_; intro K hK
 refine ow_stO M T rfl rfl (T.ev 1 rfl) (T.ev 0 rfl) rfl .head rfl (by simp) rfl (by kernel_rfl) ?_; clear M T; intro wc ac M T
 refine sh_out hK _ _ ?_; clear hK K
 refine wpList_nil ?_
 replace T := T.pick [1] rfl
 replace M := M.mask [true, false] rfl
 refine nm_then ?_
 refine wp_ret ?_
 refine rt_c M T rfl (T.ev 0 rfl) (nthE_mem (i := 0) rfl) rfl ?_
 exact ⟨Augo1, cugo1, Iugo1, rfl, .inr hSmgo1, M.sub (List.sublist_append_right ([(g2, .cells [.int .i64 s.lo, .int .i64 s.wi, .int .i64 s.a0, .int .i64 s.a1, .int .i64 s.c0, .int .i64 s.c1, .slice Augo1 s.ps.length cugo1])] : List (Nat × BA)) _)⟩
def szE (s : Sk) (k : Int) (t : Bool) : Int := if skErr s ≠ 0 then skErr s else if ¬ (0 ≤ k ∧ k ≤ (s.ps.length : Int) - 1) then 3 else if (t && (s.ps.getD k.toNat default).gr) = true then 8 else 0
def szL (s : Sk) (k : Int) (t su : Bool) : Int := if szE s k t ≠ 0 then 0 else sizeL (cutA s su) (cutC s su) (s.ps.getD k.toNat default) t
def szW (s : Sk) (k : Int) (t su : Bool) : Int := if szE s k t ≠ 0 then 0 else sizeW (cutA s su) (cutC s su) (s.ps.getD k.toNat default) t
end Go.Proofs.YtehpcclfgjccbaaDoor
end

section
/-
 sheet's law: blanks that cost a sheet.
-/
namespace Go.Proofs.YtehpcclfgjccbaaDoor
set_option linter.unusedSimpArgs false
set_option linter.unusedVariables false
open Go.RowKit
def SkPost (s : Sk) (w : World) (e : Ending) (w' : World) : Prop := ∃ A c I, e = .returned (.agg #[.int .i64 s.lo, .int .i64 s.wi, .int .i64 s.a0, .int .i64 s.a1, .int .i64 s.c0, .int .i64 s.c1, .slice A s.ps.length c]) ∧ s.ps.length ≤ c ∧ (∃ b o, ∀ (w : World) (ex : Nat → Prop), Sp w ex I A s.ps.length 4 b o (pc s.ps)) ∧ Mem w noEx w' I
end Go.Proofs.YtehpcclfgjccbaaDoor
end

section
/-
 sheet's law: another order.
-/
namespace Go.Proofs.YtehpcclfgjccbaaDoor
set_option linter.unusedSimpArgs false
set_option linter.unusedVariables false
open Go.RowKit
set_option maxHeartbeats 4000000 in
theorem SheetOrdered_any (D : Option Addr) (n d : Nat) (l : List Int) (w : World) (hl : Rd w w.heap.size 1 D n (ic l)) (hm : n ≤ 9223372036854775807) (hT : TabW w) :
   Calls Tryd.prog 10 #[.slice D n d] w fun e w' => e = .returned (.bool true) ∧ Below w.heap.size w w' := by
 have hll := hl.len1
 obtain ⟨bI, oI, SI⟩ := Sp.old hl
 refine px_enter noEx Tryd.func10 rfl 148 rfl [.slice D n d] rfl rfl (Mem.init w _) ?_
 intro ac wc T M
 refine wp_seq ?_
 refine wp_region_lit ?_
 refine lq T (rn_assign rfl evc) ?_; clear T ac; intro ac T
 refine wpList_nil ?_
 replace T := T.pick [1] rfl
 refine nm_then ?_
 refine wp_seq ?_
 refine wp_region_lit ?_
 refine lq T (rn_move rfl (T.ev 0 rfl)) ?_; clear T ac; intro ac T
 refine l_w rfl ?_; intro K hK
 refine ow_call (first := []) (cap := []) T rfl rfl rfl rfl evf (.cons (T.ev 0 rfl) .nil) Tryd.func18 rfl rfl ?_
 refine Calls.mono (newPot_any _ _ _ l _ (SI.rd M (List.nil_sublist _)) (by omega)) ?_
 clear T
 rintro e wc ⟨bpu1, su1, hsu1, rfl, N⟩
 intro ac T
 replace M := M.join N; clear N
 replace M := M.mask [true] rfl
 refine sh_out hK _ _ ?_; clear hK K
 refine lq T (rn_assign rfl (T.ev 0 rfl)) ?_; clear T ac; intro ac T
 refine wpList_nil ?_
 replace T := T.pick [0] rfl
 refine nm_then ?_
 refine wp_seq ?_
 refine wp_region_lit ?_
 refine lq T (rn_move rfl (T.ev 0 rfl)) ?_; clear T ac; intro ac T
 refine l_w rfl ?_; intro K hK
 refine ow_call (first := []) (cap := []) T rfl rfl rfl rfl evf (.cons (T.ev 0 rfl) (.cons evc (.cons evc .nil))) Tryd.func19 rfl rfl ?_
 refine Calls.mono (sheetOf_any _ bpu1 5 4 _ (by omega) (by omega) (M.nth 0 rfl) hsu1) ?_
 clear T
 rintro e wc ⟨s, AKu2, cKu2, sdu2, IKu2, rfl, hsgs, ⟨⟨hbls, hbws⟩, hbps⟩, hsu2, hcpKu2, SVKu2, N⟩
 intro ac T
 obtain ⟨bAKu2, oAKu2, SVKu2⟩ := SVKu2
 have SAKu2 := SVKu2 w noEx
 replace M := M.joinEI N .head
 clear N
 replace M : Mem w noEx wc ((bpu1, .cells [.int .u64 sdu2]) :: IKu2) := M
 have hlns := hsgs.len
 obtain ⟨hg1s, hg2s, hg3s, hg4s, -, -⟩ := id hsgs
 refine sh_out hK _ _ ?_; clear hK K
 refine l_w rfl ?_; intro K hK
 refine ow_al M T rfl rfl rfl rfl ?_; clear M T; intro g1 wc ac M T
 refine sh_out hK _ _ ?_; clear hK K
 refine l_w rfl ?_; intro K hK
 refine ow_stO M T rfl rfl (T.ev 0 rfl) (T.ev 1 rfl) rfl .head rfl (by simp) rfl (by kernel_rfl) ?_; clear M T; intro wc ac M T
 refine sh_out hK _ _ ?_; clear hK K
 refine wpList_nil ?_
 replace T := T.pick [0, 3] rfl
 refine nm_then ?_
 refine wp_seq ?_
 refine wp_region_lit ?_
 refine lq T (rn_move rfl (T.ev 1 rfl)) ?_; clear T ac; intro ac T
 refine lq (v := (.pointer (some ⟨g1, 6, none⟩))) T (rn_fieldAddr (off := 6) rfl (T.ev 1 rfl) (fun _ _ _ => by kernel_rfl)) ?_; clear T ac; intro ac T
 refine lq T (rn_one (Mem.nth M 0 rfl) rfl (T.ev 0 rfl) rfl) ?_; clear T ac; intro ac T
 refine lq T (rn_lenS rfl Tryd.underlying24 (T.ev 0 rfl)) ?_; clear T ac; intro ac T
 refine l_w rfl ?_; intro K hK
 refine ow_call (first := []) (cap := []) T rfl rfl rfl rfl evf (.cons (T.ev 3 rfl) (.cons (T.ev 0 rfl) .nil)) Tryd.func20 rfl rfl ?_
 refine Calls.mono (mix_any _ bpu1 s.ps.length _ (by omega) (M.nth 1 rfl) hsu2) ?_
 clear T
 rintro e wc ⟨lxu3, AXu3, cXu3, sdu3, IXu3, rfl, hixu3, hsu3, hcpXu3, SVXu3, N⟩
 intro ac T
 obtain ⟨bAXu3, oAXu3, SVXu3⟩ := SVXu3
 have SAXu3 := SVXu3 w noEx
 replace M := M.joinEI N (.tail .head)
 clear N
 replace M : Mem w noEx wc ((g1, .cells [.int .i64 s.lo, .int .i64 s.wi, .int .i64 s.a0, .int .i64 s.a1, .int .i64 s.c0, .int .i64 s.c1, .slice AKu2 s.ps.length cKu2]) :: (bpu1, .cells [.int .u64 sdu3]) :: (IKu2 ++ IXu3)) := M
 refine sh_out hK _ _ ?_; clear hK K
 refine lq T (rn_assign rfl (T.ev 0 rfl)) ?_; clear T ac; intro ac T
 refine wpList_nil ?_
 replace T := T.pick [0, 6, 7] rfl
 refine nm_then ?_
 refine wp_seq ?_
 refine wp_region_lit ?_
 refine lq T (rn_rowO (Mem.nth M 0 rfl) rfl (T.ev 1 rfl) rfl) ?_; clear T ac; intro ac T
 refine l_w rfl ?_; intro K hK
 refine ow_call (first := []) (cap := []) T rfl rfl rfl rfl evf (.cons (T.ev 0 rfl) .nil) Tryd.func25 rfl rfl ?_
 refine Calls.mono (copySheet_any s AKu2 cKu2 _ (SAKu2.rd M (.cons _ (.cons _ (subL (List.Sublist.refl _))))) (by first | omega | (dsimp only; omega))) ?_
 clear T
 rintro e wc ⟨ACu4, cCu4, ICu4, rfl, hclu4, N⟩
 intro ac T
 obtain ⟨LX, hLX⟩ : ∃ q : List Pt, q = s.ps := ⟨_, rfl⟩
 rw [← hLX] at hclu4
 replace M := (M.join N).swapI
 clear N
 replace M : Mem w noEx wc ((g1, .cells [.int .i64 s.lo, .int .i64 s.wi, .int .i64 s.a0, .int .i64 s.a1, .int .i64 s.c0, .int .i64 s.c1, .slice AKu2 s.ps.length cKu2]) :: (bpu1, .cells [.int .u64 sdu3]) :: (IKu2 ++ IXu3 ++ ICu4)) := M
 have hcpC := hclu4.capLe M (.cons _ (.cons _ (List.sublist_append_right _ _)))
 obtain ⟨bX, IX, hswX, M⟩ := hclu4.sw (L := ((g1, .cells [.int .i64 s.lo, .int .i64 s.wi, .int .i64 s.a0, .int .i64 s.a1, .int .i64 s.c0, .int .i64 s.c1, .slice AKu2 s.ps.length cKu2]) :: (bpu1, .cells [.int .u64 sdu3]) :: (IKu2 ++ IXu3))) M
 replace M : Mem w noEx wc ((g1, .cells [.int .i64 s.lo, .int .i64 s.wi, .int .i64 s.a0, .int .i64 s.a1, .int .i64 s.c0, .int .i64 s.c1, .slice AKu2 s.ps.length cKu2]) :: (bpu1, .cells [.int .u64 sdu3]) :: (IKu2 ++ IXu3 ++ IX)) := M
 have SX := hswX.sp (w := w) (ex := noEx)
 have hLl9 : LX.length = s.ps.length := by rw [hLX]
 rw [← hLl9] at T
 refine sh_out hK _ _ ?_; clear hK K
 refine l_w rfl ?_; intro K hK
 refine ow_al M T rfl rfl rfl rfl ?_; clear M T; intro g2 wc ac M T
 refine sh_out hK _ _ ?_; clear hK K
 refine l_w rfl ?_; intro K hK
 refine ow_stO M T rfl rfl (T.ev 0 rfl) (T.ev 1 rfl) rfl .head rfl (by simp) rfl (by kernel_rfl) ?_; clear M T; intro wc ac M T
 refine sh_out hK _ _ ?_; clear hK K
 refine wpList_nil ?_
 replace T := T.pick [0, 3, 4, 5] rfl
 refine nm_then ?_
 refine wp_seq ?_
 refine wp_seq ?_
 refine wp_region_lit ?_
 refine lq T (rn_assign rfl evc) ?_; clear T ac; intro ac T
 refine wpList_nil ?_
 refine nm_then ?_
 refine wp_block ?_
 refine wp_loop_n (fun mz ac wc => ∃ (i : Nat) (L : List Pt) (Iw : List (Nat × BA)), mz = lxu3.length - i ∧ (i ≤ lxu3.length) ∧ (OrdI lxu3 s.ps L i) ∧ (L.length = s.ps.length) ∧ (Sw 4 ACu4 L.length bX (pc L) Iw) ∧ Tm ac 148 [(3, .pointer (some ⟨bpu1, 0, none⟩)), (4, .pointer (some ⟨g1, 0, none⟩)), (5, .slice AXu3 lxu3.length cXu3), (6, .pointer (some ⟨g2, 0, none⟩)), (7, .int .i64 (i : Int))] ∧ Mem w noEx wc ((g2, .cells [.int .i64 s.lo, .int .i64 s.wi, .int .i64 s.a0, .int .i64 s.a1, .int .i64 s.c0, .int .i64 s.c1, .slice ACu4 L.length cCu4]) :: (g1, .cells [.int .i64 s.lo, .int .i64 s.wi, .int .i64 s.a0, .int .i64 s.a1, .int .i64 s.c0, .int .i64 s.c1, .slice AKu2 s.ps.length cKu2]) :: (bpu1, .cells [.int .u64 sdu3]) :: (IKu2 ++ IXu3 ++ Iw))) ?_ ?_
 ·exact ⟨_, 0, LX, IX, rfl, (Nat.zero_le _), (OrdI.zero _ _ _), (by rw [hLX]), hswX, T.pick [4, 3, 2, 1, 0] rfl, M.mask [true, true, true] rfl⟩
 clear T M
 rintro mz ac wc ⟨i, L, Iw, hmm1, hi, hO, hLl, hsw, T, M⟩
 refine wp_seq ?_
 refine wp_seq ?_
 refine wp_region_lit ?_
 refine lq T (rn_move rfl (T.ev 4 rfl)) ?_; clear T ac; intro ac T
 refine lq T (rn_move rfl (T.ev 3 rfl)) ?_; clear T ac; intro ac T
 refine lq T (rn_lenS rfl Tryd.underlying27 (T.ev 0 rfl)) ?_; clear T ac; intro ac T
 refine lq T (rn_lss rfl (T.ev 2 rfl) (T.ev 0 rfl)) ?_; clear T ac; intro ac T
 refine wpList_nil ?_
 replace T := T.pick [0, 4, 5, 6, 7, 8] rfl
 refine nm_then ?_
 refine wp_if (T.ev 0 rfl) ?_ ?_
 ·intro h1
  have SL9 := hsw.sp (w := w) (ex := noEx)
  obtain ⟨v9, hkv, -⟩ := ic_next (l := lxu3) (k := i) (by omega)
  obtain ⟨m9, hm9⟩ : ∃ m : Nat, v9 = (m : Int) := ⟨v9.toNat, by have := hixu3.1.1 v9 (List.mem_of_getElem? hkv); omega⟩
  have hml : m9 < L.length := by have := hixu3.1.1 v9 (List.mem_of_getElem? hkv); omega
  obtain ⟨q, hkq, -⟩ := pc_next (l := L) (k := m9) hml
  obtain ⟨p, hkp, -⟩ := pc_next (l := s.ps) (k := i) (by have := hixu3.2; omega)
  refine wp_skip ?_
  refine nm_then ?_
  refine wp_seq ?_
  refine wp_block ?_
  refine g_start2 M (M.perm [] rfl rfl) 13 (by kernel_rfl) rfl (by kernel_rfl) ?_
  clear M; intro wc M
  refine g_addG 12 M ?_
  refine gq (v := (.pointer (some ⟨g2, 6, none⟩))) T 0 1 rfl (fun _ _ _ _ _ => (rn_fieldAddr (off := 6) rfl (T.ev 4 rfl) (fun _ _ _ => by kernel_rfl))) ?_; clear T ac; intro ac T
  refine gq T 1 3 rfl (fun B w' hD hl hS => (rn_one (Mem.nth (show Mem w noEx w' _ from ((MA.lft hS) (hD.wait (i := 1) (m := 12) (by kernel_rfl) hl))) 0 rfl) rfl (T.ev 0 rfl) rfl)) ?_; clear T ac; intro ac T
  refine gq T 2 7 rfl (fun _ _ _ _ _ => (rn_move rfl (T.ev 5 rfl))) ?_; clear T ac; intro ac T
  refine gq T 3 15 rfl (fun _ _ _ _ _ => (rn_move rfl (T.ev 8 rfl))) ?_; clear T ac; intro ac T
  refine gq T 4 31 rfl (fun _ _ _ _ _ => (rn_indexAddr (size := 1) i rfl (T.ev 1 rfl) (T.ev 0 rfl) ⟨_, Tryd.underlying27, by kernel_rfl⟩ rfl (by omega) (SAXu3.at0 (by omega)))) ?_; clear T ac; intro ac T
  refine gq T 5 63 rfl (fun B w' hD hl hS => (rn_cell (Sp.ic0 SAXu3 (show Mem w noEx w' _ from ((MA.lft hS) (hD.wait (i := 5) (m := 12) (by kernel_rfl) hl))) (.cons _ (.cons _ (.cons _ (subL (List.sublist_append_right _ _))))) hkv) rfl (T.ev 0 rfl))) ?_; clear T ac; intro ac T
  refine gq (v := (.pointer (some ⟨g1, 6, none⟩))) T 6 127 rfl (fun _ _ _ _ _ => (rn_fieldAddr (off := 6) rfl (T.ev 8 rfl) (fun _ _ _ => by kernel_rfl))) ?_; clear T ac; intro ac T
  refine gq T 7 255 rfl (fun B w' hD hl hS => (rn_one (Mem.nth (show Mem w noEx w' _ from ((MA.lft hS) (hD.wait (i := 7) (m := 12) (by kernel_rfl) hl))) 1 rfl) rfl (T.ev 0 rfl) rfl)) ?_; clear T ac; intro ac T
  refine gq T 8 511 rfl (fun _ _ _ _ _ => (rn_move rfl (T.ev 13 rfl))) ?_; clear T ac; intro ac T
  refine gq T 9 1023 rfl (fun _ _ _ _ _ => (rn_indexAddr (size := 4) i rfl (T.ev 1 rfl) (T.ev 0 rfl) ⟨_, Tryd.underlying24, by kernel_rfl⟩ rfl (by omega) (SAKu2.at0 (by omega)))) ?_; clear T ac; intro ac T
  refine gq (v := (.agg #[.int .i64 p.l, .int .i64 p.w, .bool p.gr, .int .i64 p.pa])) T 10 2047 rfl (fun B w' hD hl hS => (rn_rowat (Sp.pcR SAKu2 (show Mem w noEx w' _ from ((MA.lft hS) (hD.wait (i := 10) (m := 12) (by kernel_rfl) hl))) (.cons _ (.cons _ (.cons _ (subL (subL (List.Sublist.refl _)))))) hkp) rfl (T.ev 0 rfl) rfl)) ?_; clear T ac; intro ac T
  refine gq T 11 4095 rfl (fun _ _ _ _ _ => (rn_indexAddr (size := 4) m9 rfl (T.ev 9 rfl) (T.ev 5 rfl) ⟨_, Tryd.underlying24, by kernel_rfl⟩ hm9 (by omega) (SL9.at0 (by omega)))) ?_; clear T ac; intro ac T
  refine gw 12 8191 ?_; intro K hK
  refine ow_stTK pcE 4 (fun _ => rfl) 0 (p' := (⟨p.l, p.w, p.gr, p.pa⟩ : Pt)) (((g2, .cells [.int .i64 s.lo, .int .i64 s.wi, .int .i64 s.a0, .int .i64 s.a1, .int .i64 s.c0, .int .i64 s.c1, .slice ACu4 L.length cCu4]) :: (g1, .cells [.int .i64 s.lo, .int .i64 s.wi, .int .i64 s.a0, .int .i64 s.a1, .int .i64 s.c0, .int .i64 s.c1, .slice AKu2 s.ps.length cKu2]) :: (bpu1, .cells [.int .u64 sdu3]) :: (IKu2 ++ IXu3))) M (by first | rfl | simp) hsw T rfl rfl (T.ev 0 rfl) (T.ev 1 rfl) rfl hkq (by omega) rfl (Nat.le_of_ble_eq_true rfl) rfl rfl ?_; clear M T; intro Jw1 wc ac hsw1 M T
  replace M : Mem w noEx wc ((g2, .cells [.int .i64 s.lo, .int .i64 s.wi, .int .i64 s.a0, .int .i64 s.a1, .int .i64 s.c0, .int .i64 s.c1, .slice ACu4 L.length cCu4]) :: (g1, .cells [.int .i64 s.lo, .int .i64 s.wi, .int .i64 s.a0, .int .i64 s.a1, .int .i64 s.c0, .int .i64 s.c1, .slice AKu2 s.ps.length cKu2]) :: (bpu1, .cells [.int .u64 sdu3]) :: (IKu2 ++ IXu3 ++ Jw1)) := M
  obtain ⟨lo1, hlo1⟩ : ∃ qq9 : List Pt, qq9 = L.set m9 (⟨p.l, p.w, p.gr, p.pa⟩) := ⟨_, rfl⟩
  replace hsw1 : Sw 4 ACu4 L.length bX (pc lo1) Jw1 := by rw [hlo1]; exact hsw1
  have lhlo1 : lo1.length = L.length := by rw [hlo1, List.length_set]
  have Ss1 := hsw1.sp (w := w) (ex := noEx)
  have hello1 : lo1[m9]? = some (⟨p.l, p.w, p.gr, p.pa⟩ : Pt) := by rw [hlo1]; exact List.getElem?_set_self (by omega)
  refine sh_out hK _ _ (MA.mk (fun h => (no_of (by kernel_rfl) h).elim) (M.perm [] rfl rfl)) ?_; clear hK K
  refine g_done (by kernel_rfl) ?_
  replace T := T.pick [13, 14, 15, 16, 17] rfl
  refine nm_blk ?_
  refine nm_then ?_
  refine wp_region_lit ?_
  refine lq T (rn_move rfl (T.ev 4 rfl)) ?_; clear T ac; intro ac T
  refine lq T (rn_add rfl (T.ev 0 rfl) evc (by omega)) ?_; clear T ac; intro ac T
  refine l_q (v := (.int .i64 ((i : Int) + 1))) (T.pick [0, 1, 2, 3, 4, 5] rfl) rfl rfl rfl rfl (rn_assign rfl (T.ev 0 rfl)) ?_; clear T ac; intro ac T
  refine wpList_nil ?_
  replace T := T.pick [0, 3, 4, 5, 6] rfl
  refine nm_then ?_
  have e9 : L.length = lo1.length := by omega
  rw [e9] at M
  rw [e9] at hsw1
  clear e9
  exact ⟨_, by omega, i + 1, lo1, Jw1, rfl, (by omega), (by rw [hlo1]; exact hO.step hixu3.1 hkv hm9 hml hkp), (by omega), hsw1, T.pick [1, 2, 3, 4, 0] rfl, (M.permT [0, 1, 2] 3 rfl rfl rfl rfl)⟩
 intro h1
 have SL9 := hsw.sp (w := w) (ex := noEx)
 have hpm : L.Perm s.ps := ord_perm hixu3.1 hixu3.2 hLl hO (by omega)
 have hgx : ({ s with ps := L } : Sk).good := ⟨by dsimp only; omega, by dsimp only; omega, by dsimp only; omega, by dsimp only; omega, by dsimp only; omega, fun q hq => hsgs.ps q (hpm.mem_iff.1 hq)⟩
 refine wp_exit ?_
 refine ex_then ?_
 refine ex_then ?_
 refine ex_hit ?_
 refine nm_then ?_
 refine wp_seq ?_
 refine wp_region_lit ?_
 refine lq T (rn_move rfl (T.ev 1 rfl)) ?_; clear T ac; intro ac T
 refine lq (v := (.pointer (some ⟨g1, 6, none⟩))) T (rn_fieldAddr (off := 6) rfl (T.ev 3 rfl) (fun _ _ _ => by kernel_rfl)) ?_; clear T ac; intro ac T
 refine lq T (rn_one (Mem.nth M 1 rfl) rfl (T.ev 0 rfl) rfl) ?_; clear T ac; intro ac T
 refine lq T (rn_lenS rfl Tryd.underlying24 (T.ev 0 rfl)) ?_; clear T ac; intro ac T
 refine l_w rfl ?_; intro K hK
 refine ow_call (first := []) (cap := []) T rfl rfl rfl rfl evf (.cons (T.ev 3 rfl) (.cons (T.ev 0 rfl) .nil)) Tryd.func48 rfl rfl ?_
 refine Calls.mono (pick_any _ bpu1 ((s.ps.length : Nat) : Int) _ (by omega) (M.nth 2 rfl) hsu3) ?_
 clear T
 rintro e wc ⟨lxu5, AXu5, cXu5, sdu5, IXu5, rfl, hixu5, hsu5, hcpXu5, SVXu5, N⟩
 intro ac T
 obtain ⟨bAXu5, oAXu5, SVXu5⟩ := SVXu5
 have SAXu5 := SVXu5 w noEx
 replace M := M.joinEI N (.tail (.tail .head))
 clear N
 replace M : Mem w noEx wc ((g2, .cells [.int .i64 s.lo, .int .i64 s.wi, .int .i64 s.a0, .int .i64 s.a1, .int .i64 s.c0, .int .i64 s.c1, .slice ACu4 L.length cCu4]) :: (g1, .cells [.int .i64 s.lo, .int .i64 s.wi, .int .i64 s.a0, .int .i64 s.a1, .int .i64 s.c0, .int .i64 s.c1, .slice AKu2 s.ps.length cKu2]) :: (bpu1, .cells [.int .u64 sdu5]) :: (IKu2 ++ IXu3 ++ Iw ++ IXu5)) := M
 have hgl9 := nodup_short hixu5.1 hixu5.2
 refine sh_out hK _ _ ?_; clear hK K
 refine lq T (rn_assign rfl (T.ev 0 rfl)) ?_; clear T ac; intro ac T
 refine wpList_nil ?_
 replace T := T.pick [0, 8, 9, 10] rfl
 replace M := M.mask [true, true, false] rfl
 replace M : Mem w noEx wc ((g2, .cells [.int .i64 s.lo, .int .i64 s.wi, .int .i64 s.a0, .int .i64 s.a1, .int .i64 s.c0, .int .i64 s.c1, .slice ACu4 L.length cCu4]) :: (g1, .cells [.int .i64 s.lo, .int .i64 s.wi, .int .i64 s.a0, .int .i64 s.a1, .int .i64 s.c0, .int .i64 s.c1, .slice AKu2 s.ps.length cKu2]) :: (IKu2 ++ IXu3 ++ Iw ++ IXu5)) := M
 refine nm_then ?_
 refine wp_seq ?_
 refine wp_region_lit ?_
 refine lq T (rn_assign rfl evc) ?_; clear T ac; intro ac T
 refine wpList_nil ?_
 refine nm_then ?_
 refine wp_seq ?_
 refine wp_seq ?_
 refine wp_region_lit ?_
 refine lq T (rn_move rfl (T.ev 1 rfl)) ?_; clear T ac; intro ac T
 refine lq T (rn_lenS rfl Tryd.underlying27 (T.ev 0 rfl)) ?_; clear T ac; intro ac T
 refine lq T (rn_sub rfl (T.ev 0 rfl) evc (by omega)) ?_; clear T ac; intro ac T
 refine lq T (rn_assign rfl (T.ev 0 rfl)) ?_; clear T ac; intro ac T
 refine wpList_nil ?_
 replace T := T.pick [0, 4, 5, 6, 7, 8] rfl
 refine nm_then ?_
 refine wp_block ?_
 refine wp_loop_n (fun mz ac wc => ∃ (z : Int) (OL : List Int) (A3 : Option Addr) (c3 : Nat) (Io : List (Nat × BA)), mz = (z + 1).toNat ∧ (-1 ≤ z ∧ z < (lxu5.length : Int)) ∧ (OL = othL lxu3 (lxu5.drop (z + 1).toNat)) ∧ ((OL.length : Int) + z + 1 = (lxu5.length : Int)) ∧ (Sl 3 1 (.slice A3 OL.length c3) OL.length (ic OL) Io) ∧ Tm ac 148 [(4, .pointer (some ⟨g1, 0, none⟩)), (5, .slice AXu3 lxu3.length cXu3), (6, .pointer (some ⟨g2, 0, none⟩)), (8, .slice AXu5 lxu5.length cXu5), (9, .slice A3 OL.length c3), (10, .int .i64 z)] ∧ Mem w noEx wc ((g2, .cells [.int .i64 s.lo, .int .i64 s.wi, .int .i64 s.a0, .int .i64 s.a1, .int .i64 s.c0, .int .i64 s.c1, .slice ACu4 L.length cCu4]) :: (g1, .cells [.int .i64 s.lo, .int .i64 s.wi, .int .i64 s.a0, .int .i64 s.a1, .int .i64 s.c0, .int .i64 s.c1, .slice AKu2 s.ps.length cKu2]) :: (IKu2 ++ IXu3 ++ Iw ++ IXu5 ++ Io))) ?_ ?_
 ·exact ⟨_, _, [], none, 0, [], rfl, (by omega), (by rw [show ((lxu5.length : Int) - 1 + 1).toNat = lxu5.length by omega, List.drop_length]; rfl), (by simp only [List.length_nil]; omega), (Sl.nil _ _), T.pick [3, 4, 5, 2, 1, 0] rfl, (by simp only [List.append_nil]; exact M)⟩
 clear T M
 rintro mz ac wc ⟨z, OL, A3, c3, Io, hmm2, hz, hOl, hoe, hsl, T, M⟩
 refine wp_seq ?_
 refine wp_seq ?_
 refine wp_region_lit ?_
 refine lq T (rn_move rfl (T.ev 5 rfl)) ?_; clear T ac; intro ac T
 refine lq T (rn_geq rfl (T.ev 0 rfl) evc) ?_; clear T ac; intro ac T
 refine wpList_nil ?_
 replace T := T.pick [0, 2, 3, 4, 5, 6, 7] rfl
 refine nm_then ?_
 refine wp_if (T.ev 0 rfl) ?_ ?_
 ·intro h2
  obtain ⟨kz, hkz⟩ : ∃ k : Nat, z = (k : Int) := ⟨z.toNat, by omega⟩
  obtain ⟨v8, hk8, -⟩ := ic_next (l := lxu5) (k := kz) (by omega)
  have hv8 := hixu5.1 v8 (List.mem_of_getElem? hk8)
  obtain ⟨m8, hm8⟩ : ∃ m : Nat, v8 = (m : Int) := ⟨v8.toNat, by omega⟩
  obtain ⟨v7, hk7, -⟩ := ic_next (l := lxu3) (k := m8) (by have := hixu3.2; omega)
  have hgl9 := nodup_short hixu5.1 hixu5.2
  refine wp_skip ?_
  refine nm_then ?_
  refine wp_seq ?_
  refine wp_block ?_
  refine wp_region_lit ?_
  refine lq T (rn_move rfl (T.ev 5 rfl)) ?_; clear T ac; intro ac T
  refine lq T (rn_move rfl (T.ev 3 rfl)) ?_; clear T ac; intro ac T
  refine lq T (rn_move rfl (T.ev 6 rfl)) ?_; clear T ac; intro ac T
  refine lq T (rn_move rfl (T.ev 9 rfl)) ?_; clear T ac; intro ac T
  refine lq T (rn_indexAddr (size := 1) kz rfl (T.ev 1 rfl) (T.ev 0 rfl) ⟨_, Tryd.underlying27, by kernel_rfl⟩ hkz (by omega) (SAXu5.at0 (by omega))) ?_; clear T ac; intro ac T
  refine lq T (rn_cell (Sp.ic0 SAXu5 M (.cons _ (.cons _ (subL (List.sublist_append_right _ _)))) hk8) rfl (T.ev 0 rfl)) ?_; clear T ac; intro ac T
  refine lq T (rn_indexAddr (size := 1) m8 rfl (T.ev 4 rfl) (T.ev 0 rfl) ⟨_, Tryd.underlying27, by kernel_rfl⟩ hm8 (by omega) (SAXu3.at0 (by omega))) ?_; clear T ac; intro ac T
  refine lq T (rn_cell (Sp.ic0 SAXu3 M (.cons _ (.cons _ (subL (subL (subL (List.sublist_append_right _ _)))))) hk7) rfl (T.ev 0 rfl)) ?_; clear T ac; intro ac T
  refine l_w rfl ?_; intro K hK
  refine ow_bs (e := 3) [.int .i64 v7] M T rfl rfl rfl rfl (.cons (T.ev 0 rfl) .nil) (fun _ => by kernel_rfl) ?_; clear M T; intro g3 wc ac M T
  refine sh_out hK _ _ ?_; clear hK K
  refine l_w rfl ?_; intro K hK
  refine ow_app (((g3, .cells [.int .i64 v7]) :: (g2, .cells [.int .i64 s.lo, .int .i64 s.wi, .int .i64 s.a0, .int .i64 s.a1, .int .i64 s.c0, .int .i64 s.c1, .slice ACu4 L.length cCu4]) :: (g1, .cells [.int .i64 s.lo, .int .i64 s.wi, .int .i64 s.a0, .int .i64 s.a1, .int .i64 s.c0, .int .i64 s.c1, .slice AKu2 s.ps.length cKu2]) :: (IKu2 ++ IXu3 ++ Iw ++ IXu5))) Tryd.info3 hsl M (by first | rfl | simp) T rfl rfl rfl rfl Tryd.underlying27 rfl rfl rfl (by omega) (T.ev 8 rfl) (T.ev 0 rfl) (nthE_mem (i := 0) rfl) rfl rfl ?_; clear M T; intro ga1 cga1 wc ac M T
  refine sh_out hK _ _ ?_; clear hK K
  refine l_q (v := (.slice (some ⟨ga1, 0, none⟩) (OL.length + 1) cga1)) (T.pick [0, 1, 2, 3, 4, 5, 6, 7, 8, 9, 10, 11, 12, 13, 14, 16] rfl) rfl rfl rfl rfl (rn_assign rfl (T.ev 0 rfl)) ?_; clear T ac; intro ac T
  refine wpList_nil ?_
  replace T := T.pick [0, 12, 13, 14, 15, 16] rfl
  replace M := M.mask [true, false, true, true] rfl
  replace M : Mem w noEx wc ((ga1, .row 3 1 (OL.length + 1) ((ic OL) ++ [.int .i64 v7]) cga1) :: (g2, .cells [.int .i64 s.lo, .int .i64 s.wi, .int .i64 s.a0, .int .i64 s.a1, .int .i64 s.c0, .int .i64 s.c1, .slice ACu4 L.length cCu4]) :: (g1, .cells [.int .i64 s.lo, .int .i64 s.wi, .int .i64 s.a0, .int .i64 s.a1, .int .i64 s.c0, .int .i64 s.c1, .slice AKu2 s.ps.length cKu2]) :: (IKu2 ++ IXu3 ++ Iw ++ IXu5)) := M
  refine nm_blk ?_
  refine nm_then ?_
  refine wp_region_lit ?_
  refine lq T (rn_move rfl (T.ev 5 rfl)) ?_; clear T ac; intro ac T
  refine lq T (rn_sub rfl (T.ev 0 rfl) evc (by omega)) ?_; clear T ac; intro ac T
  refine l_q (v := (.int .i64 (z - 1))) (T.pick [0, 1, 2, 3, 4, 5, 6] rfl) rfl rfl rfl rfl (rn_assign rfl (T.ev 0 rfl)) ?_; clear T ac; intro ac T
  refine wpList_nil ?_
  replace T := T.pick [0, 3, 4, 5, 6, 7] rfl
  refine nm_then ?_
  have e9 : OL.length + 1 = (OL ++ [v7]).length := by simp
  have e8 : ((ic OL) ++ [.int .i64 v7]) = ic (OL ++ [v7]) := by rw [← ic_snoc]
  rw [e9, e8] at M
  rw [e9] at T
  clear e9 e8
  exact ⟨_, by omega, (z - 1), (OL ++ [v7]), _, cga1, [(ga1, .row 3 1 (OL ++ [v7]).length (ic (OL ++ [v7])) cga1)], rfl, (by omega), (by rw [hOl]; exact oth_step hkz hk8 hm8 hk7), (by simp only [List.length_append, List.length_cons, List.length_nil]; omega), (Sl.row _ _ _ _ _ _), T.pick [2, 3, 4, 5, 1, 0] rfl, (Mem.swapI (I := [(ga1, .row 3 1 (OL ++ [v7]).length (ic (OL ++ [v7])) cga1)]) (L := ((g2, .cells [.int .i64 s.lo, .int .i64 s.wi, .int .i64 s.a0, .int .i64 s.a1, .int .i64 s.c0, .int .i64 s.c1, .slice ACu4 L.length cCu4]) :: (g1, .cells [.int .i64 s.lo, .int .i64 s.wi, .int .i64 s.a0, .int .i64 s.a1, .int .i64 s.c0, .int .i64 s.c1, .slice AKu2 s.ps.length cKu2]) :: (IKu2 ++ IXu3 ++ Iw ++ IXu5))) (M.permT [0, 1, 2] 3 rfl rfl rfl rfl))⟩
 intro h2
 obtain ⟨b8, o8, h8⟩ := hsl.spV (by rw [ic_length]; omega)
 have S8 := h8 w noEx
 have hcap8 := hsl.capLe M (.cons _ (.cons _ (List.sublist_append_right _ _)))
 have hOf : OL = othL lxu3 lxu5 := by rw [hOl, show (z + 1).toNat = 0 by omega, List.drop_zero]
 refine wp_exit ?_
 refine ex_then ?_
 refine ex_then ?_
 refine ex_hit ?_
 refine nm_then ?_
 refine wp_seq ?_
 refine wp_region_lit ?_
 refine lq T (rn_rowO (Mem.nth M 1 rfl) rfl (T.ev 1 rfl) rfl) ?_; clear T ac; intro ac T
 refine lq T (rn_move rfl (T.ev 5 rfl)) ?_; clear T ac; intro ac T
 refine l_w rfl ?_; intro K hK
 have hgl9 := nodup_short hixu5.1 hixu5.2
 refine ow_call (first := []) (cap := []) T rfl rfl rfl rfl evf (.cons (T.ev 1 rfl) (.cons (T.ev 0 rfl) .nil)) Tryd.func46 rfl rfl ?_
 refine Calls.mono (Fits_any s AKu2 cKu2 AXu5 cXu5 lxu5 _ (SAKu2.rd M (.cons _ (.cons _ (subL (subL (subL (subL (List.Sublist.refl _)))))))) (SAXu5.rd M (.cons _ (.cons _ (subL (List.sublist_append_right _ _))))) (by first | omega | (dsimp only; omega)) (by first | omega | (dsimp only; omega)) (by first | omega | (dsimp only; omega)) (hT.mem M (fun h => h))) ?_
 clear T
 rintro e wc ⟨rfl, hb⟩
 intro ac T
 obtain ⟨f1, f2, f3⟩ := ord_fit_law (x := ({ s with ps := L } : Sk)) hsgs hgx rfl rfl (fun _ => rfl) (fun _ => rfl) hixu3.1 hixu3.2 hLl hO (by omega) hixu5
 rw [← hOf] at f2 f3
 rw [f1] at T
 clear f1 f2 f3
 replace M := M.call hb; clear hb
 refine sh_out hK _ _ ?_; clear hK K
 refine lq T (rn_move rfl (T.ev 0 rfl)) ?_; clear T ac; intro ac T
 refine lq T (rn_extract rfl (T.ev 0 rfl) rfl) ?_; clear T ac; intro ac T
 refine lq T (rn_extract rfl (T.ev 1 rfl) rfl) ?_; clear T ac; intro ac T
 refine lq T (rn_assign rfl (T.ev 1 rfl)) ?_; clear T ac; intro ac T
 refine lq T (rn_assign rfl (T.ev 1 rfl)) ?_; clear T ac; intro ac T
 refine wpList_nil ?_
 replace T := T.pick [0, 1, 9, 11, 13] rfl
 refine nm_then ?_
 refine wp_seq ?_
 refine wp_region_lit ?_
 refine lq T (rn_rowO (Mem.nth M 0 rfl) rfl (T.ev 3 rfl) rfl) ?_; clear T ac; intro ac T
 refine lq T (rn_move rfl (T.ev 5 rfl)) ?_; clear T ac; intro ac T
 refine l_w rfl ?_; intro K hK
 have hgl8 := nodup_short hixu5.1 hixu5.2
 have hol8 : OL.length = lxu5.length := by omega
 refine ow_call (first := []) (cap := []) T rfl rfl rfl rfl evf (.cons (T.ev 1 rfl) (.cons (T.ev 0 rfl) .nil)) Tryd.func46 rfl rfl ?_
 refine Calls.mono (Fits_any ({ s with ps := L } : Sk) ACu4 cCu4 A3 c3 OL _ (SL9.rd M (.cons _ (.cons _ (subL (subL (List.sublist_append_right _ _)))))) (S8.rd M (.cons _ (.cons _ (List.sublist_append_right _ _)))) (by first | omega | (dsimp only; omega)) (by first | omega | (dsimp only; omega)) (by first | omega | (dsimp only; omega)) (hT.mem M (fun h => h))) ?_
 clear T
 rintro e wc ⟨rfl, hb⟩
 intro ac T
 obtain ⟨f1, f2, f3⟩ := ord_fit_law (x := ({ s with ps := L } : Sk)) hsgs hgx rfl rfl (fun _ => rfl) (fun _ => rfl) hixu3.1 hixu3.2 hLl hO (by omega) hixu5
 rw [← hOf] at f2 f3
 rw [f2, ← f3] at T
 clear f1 f2 f3
 replace M := M.call hb; clear hb
 refine sh_out hK _ _ ?_; clear hK K
 refine lq T (rn_move rfl (T.ev 0 rfl)) ?_; clear T ac; intro ac T
 refine lq T (rn_extract rfl (T.ev 0 rfl) rfl) ?_; clear T ac; intro ac T
 refine lq T (rn_extract rfl (T.ev 1 rfl) rfl) ?_; clear T ac; intro ac T
 refine lq T (rn_assign rfl (T.ev 1 rfl)) ?_; clear T ac; intro ac T
 refine lq T (rn_assign rfl (T.ev 1 rfl)) ?_; clear T ac; intro ac T
 refine wpList_nil ?_
 replace T := T.pick [0, 1, 8, 9, 10, 11] rfl
 refine nm_then ?_
 refine wp_seq ?_
 refine wp_region_lit ?_
 refine lq T (rn_rowO (Mem.nth M 1 rfl) rfl (T.ev 4 rfl) rfl) ?_; clear T ac; intro ac T
 refine l_w rfl ?_; intro K hK
 refine ow_call (first := []) (cap := []) T rfl rfl rfl rfl evf (.cons (T.ev 0 rfl) (.cons evc .nil)) Tryd.func34 rfl rfl ?_
 refine Calls.mono (Sheets_any s AKu2 cKu2 true _ (SAKu2.rd M (.cons _ (.cons _ (subL (subL (subL (subL (List.Sublist.refl _)))))))) (by first | omega | (dsimp only; omega)) (by first | omega | (dsimp only; omega)) (hT.mem M (fun h => h))) ?_
 clear T
 rintro e wc ⟨ASu8, cSu8, ISu8, rfl, hcpSu8, SVSu8, N⟩
 intro ac T
 obtain ⟨bASu8, oASu8, SVSu8⟩ := SVSu8
 have SASu8 := SVSu8 w noEx
 replace M := (M.join N).swapI
 clear N
 replace M : Mem w noEx wc ((g2, .cells [.int .i64 s.lo, .int .i64 s.wi, .int .i64 s.a0, .int .i64 s.a1, .int .i64 s.c0, .int .i64 s.c1, .slice ACu4 L.length cCu4]) :: (g1, .cells [.int .i64 s.lo, .int .i64 s.wi, .int .i64 s.a0, .int .i64 s.a1, .int .i64 s.c0, .int .i64 s.c1, .slice AKu2 s.ps.length cKu2]) :: (IKu2 ++ IXu3 ++ Iw ++ IXu5 ++ Io ++ ISu8)) := M
 refine sh_out hK _ _ ?_; clear hK K
 refine lq T (rn_move rfl (T.ev 0 rfl)) ?_; clear T ac; intro ac T
 refine lq T (rn_extract rfl (T.ev 0 rfl) rfl) ?_; clear T ac; intro ac T
 refine lq T (rn_extract rfl (T.ev 1 rfl) rfl) ?_; clear T ac; intro ac T
 refine lq T (rn_extract rfl (T.ev 2 rfl) rfl) ?_; clear T ac; intro ac T
 refine lq T (rn_assign rfl (T.ev 2 rfl)) ?_; clear T ac; intro ac T
 refine lq T (rn_assign rfl (T.ev 2 rfl)) ?_; clear T ac; intro ac T
 refine lq T (rn_assign rfl (T.ev 2 rfl)) ?_; clear T ac; intro ac T
 refine wpList_nil ?_
 replace T := T.pick [0, 1, 9, 10, 11, 12, 13, 14] rfl
 refine nm_then ?_
 refine wp_seq ?_
 refine wp_region_lit ?_
 refine lq T (rn_rowO (Mem.nth M 0 rfl) rfl (T.ev 7 rfl) rfl) ?_; clear T ac; intro ac T
 refine l_w rfl ?_; intro K hK
 have hlX9 : L.length ≤ 5 := by omega
 refine ow_call (first := []) (cap := []) T rfl rfl rfl rfl evf (.cons (T.ev 0 rfl) (.cons evc .nil)) Tryd.func34 rfl rfl ?_
 refine Calls.mono (Sheets_any ({ s with ps := L } : Sk) ACu4 cCu4 true _ (SL9.rd M (.cons _ (.cons _ (subL (subL (subL (List.sublist_append_right _ _))))))) (by first | omega | (dsimp only; omega)) (by first | omega | (dsimp only; omega)) (hT.mem M (fun h => h))) ?_
 clear T
 rintro e wc ⟨ASu9, cSu9, ISu9, rfl, hcpSu9, SVSu9, N⟩
 intro ac T
 have hp9 := perm_law (s := s) (x := ({ s with ps := L } : Sk)) (su := true) hsgs hgx rfl rfl rfl rfl hpm
 rw [← hp9.1, ← hp9.2] at T
 clear hp9
 obtain ⟨bASu9, oASu9, SVSu9⟩ := SVSu9
 have SASu9 := SVSu9 w noEx
 replace M := (M.join N).swapI
 clear N
 replace M : Mem w noEx wc ((g2, .cells [.int .i64 s.lo, .int .i64 s.wi, .int .i64 s.a0, .int .i64 s.a1, .int .i64 s.c0, .int .i64 s.c1, .slice ACu4 L.length cCu4]) :: (g1, .cells [.int .i64 s.lo, .int .i64 s.wi, .int .i64 s.a0, .int .i64 s.a1, .int .i64 s.c0, .int .i64 s.c1, .slice AKu2 s.ps.length cKu2]) :: (IKu2 ++ IXu3 ++ Iw ++ IXu5 ++ Io ++ ISu8 ++ ISu9)) := M
 refine sh_out hK _ _ ?_; clear hK K
 refine lq T (rn_move rfl (T.ev 0 rfl)) ?_; clear T ac; intro ac T
 refine lq T (rn_extract rfl (T.ev 0 rfl) rfl) ?_; clear T ac; intro ac T
 refine lq T (rn_extract rfl (T.ev 1 rfl) rfl) ?_; clear T ac; intro ac T
 refine lq T (rn_extract rfl (T.ev 2 rfl) rfl) ?_; clear T ac; intro ac T
 refine lq T (rn_assign rfl (T.ev 2 rfl)) ?_; clear T ac; intro ac T
 refine lq T (rn_assign rfl (T.ev 2 rfl)) ?_; clear T ac; intro ac T
 refine lq T (rn_assign rfl (T.ev 2 rfl)) ?_; clear T ac; intro ac T
 refine wpList_nil ?_
 replace T := T.pick [0, 1, 9, 10, 11, 12, 13, 14, 15, 16] rfl
 refine nm_then ?_
 refine wp_seq ?_
 refine wp_region_lit ?_
 refine lq T (rn_rowO (Mem.nth M 1 rfl) rfl (T.ev 8 rfl) rfl) ?_; clear T ac; intro ac T
 refine l_w rfl ?_; intro K hK
 refine ow_call (first := []) (cap := []) T rfl rfl rfl rfl evf (.cons (T.ev 0 rfl) (.cons evc .nil)) Tryd.func34 rfl rfl ?_
 refine Calls.mono (Sheets_any s AKu2 cKu2 false _ (SAKu2.rd M (.cons _ (.cons _ (subL (subL (subL (subL (subL (subL (List.Sublist.refl _)))))))))) (by first | omega | (dsimp only; omega)) (by first | omega | (dsimp only; omega)) (hT.mem M (fun h => h))) ?_
 clear T
 rintro e wc ⟨ASu10, cSu10, ISu10, rfl, hcpSu10, SVSu10, N⟩
 intro ac T
 obtain ⟨bASu10, oASu10, SVSu10⟩ := SVSu10
 have SASu10 := SVSu10 w noEx
 replace M := (M.join N).swapI
 clear N
 replace M : Mem w noEx wc ((g2, .cells [.int .i64 s.lo, .int .i64 s.wi, .int .i64 s.a0, .int .i64 s.a1, .int .i64 s.c0, .int .i64 s.c1, .slice ACu4 L.length cCu4]) :: (g1, .cells [.int .i64 s.lo, .int .i64 s.wi, .int .i64 s.a0, .int .i64 s.a1, .int .i64 s.c0, .int .i64 s.c1, .slice AKu2 s.ps.length cKu2]) :: (IKu2 ++ IXu3 ++ Iw ++ IXu5 ++ Io ++ ISu8 ++ ISu9 ++ ISu10)) := M
 refine sh_out hK _ _ ?_; clear hK K
 refine lq T (rn_move rfl (T.ev 0 rfl)) ?_; clear T ac; intro ac T
 refine lq T (rn_extract rfl (T.ev 0 rfl) rfl) ?_; clear T ac; intro ac T
 refine lq T (rn_extract rfl (T.ev 1 rfl) rfl) ?_; clear T ac; intro ac T
 refine lq T (rn_extract rfl (T.ev 2 rfl) rfl) ?_; clear T ac; intro ac T
 refine lq T (rn_assign rfl (T.ev 2 rfl)) ?_; clear T ac; intro ac T
 refine lq T (rn_assign rfl (T.ev 2 rfl)) ?_; clear T ac; intro ac T
 refine lq T (rn_assign rfl (T.ev 2 rfl)) ?_; clear T ac; intro ac T
 refine wpList_nil ?_
 replace T := T.pick [0, 1, 9, 10, 11, 12, 13, 14, 15, 16, 18] rfl
 replace M := M.mask [true, false] rfl
 replace M : Mem w noEx wc ((g2, .cells [.int .i64 s.lo, .int .i64 s.wi, .int .i64 s.a0, .int .i64 s.a1, .int .i64 s.c0, .int .i64 s.c1, .slice ACu4 L.length cCu4]) :: (IKu2 ++ IXu3 ++ Iw ++ IXu5 ++ Io ++ ISu8 ++ ISu9 ++ ISu10)) := M
 refine nm_then ?_
 refine wp_seq ?_
 refine wp_region_lit ?_
 refine lq T (rn_rowO (Mem.nth M 0 rfl) rfl (T.ev 10 rfl) rfl) ?_; clear T ac; intro ac T
 refine l_w rfl ?_; intro K hK
 have hlX9 : L.length ≤ 5 := by omega
 refine ow_call (first := []) (cap := []) T rfl rfl rfl rfl evf (.cons (T.ev 0 rfl) (.cons evc .nil)) Tryd.func34 rfl rfl ?_
 refine Calls.mono (Sheets_any ({ s with ps := L } : Sk) ACu4 cCu4 false _ (SL9.rd M (.cons _ (subL (subL (subL (subL (subL (List.sublist_append_right _ _)))))))) (by first | omega | (dsimp only; omega)) (by first | omega | (dsimp only; omega)) (hT.mem M (fun h => h))) ?_
 clear T
 rintro e wc ⟨ASu11, cSu11, ISu11, rfl, hcpSu11, SVSu11, N⟩
 intro ac T
 have hp9 := perm_law (s := s) (x := ({ s with ps := L } : Sk)) (su := false) hsgs hgx rfl rfl rfl rfl hpm
 rw [← hp9.1, ← hp9.2] at T
 clear hp9
 obtain ⟨bASu11, oASu11, SVSu11⟩ := SVSu11
 have SASu11 := SVSu11 w noEx
 replace M := (M.join N).swapI
 clear N
 replace M : Mem w noEx wc ((g2, .cells [.int .i64 s.lo, .int .i64 s.wi, .int .i64 s.a0, .int .i64 s.a1, .int .i64 s.c0, .int .i64 s.c1, .slice ACu4 L.length cCu4]) :: (IKu2 ++ IXu3 ++ Iw ++ IXu5 ++ Io ++ ISu8 ++ ISu9 ++ ISu10 ++ ISu11)) := M
 refine sh_out hK _ _ ?_; clear hK K
 refine lq T (rn_move rfl (T.ev 0 rfl)) ?_; clear T ac; intro ac T
 refine lq T (rn_extract rfl (T.ev 0 rfl) rfl) ?_; clear T ac; intro ac T
 refine lq T (rn_extract rfl (T.ev 1 rfl) rfl) ?_; clear T ac; intro ac T
 refine lq T (rn_extract rfl (T.ev 2 rfl) rfl) ?_; clear T ac; intro ac T
 refine lq T (rn_assign rfl (T.ev 2 rfl)) ?_; clear T ac; intro ac T
 refine lq T (rn_assign rfl (T.ev 2 rfl)) ?_; clear T ac; intro ac T
 refine lq T (rn_assign rfl (T.ev 2 rfl)) ?_; clear T ac; intro ac T
 refine wpList_nil ?_
 replace T := T.pick [0, 1, 9, 10, 11, 12, 13, 14, 15, 16, 17, 18] rfl
 replace M := M.mask [false] rfl
 replace M : Mem w noEx wc ((IKu2 ++ IXu3 ++ Iw ++ IXu5 ++ Io ++ ISu8 ++ ISu9 ++ ISu10 ++ ISu11)) := M
 refine nm_then ?_
 refine wp_seq ?_
 refine wp_region_lit ?_
 refine lq T (rn_move rfl (T.ev 10 rfl)) ?_; clear T ac; intro ac T
 refine lq (v := (.bool true)) T (rn_neqof (rn_eql rfl (T.ev 0 rfl) evc) (by simp)) ?_; clear T ac; intro ac T
 refine lq T (rn_move rfl (T.ev 0 rfl)) ?_; clear T ac; intro ac T
 refine lw T (wanted_yes rfl rfl (T.ev 0 rfl) rfl) (rn_move rfl (T.ev 11 rfl)) ?_; clear T ac; intro ac T
 refine lw (v := (.bool true)) T (wanted_yes rfl rfl (T.ev 1 rfl) rfl) (rn_neqof (rn_eql rfl (T.ev 0 rfl) evc) (by simp)) ?_; clear T ac; intro ac T
 refine lq T (rn_pick1 rfl (T.ev 2 rfl) rfl (T.ev 0 rfl)) ?_; clear T ac; intro ac T
 refine lq T (rn_move rfl (T.ev 0 rfl)) ?_; clear T ac; intro ac T
 refine lw T (wanted_yes rfl rfl (T.ev 0 rfl) rfl) (rn_move rfl (T.ev 18 rfl)) ?_; clear T ac; intro ac T
 refine lw T (wanted_yes rfl rfl (T.ev 1 rfl) rfl) (rn_move rfl (T.ev 17 rfl)) ?_; clear T ac; intro ac T
 refine lw (v := (.bool true)) T (wanted_yes rfl rfl (T.ev 2 rfl) rfl) (rn_neqof (rn_eql rfl (T.ev 1 rfl) (T.ev 0 rfl)) (by simp)) ?_; clear T ac; intro ac T
 refine lq T (rn_pick1 rfl (T.ev 3 rfl) rfl (T.ev 0 rfl)) ?_; clear T ac; intro ac T
 refine lq T (rn_move rfl (T.ev 0 rfl)) ?_; clear T ac; intro ac T
 refine lw T (wanted_yes rfl rfl (T.ev 0 rfl) rfl) (rn_move rfl (T.ev 18 rfl)) ?_; clear T ac; intro ac T
 refine lw T (wanted_yes rfl rfl (T.ev 1 rfl) rfl) (rn_move rfl (T.ev 17 rfl)) ?_; clear T ac; intro ac T
 refine lw (v := (.bool true)) T (wanted_yes rfl rfl (T.ev 2 rfl) rfl) (rn_neqof (rn_eql rfl (T.ev 1 rfl) (T.ev 0 rfl)) (by simp)) ?_; clear T ac; intro ac T
 refine lq T (rn_pick1 rfl (T.ev 3 rfl) rfl (T.ev 0 rfl)) ?_; clear T ac; intro ac T
 refine lq T (rn_move rfl (T.ev 0 rfl)) ?_; clear T ac; intro ac T
 refine lw T (wanted_yes rfl rfl (T.ev 0 rfl) rfl) (rn_move rfl (T.ev 24 rfl)) ?_; clear T ac; intro ac T
 refine lw T (wanted_yes rfl rfl (T.ev 1 rfl) rfl) (rn_move rfl (T.ev 23 rfl)) ?_; clear T ac; intro ac T
 refine lw (v := (.bool true)) T (wanted_yes rfl rfl (T.ev 2 rfl) rfl) (rn_neqof (rn_eql rfl (T.ev 1 rfl) (T.ev 0 rfl)) (by simp)) ?_; clear T ac; intro ac T
 refine lq T (rn_pick1 rfl (T.ev 3 rfl) rfl (T.ev 0 rfl)) ?_; clear T ac; intro ac T
 refine lq T (rn_move rfl (T.ev 0 rfl)) ?_; clear T ac; intro ac T
 refine lw T (wanted_yes rfl rfl (T.ev 0 rfl) rfl) (rn_move rfl (T.ev 24 rfl)) ?_; clear T ac; intro ac T
 refine lw T (wanted_yes rfl rfl (T.ev 1 rfl) rfl) (rn_move rfl (T.ev 23 rfl)) ?_; clear T ac; intro ac T
 refine lw (v := (.bool true)) T (wanted_yes rfl rfl (T.ev 2 rfl) rfl) (rn_neqof (rn_eql rfl (T.ev 1 rfl) (T.ev 0 rfl)) (by simp)) ?_; clear T ac; intro ac T
 refine lq T (rn_pick1 rfl (T.ev 3 rfl) rfl (T.ev 0 rfl)) ?_; clear T ac; intro ac T
 refine lq T (rn_move rfl (T.ev 0 rfl)) ?_; clear T ac; intro ac T
 refine lw T (wanted_yes rfl rfl (T.ev 0 rfl) rfl) (rn_move rfl (T.ev 30 rfl)) ?_; clear T ac; intro ac T
 refine lw T (wanted_yes rfl rfl (T.ev 1 rfl) rfl) (rn_move rfl (T.ev 29 rfl)) ?_; clear T ac; intro ac T
 refine lw (v := (.bool true)) T (wanted_yes rfl rfl (T.ev 2 rfl) rfl) (rn_neqof (rn_eql rfl (T.ev 1 rfl) (T.ev 0 rfl)) (by simp)) ?_; clear T ac; intro ac T
 refine lq T (rn_pick1 rfl (T.ev 3 rfl) rfl (T.ev 0 rfl)) ?_; clear T ac; intro ac T
 refine lq T (rn_move rfl (T.ev 0 rfl)) ?_; clear T ac; intro ac T
 refine l_w (wanted_yes rfl rfl (T.ev 0 rfl) rfl) ?_; intro K hK
 refine ow_call (first := []) (cap := []) T rfl rfl rfl rfl evf .nil Tryd.func17 rfl rfl ?_
 refine Calls.mono (sawn8_any _ (hT.mem M (fun h => h))) ?_
 clear T
 rintro e wc ⟨rfl, hb⟩
 intro ac T
 replace M := M.call hb; clear hb
 refine sh_out hK _ _ ?_; clear hK K
 refine lq T (rn_pick1 rfl (T.ev 1 rfl) rfl (T.ev 0 rfl)) ?_; clear T ac; intro ac T
 refine lq T (rn_assign rfl (T.ev 0 rfl)) ?_; clear T ac; intro ac T
 refine wpList_nil ?_
 replace T := T.pick [0] rfl
 refine nm_then ?_
 refine wp_ret ?_
 refine rt_1 T rfl (T.ev 0 rfl) ?_
 exact ⟨ret_bool (by simp_all), M.below⟩
end Go.Proofs.YtehpcclfgjccbaaDoor
end

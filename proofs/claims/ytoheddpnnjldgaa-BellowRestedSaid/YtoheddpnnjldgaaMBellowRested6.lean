/-
  Walks of functions, and plain laws (texts put together). No condition.
-/
import Derived.Test.YtoheddpnnjldgaaMBellowRested1
import Derived.Test.YtoheddpnnjldgaaMBellowRested2
import Derived.Test.YtoheddpnnjldgaaMBellowRested3
import Derived.Test.YtoheddpnnjldgaaMBellowRested4
import Derived.Test.YtoheddpnnjldgaaMBellowRested5
set_option maxRecDepth 100000
set_option maxHeartbeats 1000000
set_option linter.unusedSimpArgs false
set_option linter.unusedVariables false
set_option linter.unusedSectionVars false
namespace Go.Proofs.Ytoheddpnnjldgaa
open Go.RowKit
theorem Mem.joinW {w0 w w' : World} {ex : Nat → Prop} {L L' I : List (Nat × BA)} {g : Nat} {p p' : BA} (M : Mem w0 ex w L) (hu : Upd L g p p' L') (N : Mem w (fun b => b = g) w' (I ++ [(g, p')])) : Mem w0 ex w' (I ++ L') := by
 have hg := M.blk _ hu.mem
 have hgl := BA.lt hg.2
 have hnd := N.nd
 rw [List.map_append] at hnd
 obtain ⟨n1, n2, n3⟩ := List.nodup_append.1 hnd
 have hI : ∀ q ∈ I, w.heap.size ≤ q.1 := fun q hq => by
  rcases (N.blk q (List.mem_append_left _ hq)).1 with h | h
  ·exact h
  ·exact absurd h (n3 q.1 (List.mem_map.2 ⟨q, hq, rfl⟩) g (by simp))
 refine ⟨N.os.trans M.os, N.tape.trans M.tape, N.output.trans M.output, Nat.le_trans M.size N.size, fun b hb hx => ?_, fun q hq => ?_, ?_⟩
 ·refine (N.block b (Nat.lt_of_lt_of_le hb M.size) fun e => ?_).trans (M.block b hb hx)
  have e : b = g := e
  subst e
  rcases hg.1 with h | h
  ·have h : w0.heap.size ≤ b := h
   omega
  ·exact hx h
 ·rcases List.mem_append.1 hq with hq | hq
  ·exact ⟨.inl (Nat.le_trans M.size (hI q hq)), (N.blk q (List.mem_append_left _ hq)).2⟩
  ·rcases hu.all M.nd q hq with rfl | ⟨h1, h2⟩
   ·exact ⟨hg.1, (N.blk _ (List.mem_append_right _ Zz2)).2⟩
   ·have h3 := M.blk q h1
    exact ⟨h3.1, BA.same h3.2 N.size (N.block _ (BA.lt h3.2) h2)⟩
 ·rw [List.map_append, hu.keys]
  refine List.nodup_append.2 ⟨n1, M.nd, fun a ha b hb e => ?_⟩
  obtain ⟨q, hq, rfl⟩ := List.mem_map.1 ha
  obtain ⟨r, hr, rfl⟩ := List.mem_map.1 hb
  have h1 := hI q hq
  have h2 := BA.lt (M.blk r hr).2
  omega
theorem Mem.joinW2 {w0 w w' : World} {ex : Nat → Prop} {L L' I : List (Nat × BA)} {g : Nat} {p p' : BA} (M : Mem w0 ex w L) (hu : Upd L g p p' L') (N : Mem w (fun b => b = g) w' ((g, p') :: I)) : Mem w0 ex w' (I ++ L') :=
 M.joinW hu (Mem.swapI (I := [(g, p')]) (L := I) N)
def OddsPost (bp : Nat) (w : World) (e : Ending) (w' : World) : Prop := ∃ (b : Bool) (s' : Int), u64ok s' ∧ e = .returned (.bool b) ∧ w.grownBy w' (some bp) ∧ Bk w' bp #[.int .u64 s']
def Asc (n : Int) (l : List Int) : Prop := (∀ x ∈ l, 0 ≤ x ∧ x < n) ∧ l.Pairwise (· < ·)
theorem Asc.nil (n : Int) : Asc n [] := ⟨fun x h => (by cases h), List.Pairwise.nil⟩
theorem Asc.more {n m : Int} {l : List Int} (h : Asc n l) (hn : n ≤ m) : Asc m l := ⟨fun x hx => by have := h.1 x hx; omega, h.2⟩
theorem Asc.snoc {n m : Int} {l : List Int} (h : Asc n l) (h0 : 0 ≤ n) (hm : n < m) : Asc m (l ++ [n]) :=
 ⟨fun x hx => by
   rcases List.mem_append.1 hx with hx | hx
   · have := h.1 x hx; omega
   · rw [List.mem_singleton.1 hx]; omega,
  List.pairwise_append.2 ⟨h.2, List.pairwise_singleton _ _, fun a ha b hb => by
   have := h.1 a ha
   rw [List.mem_singleton] at hb
   omega⟩⟩
theorem Asc.opE {n : Int} : ∀ {l : List Int} {p : Option Int}, Asc n l → (∀ q c, p = some q → c ∈ l → q < c) → opE n l p = 0
 | [], _, _, _ => rfl
 | c :: r, p, h, hp => by
  have h1 := h.1 c Zz2
  have h2 := List.pairwise_cons.1 h.2
  unfold Go.Proofs.Ytoheddpnnjldgaa.opE
  rw [if_neg (by rw [withinB_iff.2 (by omega)]; simp), if_neg ?_]
  ·exact Asc.opE ⟨fun x hx => h.1 x (Zz1 hx), h2.2⟩ fun q x hq hx => by injection hq with hq; rw [← hq]; exact h2.1 x hx
  ·cases p with
   | none => simp [leP]
   | some q => have := hp q c rfl Zz2; simp [leP]; omega
def IdxPost (bp : Nat) (P : List Int → Prop) (w : World) (e : Ending) (w' : World) : Prop := ∃ (l : List Int) (A : Option Addr) (c : Nat) (s : Int) (I : List (Nat × BA)), e = .returned (.slice A l.length c) ∧ P l ∧ u64ok s ∧ l.length ≤ c ∧ (∃ b o, ∀ (w : World) (ex : Nat → Prop), Sp w ex I A l.length 1 b o (ic l)) ∧ Mem w (fun b => b = bp) w' ((bp, .cells [.int .u64 s]) :: I)
structure LkTrue (g : List Int) (t : Lk) : Prop where
 ne : t.op.length ≠ 0
 asc : Asc g.length t.op
 sec : 1 ≤ t.sec ∧ t.sec ≤ 20
 lost : 0 ≤ t.lo ∧ t.lo ≤ totL g t.op * t.sec ∧ totL g t.op * t.sec ≤ t.hi ∧ t.hi ≤ 400
def LkOfPost (bp : Nat) (g : List Int) (w : World) (e : Ending) (w' : World) : Prop := ∃ (t : Lk) (s : Int) (I : List (Nat × BA)), e = .returned (.agg #[.slice t.A t.op.length t.c, .int .i64 t.sec, .int .i64 t.lo, .int .i64 t.hi]) ∧ LkTrue g t ∧ u64ok s ∧ (∃ b o, ∀ (w : World) (ex : Nat → Prop), Sp w ex I t.A t.op.length 1 b o (ic t.op)) ∧ Mem w (fun b => b = bp) w' ((bp, .cells [.int .u64 s]) :: I)
theorem Asc.len {n : Nat} {l : List Int} (h : Asc n l) : l.length ≤ n := by
 have h1 : ∀ (l : List Int) (m : Int), (∀ x ∈ l, m ≤ x ∧ x < n) → l.Pairwise (· < ·) → l ≠ [] → m + (l.length : Int) ≤ n := fun l => by
   induction l with
   | nil => intro m _ _ h; exact absurd rfl h
   | cons x r ih =>
     intro m hm hp _
     obtain ⟨k1, k2⟩ := List.pairwise_cons.1 hp
     have hx := hm x Zz2
     cases r with
     | nil => simp; omega
     | cons y r =>
       have := ih (x + 1) (fun z hz => ⟨by have := k1 z hz; omega, (hm z (Zz1 hz)).2⟩) k2 (by simp)
       simp only [List.length_cons] at this ⊢
       push_cast at this ⊢
       omega
 cases l with
 | nil => simp
 | cons x r =>
   have := h1 (x :: r) 0 h.1 h.2 (by simp)
   omega
def NtTrue (q : Nt) (a : Int) : Prop := (1 ≤ q.sec ∧ q.sec ≤ 8) ∧ 0 ≤ q.lo ∧ q.lo ≤ a ∧ a ≤ q.hi ∧ q.hi ≤ 9
def NtsTrue : List Nt → List Int → Prop
 | [], [] => True
 | q :: p, a :: aa => NtTrue q a ∧ NtsTrue p aa
 | _, _ => False
theorem NtsTrue.snoc : ∀ {p : List Nt} {aa : List Int} {q : Nt} {a : Int}, NtsTrue p aa → NtTrue q a → NtsTrue (p ++ [q]) (aa ++ [a])
 | [], [], _, _, _, h => ⟨h, trivial⟩
 | _ :: _, _ :: _, _, _, h, k => ⟨h.1, NtsTrue.snoc h.2 k⟩
 | [], _ :: _, _, _, h, _ => h.elim
 | _ :: _, [], _, _, h, _ => h.elim
theorem NtsTrue.good : ∀ {p : List Nt} {aa : List Int}, NtsTrue p aa → ∀ q ∈ p, (1 ≤ q.sec ∧ q.sec ≤ 20) ∧ 0 ≤ q.lo ∧ q.lo ≤ q.hi ∧ q.hi ≤ 9
 | [], _, _, q, h => by cases h
 | x :: p, [], h, _, _ => h.elim
 | x :: p, a :: aa, h, q, hq => by
  rcases List.mem_cons.1 hq with rfl | hq
  ·have := h.1; unfold NtTrue at this; omega
  ·exact NtsTrue.good h.2 q hq
theorem nts_of {p : List Nt} (h : ∀ q ∈ p, (1 ≤ q.sec ∧ q.sec ≤ 20) ∧ 0 ≤ q.lo ∧ q.lo ≤ q.hi ∧ q.hi ≤ 9) : ntsE p = 0 := by
 induction p with
 | nil => rfl
 | cons x p ih =>
  have hx := h x Zz2
  have h1 : ntE x = 0 := by
   unfold ntE chkR
   rw [withinB_iff.2 hx.1, if_neg (by simp), withinB_iff.2 (by omega), withinB_iff.2 (by omega)]
   simp
   omega
  unfold ntsE
  rw [if_pos h1]
  exact ih fun q hq => h q (Zz1 hq)
theorem pieceE_of {p : List Nt} (h : NtGood p) : pieceE p = 0 := by
 unfold pieceE
 rw [if_neg (by have := h.n6; omega)]
 exact nts_of h.ok
def PcPost (bp : Nat) (m : Int) (w : World) (e : Ending) (w' : World) : Prop := ∃ (l : List Nt) (aa : List Int) (A : Option Addr) (c : Nat) (B : Option Addr) (d : Nat) (s : Int) (I : List (Nat × BA)), e = .returned (.tuple #[.slice A l.length c, .slice B aa.length d]) ∧ NtsTrue l aa ∧ aa.length = l.length ∧ (l.length : Int) ≤ m ∧ l.length ≤ c ∧ u64ok s ∧ (∃ b o, ∀ (w : World) (ex : Nat → Prop), Sp w ex I A l.length 4 b o (ntc l)) ∧ (∃ b o, ∀ (w : World) (ex : Nat → Prop), Sp w ex I B aa.length 1 b o (ic aa)) ∧ Mem w (fun b => b = bp) w' ((bp, .cells [.int .u64 s]) :: I)
theorem odds_any (s : Int) (bp : Nat) (n m : Int) (w : World) (hn : 0 ≤ n ∧ n ≤ 1000) (hm : 1 ≤ m ∧ m ≤ 1000) (hp : Bk w bp #[.int .u64 s]) (hs : u64ok s) :
  Calls Try.prog 46 #[.pointer (some ⟨bp, 0, none⟩), .int .i64 n, .int .i64 m] w (OddsPost bp w) := by
 refine Zpx (fun b => b = bp) Try.func46 rfl 13 rfl [.pointer (some ⟨bp, 0, none⟩), .int .i64 n, .int .i64 m] rfl rfl (Mem.initEx (p := .cells [.int .u64 s]) hp) ?_
 intro ac wc T M
 refine Zsr ?_
 refine lq T (Zra rfl evc) ?_; clear T ac; intro ac T
 replace T := T.pick [1, 2, 3] rfl
 refine Zln ?_
 refine Zsr ?_
 refine Zg3 T (Zq (Zrm rfl (T.e 0 rfl))) rfl (Zm 3 rfl rfl) rfl (fun _ T => Zq (rn_sub rfl (T.e 0 rfl) evc (by omega))) rfl ?_; clear T ac; intro ac T
 refine Zl2 ?_
 refine Zoc (first := []) (cap := []) T rfl rfl rfl rfl evf (.cons (T.e 2 rfl) (.cons (T.e 0 rfl) .nil)) Try.func19 rfl rfl ?_
 refine Calls.mono (upto_any _ bp (m - 1) _ (by omega) (by omega) (M.nth 0 rfl) hs) ?_
 clear T; rintro e wc ⟨xu1, su1, hxu1, hsu1, rfl, hgr, hbk⟩ ac T
 replace M := M.callC (cs' := [.int .u64 su1]) .head hgr hbk
 clear hgr hbk
 refine Zg3 T (Zq (Zrm rfl (T.e 5 rfl))) rfl (fun _ T => Zq (rn_lss rfl (T.e 1 rfl) (T.e 0 rfl))) rfl (Za 0 rfl rfl) rfl ?_; clear T ac; intro ac T
 replace T := T.pick [0] rfl
 refine Zln ?_
 refine wp_ret ?_
 refine rt_1 T rfl (T.e 0 rfl) ?_
 exact ⟨_, _, hsu1, rfl, M.grown, M.nth 0 rfl⟩
theorem pick_any (s : Int) (bp : Nat) (n : Int) (w : World) (hn : 0 ≤ n ∧ n ≤ 1000) (hp : Bk w bp #[.int .u64 s]) (hs : u64ok s) :
   Calls Try.prog 102 #[.pointer (some ⟨bp, 0, none⟩), .int .i64 n] w (IdxPost bp (Asc n) w) := by
 refine Zpx (fun b => b = bp) Try.func102 rfl 19 rfl [.pointer (some ⟨bp, 0, none⟩), .int .i64 n] rfl rfl (Mem.initEx (p := .cells [.int .u64 s]) hp) ?_
 intro ac wc T M
 refine Zsr ?_
 refine lq T (Zra rfl evc) ?_; clear T ac; intro ac T
 replace T := T.pick [1, 2] rfl
 refine Zln ?_
 refine Zsr ?_
 refine lq T (Zra rfl evc) ?_; clear T ac; intro ac T
 refine Zln ?_
 refine wp_seq ?_
 refine Zsr ?_
 refine lq T (Zra rfl evc) ?_; clear T ac; intro ac T
 refine Zln ?_
 refine wp_block ?_
 refine wp_loop_n (fun mz ac wc => ∃ (i : Int) (ol : List Int) (A3 : Option Addr) (c3 : Nat) (s : Int) (Io : List (Nat × BA)), mz = (n - i).toNat ∧ (0 ≤ i ∧ i ≤ n) ∧ (Asc i ol) ∧ ((ol.length : Int) ≤ i) ∧ (u64ok s) ∧ (Sl 3 1 (.slice A3 ol.length c3) ol.length (ic ol) Io) ∧ Tm ac 19 [(0, .pointer (some ⟨bp, 0, none⟩)), (1, .int .i64 n), (5, .slice A3 ol.length c3), (6, .int .i64 i)] ∧ Mem w (fun b => b = bp) wc ((bp, .cells [.int .u64 s]) :: Io)) ?_ ?_
 ·exact ⟨_, 0, [], none, 0, _, [], rfl, (by omega), (Asc.nil _), (by simp), hs, (Sl.nil _ _), T.pick [2, 3, 1, 0] rfl, M.mask [true] rfl⟩
 clear T M
 rintro mz ac wc ⟨i, ol, A3, c3, s, Io, hmm1, hi, ha, hol, hs, hsl, T, M⟩
 refine wp_seq ?_
 refine Zsr ?_
 refine Zg3 T (Zq (Zrm rfl (T.e 3 rfl))) rfl (Zm 2 rfl rfl) rfl (fun _ T => Zq (rn_lss rfl (T.e 1 rfl) (T.e 0 rfl))) rfl ?_; clear T ac; intro ac T
 replace T := T.pick [0, 3, 4, 5, 6] rfl
 refine Zln ?_
 refine wp_if (T.e 0 rfl) ?_ ?_
 ·intro h1
  refine Zsk ?_
  refine wp_seq ?_
  refine wp_block ?_
  refine Zsr ?_
  refine lq T (Zrm rfl (T.e 1 rfl)) ?_; clear T ac; intro ac T
  refine Zl2 ?_
  refine Zoc (first := []) (cap := []) T rfl rfl rfl rfl evf (.cons (T.e 0 rfl) (.cons evc (.cons evc .nil))) Try.func46 rfl rfl ?_
  refine Calls.mono (odds_any _ bp 1 2 _ (by omega) (by omega) (M.nth 0 rfl) hs) ?_
  clear T; rintro e wc ⟨bu1, su1, hsu1, rfl, hgr, hbk⟩ ac T
  replace M := M.callC (cs' := [.int .u64 su1]) .head hgr hbk
  clear hgr hbk
  replace T := T.pick [0, 3, 4, 5, 6] rfl
  refine Zln ?_
  refine wp_cond_split (T.e 0 rfl) ?_ ?_
  ·intro h2
   refine wp_region_lit ?_
   refine Zg2 T (Zq (Zrm rfl (T.e 3 rfl))) rfl (Zm 5 rfl rfl) rfl ?_; clear T ac; intro ac T
   refine Zl2 ?_
   refine ow_bs (e := 3) [.int .i64 i] M T rfl rfl rfl rfl (.cons (T.e 0 rfl) .nil) (fun _ => by kernel_rfl) ?_; clear M T; intro g1 wc ac M T
   refine Zl2 ?_
   refine ow_app ([(g1, .cells [.int .i64 i]), (bp, .cells [.int .u64 su1])]) Try.info3 hsl M (by first | rfl | simp) T rfl rfl rfl rfl Try.underlying28 rfl rfl rfl (by omega) (T.e 2 rfl) (T.e 0 rfl) (Zne (i := 0) rfl) rfl rfl ?_; clear M T; intro ga1 cga1 wc ac M T
   refine l_q (v := (.slice (some ⟨ga1, 0, none⟩) (ol.length + 1) cga1)) (T.pick [0, 1, 2, 3, 4, 5, 6, 8] rfl) rfl rfl rfl rfl (Zra rfl (T.e 0 rfl)) ?_; clear T ac; intro ac T
   refine wpList_nil ?_
   replace T := T.pick [0, 6, 7, 8] rfl
   replace M := M.mask [true, false, true] rfl
   refine Znb ?_
   refine nm_then ?_
   refine wp_region_lit ?_
   refine Zg2 T (Zq (Zrm rfl (T.e 3 rfl))) rfl (fun _ T => Zq (rn_add rfl (T.e 0 rfl) evc (by omega))) rfl ?_; clear T ac; intro ac T
   refine l_q (v := (.int .i64 (i + 1))) (T.pick [0, 1, 2, 3, 4] rfl) rfl rfl rfl rfl (Zra rfl (T.e 0 rfl)) ?_; clear T ac; intro ac T
   replace T := T.pick [0, 3, 4, 5] rfl
   refine Zln ?_
   have e9 : ol.length + 1 = (ol ++ [i]).length := by simp
   have e8 : ((ic ol) ++ [.int .i64 i]) = ic (ol ++ [i]) := by rw [← ic_snoc]
   rw [e9, e8] at M
   rw [e9] at T
   clear e9 e8
   exact ⟨_, by omega, (i + 1), (ol ++ [i]), _, _, su1, [(ga1, .row 3 1 (ol ++ [i]).length (ic (ol ++ [i])) cga1)], rfl, (by omega), (ha.snoc (by omega) (by omega)), (by simp only [List.length_append, List.length_cons, List.length_nil]; omega), hsu1, (Sl.row _ _ _ _ _ _), T.pick [2, 3, 1, 0] rfl, M.perm [1, 0] rfl rfl⟩
  intro h2
  refine wp_skip ?_
  refine Znb ?_
  refine nm_then ?_
  refine wp_region_lit ?_
  refine Zg2 T (Zq (Zrm rfl (T.e 4 rfl))) rfl (fun _ T => Zq (rn_add rfl (T.e 0 rfl) evc (by omega))) rfl ?_; clear T ac; intro ac T
  refine l_q (v := (.int .i64 (i + 1))) (T.pick [0, 1, 2, 3, 4, 5] rfl) rfl rfl rfl rfl (Zra rfl (T.e 0 rfl)) ?_; clear T ac; intro ac T
  replace T := T.pick [0, 4, 5, 6] rfl
  refine Zln ?_
  exact ⟨_, by omega, (i + 1), ol, _, _, su1, Io, rfl, (by omega), (ha.more (by omega)), (by omega), hsu1, hsl, T.pick [1, 2, 3, 0] rfl, M.permT [0] 1 rfl rfl rfl rfl⟩
 intro h1
 refine wp_exit ?_
 refine Zet ?_
 refine Zet ?_
 refine ex_hit ?_
 refine nm_then ?_
 refine Zsr ?_
 refine Zg2 T (Zq (Zrm rfl (T.e 3 rfl))) rfl (Za 0 rfl rfl) rfl ?_; clear T ac; intro ac T
 replace T := T.pick [0] rfl
 refine Zln ?_
 refine wp_ret ?_
 refine rt_1 T rfl (T.e 0 rfl) ?_
 obtain ⟨b9, o9, h9⟩ := hsl.spV (by rw [ic_length]; omega)
 have hcap := hsl.capLe M (.cons _ (List.Sublist.refl _))
 exact ⟨ol, A3, c3, _, Io, rfl, ha.more (by omega), hs, hcap, ⟨b9, o9, h9⟩, M.mask [true] rfl⟩
theorem secK {a s : Int} (ha : 0 ≤ a ∧ a ≤ 12) (hs : 1 ≤ s ∧ s ≤ 20) : 0 ≤ a * s ∧ a * s ≤ 240 :=
 ⟨Int.mul_nonneg ha.1 (by omega), by
  have h1 := Int.mul_le_mul ha.2 hs.2 (by omega) (by omega)
  omega⟩
set_option maxHeartbeats 2000000 in
theorem leakageOf_any (s : Int) (bp : Nat) (G : Option Addr) (n : Nat) (g : List Int)  (w : World) (hG : Rd w w.heap.size 1 G g.length (ic g)) (hne : ∀ b o, G = some ⟨b, o, none⟩ → b ≠ bp) (n4 : g.length ≤ 4) (h0 : 0 < g.length) (hg : ∀ v ∈ g, 0 ≤ v ∧ v ≤ 3) (hp : Bk w bp #[.int .u64 s]) (hs : u64ok s) :
   Calls Try.prog 47 #[.pointer (some ⟨bp, 0, none⟩), .slice G g.length n] w (LkOfPost bp g w) := by
 obtain ⟨bG, oG, SG⟩ := Sp.oldEx hG hne
 refine Zpx (fun b => b = bp) Try.func47 rfl 53 rfl [.pointer (some ⟨bp, 0, none⟩), .slice G g.length n] rfl rfl (Mem.initEx (p := .cells [.int .u64 s]) hp) ?_
 intro ac wc T M
 refine Zsr ?_
 refine Zl2 ?_
 refine Zoa M T rfl rfl rfl rfl ?_; clear M T; intro g1 wc ac M T
 refine Zln ?_
 refine Zsr ?_
 refine Zg3 T (Zq (Zrm rfl (T.e 1 rfl))) rfl (Zm 3 rfl rfl) rfl (Zl Try.underlying28 0 rfl rfl) rfl ?_; clear T ac; intro ac T
 refine Zl2 ?_
 refine Zoc (first := []) (cap := []) T rfl rfl rfl rfl evf (.cons (T.e 2 rfl) (.cons (T.e 0 rfl) .nil)) Try.func102 rfl rfl ?_
 refine Calls.mono (pick_any _ bp ((g.length : Nat) : Int) _ (by omega) (M.nth 1 rfl) hs) ?_
 clear T; rintro e wc ⟨lu1, Au1, cu1, su1, Iu1, rfl, hlu1, hsu1, hlcu1, ⟨bu1, ou1, hSlu1⟩, N⟩ ac T
 have SLu1 := hSlu1 w (fun b => b = bp)
 replace M := (M.joinW2 (.tail .head) N).swapI
 clear N
 replace M : Mem w (fun b => b = bp) wc ((g1, .cells [.slice none 0 0, .int .i64 0, .int .i64 0, .int .i64 0]) :: (bp, .cells [.int .u64 su1]) :: Iu1) := M
 refine lq T (Zrm rfl (T.e 5 rfl)) ?_; clear T ac; intro ac T
 refine Zl2 ?_
 refine Zoc (first := []) (cap := []) T rfl rfl rfl rfl evf (.cons (T.e 0 rfl) (.cons evc (.cons evc .nil))) Try.func20 rfl rfl ?_
 refine Calls.mono (within_pot _ bp 1 20 _ (by omega) (by omega) (by omega) (M.nth 1 rfl) hsu1) ?_
 clear T; rintro e wc ⟨xu2, su2, hxu2, hsu2, rfl, hgr, hbk⟩ ac T
 replace M := M.callC (cs' := [.int .u64 su2]) (.tail .head) hgr hbk
 clear hgr hbk
 refine lq (v := (.agg #[.slice Au1 lu1.length cu1, .int .i64 xu2, .int .i64 0, .int .i64 0])) T (rn_build rfl (.cons (T.e 2 rfl) (.cons (T.e 0 rfl) .nil)) (fun _ => by kernel_rfl)) ?_; clear T ac; intro ac T
 refine Zl2 ?_
 refine Zoa M T rfl rfl rfl rfl ?_; clear M T; intro g2 wc ac M T
 refine Zl2 ?_
 refine Zos M T rfl rfl (T.e 0 rfl) (T.e 1 rfl) rfl .head rfl (by simp) rfl (by kernel_rfl) ?_; clear M T; intro wc ac M T
 replace T := T.pick [0, 8, 9, 10] rfl
 refine Zln ?_
 refine wp_seq ?_
 refine Zsr ?_
 refine Zg4 (v1 := (.pointer (some ⟨g2, 0, none⟩))) T (Zq (Zrf (off := 0) rfl (T.e 0 rfl) (fun _ _ _ => by kernel_rfl))) rfl (Zo M 0 0 rfl rfl rfl rfl) rfl (Zl Try.underlying28 0 rfl rfl) rfl (fun _ T => Zq (rn_eql rfl (T.e 0 rfl) evc)) rfl ?_; clear T ac; intro ac T
 replace T := T.pick [0, 4, 5, 6, 7] rfl
 refine Zln ?_
 refine wp_if (T.e 0 rfl) ?_ ?_
 ·intro h1
  refine wp_region_lit ?_
  refine Zg4 T (Zq (Zrm rfl (T.e 3 rfl))) rfl (Zm 5 rfl rfl) rfl (Zl Try.underlying28 0 rfl rfl) rfl (fun _ T => Zq (rn_sub rfl (T.e 0 rfl) evc (by omega))) rfl ?_; clear T ac; intro ac T
  refine Zl2 ?_
  refine Zoc (first := []) (cap := []) T rfl rfl rfl rfl evf (.cons (T.e 3 rfl) (.cons (T.e 0 rfl) .nil)) Try.func19 rfl rfl ?_
  refine Calls.mono (upto_any _ bp (((g.length : Nat) : Int) - 1) _ (by omega) (by omega) (M.nth 2 rfl) hsu2) ?_
  clear T; rintro e wc ⟨xu3, su3, hxu3, hsu3, rfl, hgr, hbk⟩ ac T
  replace M := M.callC (cs' := [.int .u64 su3]) (.tail (.tail .head)) hgr hbk
  clear hgr hbk
  refine Zl2 ?_
  refine ow_bs (e := 3) [.int .i64 xu3] M T rfl rfl rfl rfl (.cons (T.e 0 rfl) .nil) (fun _ => by kernel_rfl) ?_; clear M T; intro g3 wc ac M T
  refine lq (v := (.pointer (some ⟨g2, 0, none⟩))) T (Zrf (off := 0) rfl (T.e 7 rfl) (fun _ _ _ => by kernel_rfl)) ?_; clear T ac; intro ac T
  refine Zl2 ?_
  refine Zos M T rfl rfl (T.e 0 rfl) (T.e 1 rfl) rfl (.tail .head) rfl (by simp) rfl (by kernel_rfl) ?_; clear M T; intro wc ac M T
  replace T := T.pick [8, 9, 10, 11] rfl
  refine Zln ?_
  refine wp_seq ?_
  have SX := Sp.cells (w := w) (ex := (fun b => b = bp)) (g := g3) (xs := ic [xu3]) (n := 1) (size := 1) (by rfl)
  have hac : Asc g.length [xu3] := ⟨fun y hy => by rw [List.mem_singleton.1 hy]; omega, List.pairwise_singleton _ _⟩
  refine wp_region_lit ?_
  refine lq T (Zra rfl evc) ?_; clear T ac; intro ac T
  refine Zln ?_
  refine wp_seq ?_
  refine Zsr ?_
  refine lq T (Zra rfl evc) ?_; clear T ac; intro ac T
  refine Zln ?_
  refine wp_block ?_
  refine wp_loop_n (fun mz ac wc => ∃ (k : Nat) (s9 : Int), mz = 1 - k ∧ (k ≤ 1) ∧ (s9 = totL g (([xu3]).take k)) ∧ (0 ≤ s9 ∧ s9 ≤ 3 * (k : Int)) ∧ Tm ac 53 [(0, .pointer (some ⟨bp, 0, none⟩)), (1, .slice G g.length n), (4, .pointer (some ⟨g1, 0, none⟩)), (5, .pointer (some ⟨g2, 0, none⟩)), (6, .int .i64 s9), (7, .int .i64 (k : Int))] ∧ Mem w (fun b => b = bp) wc ((g3, .cells [.int .i64 xu3]) :: (g2, .cells [.slice (some ⟨g3, 0, none⟩) 1 1, .int .i64 xu2, .int .i64 0, .int .i64 0]) :: (g1, .cells [.slice none 0 0, .int .i64 0, .int .i64 0, .int .i64 0]) :: (bp, .cells [.int .u64 su3]) :: Iu1)) ?_ ?_
  ·exact ⟨_, 0, 0, rfl, (Nat.zero_le _), rfl, (by omega), T.pick [4, 5, 3, 2, 1, 0] rfl, M.mask [true, true, true, true] rfl⟩
  clear T M
  rintro mz ac wc ⟨k, s9, hmm1, hk, H, hs9, T, M⟩
  refine wp_seq ?_
  refine Zsr ?_
  refine Zg5 (v2 := (.pointer (some ⟨g2, 0, none⟩))) (v4 := (.int .i64 1)) T (Zq (Zrm rfl (T.e 5 rfl))) rfl (Zf 0 4 rfl rfl) rfl (Zo M 1 0 rfl rfl rfl rfl) rfl (Zl Try.underlying28 0 rfl rfl) rfl (fun _ T => Zq (rn_lss rfl (T.e 3 rfl) (T.e 0 rfl))) rfl ?_; clear T ac; intro ac T
  replace T := T.pick [0, 5, 6, 7, 8, 9, 10] rfl
  refine Zln ?_
  refine wp_if (T.e 0 rfl) ?_ ?_
  ·intro h2
   obtain ⟨c, hkc, -⟩ := ic_next (l := ([xu3])) (k := k) (by first | omega | (simp; omega))
   have hc4 := hac.1 c (List.mem_of_getElem? hkc)
   obtain ⟨v, hkv, -⟩ := ic_next (l := g) (k := c.toNat) (by omega)
   have hv3 := hg v (List.mem_of_getElem? hkv)
   have htk := totL_succ g ([xu3]) hkc
   have hgv : g.getD c.toNat 0 = v := by rw [List.getD_eq_getElem?_getD, hkv]; rfl
   have hl9 := hac.len
   refine Zsk ?_
   refine wp_seq ?_
   refine wp_block ?_
   refine wp_region_lit ?_
   refine Zg8 (v3 := (.pointer (some ⟨g2, 0, none⟩))) T (Zq (Zrm rfl (T.e 5 rfl))) rfl (Zm 3 rfl rfl) rfl (Zf 0 6 rfl rfl) rfl (Zo M 1 0 rfl rfl rfl rfl) rfl (Zm 10 rfl rfl) rfl (fun _ T => Zq (Zri (size := 1) k rfl (T.e 1 rfl) (T.e 0 rfl) ⟨_, Try.underlying28, by kernel_rfl⟩ rfl (by omega) (SX.at0 (by omega)))) rfl (fun _ T => Zq (rn_cell (Sp.ic0 SX M (List.Sublist.cons_cons _ (Zz9 _)) hkc) rfl (T.e 0 rfl))) rfl (fun _ T => Zq (Zri (size := 1) c.toNat rfl (T.e 5 rfl) (T.e 0 rfl) ⟨_, Try.underlying28, by kernel_rfl⟩ (by omega) (by omega) (SG.at0 (by omega)))) rfl ?_; clear T ac; intro ac T
   refine Zg2 T (Zq (rn_cell (Sp.ic0 SG M (Zz9 _) hkv) rfl (T.e 0 rfl))) rfl (fun _ T => Zq (rn_add rfl (T.e 8 rfl) (T.e 0 rfl) (by omega))) rfl ?_; clear T ac; intro ac T
   refine l_q (v := (.int .i64 (s9 + v))) (T.pick [0, 1, 2, 3, 4, 5, 6, 7, 8, 9, 10, 11, 12, 13, 14, 16] rfl) rfl rfl rfl rfl (Zra rfl (T.e 0 rfl)) ?_; clear T ac; intro ac T
   refine wpList_nil ?_
   replace T := T.pick [0, 12, 13, 14, 15, 16] rfl
   refine Znb ?_
   refine nm_then ?_
   refine wp_region_lit ?_
   refine Zg2 T (Zq (Zrm rfl (T.e 5 rfl))) rfl (fun _ T => Zq (rn_add rfl (T.e 0 rfl) evc (by omega))) rfl ?_; clear T ac; intro ac T
   refine l_q (v := (.int .i64 ((k : Int) + 1))) (T.pick [0, 1, 2, 3, 4, 5, 6] rfl) rfl rfl rfl rfl (Zra rfl (T.e 0 rfl)) ?_; clear T ac; intro ac T
   replace T := T.pick [0, 3, 4, 5, 6, 7] rfl
   refine Zln ?_
   exact ⟨_, by omega, k + 1, (s9 + v), rfl, (by first | omega | (simp; omega)), (by rw [htk, hgv, ← H]), (by push_cast; omega), T.pick [2, 3, 4, 5, 1, 0] rfl, M.mask [true, true, true, true] rfl⟩
  intro h2
  rw [List.take_of_length_le (by first | omega | (simp; omega))] at H
  have hl9 := hac.len
  have hm9 := secK (a := s9) (s := xu2) (by omega) (by omega)
  refine wp_exit ?_
  refine Zet ?_
  refine Zet ?_
  refine ex_hit ?_
  refine nm_then ?_
  refine Zsr ?_
  refine Zg7 (v3 := (.pointer (some ⟨g2, 1, none⟩))) (v6 := (.pointer (some ⟨g2, 1, none⟩))) T (Zq (Zrm rfl (T.e 1 rfl))) rfl (Zm 6 rfl rfl) rfl (Zf 1 6 rfl rfl) rfl (Zo M 1 0 rfl rfl rfl rfl) rfl (fun _ T => Zq (rn_mul rfl (T.e 2 rfl) (T.e 0 rfl) (by omega))) rfl (Zf 1 9 rfl rfl) rfl (Zo M 1 0 rfl rfl rfl rfl) rfl ?_; clear T ac; intro ac T
  refine Zl2 ?_
  refine Zoc (first := []) (cap := []) T rfl rfl rfl rfl evf (.cons (T.e 6 rfl) (.cons (T.e 2 rfl) (.cons evc (.cons evc (.cons (T.e 0 rfl) .nil))))) Try.func73 rfl rfl ?_
  refine Calls.mono (near_pot _ bp (s9 * xu2) 0 400 xu2 _ (by omega) (by omega) (by omega) (by omega) (by omega) (by omega) (M.nth 3 rfl) hsu3) ?_
  clear T; rintro e wc ⟨xu4, yu4, su4, hxu4, hsu4, rfl, hgr, hbk⟩ ac T
  replace M := M.callC (cs' := [.int .u64 su4]) (.tail (.tail (.tail .head))) hgr hbk
  clear hgr hbk
  refine lq (v := (.pointer (some ⟨g2, 2, none⟩))) T (Zrf (off := 2) rfl (T.e 12 rfl) (fun _ _ _ => by kernel_rfl)) ?_; clear T ac; intro ac T
  refine Zl2 ?_
  refine Zos M T rfl rfl (T.e 0 rfl) (T.e 1 rfl) rfl (.tail .head) rfl (by simp) rfl (by kernel_rfl) ?_; clear M T; intro wc ac M T
  replace T := T.pick [12, 13] rfl
  refine Zln ?_
  refine Zsr ?_
  refine lq T (Zrr (Mem.nth M 1 rfl) rfl (T.e 1 rfl) rfl) ?_; clear T ac; intro ac T
  refine Zl2 ?_
  refine Zos M T rfl rfl (T.e 1 rfl) (T.e 0 rfl) rfl (.tail (.tail .head)) rfl (by simp) rfl (by kernel_rfl) ?_; clear M T; intro wc ac M T
  refine wpList_nil ?_
  replace T := T.pick [1] rfl
  replace M := M.mask [true, false, true, true] rfl
  refine Znr ?_
  refine rt_c M T rfl (T.e 0 rfl) (Zne (i := 1) rfl) rfl ?_
  refine ⟨⟨some ⟨g3, 0, none⟩, 1, [xu3], xu2, xu4, yu4⟩, _, [(g3, .cells (ic [xu3]))], rfl, ⟨Nat.one_ne_zero, hac, by dsimp only; omega, ?_⟩, hsu4, ⟨g3, 0, fun w ex => Sp.cells (by rfl)⟩, (M.permT [2, 0] 3 rfl rfl rfl rfl).sub (Zsl ([(bp, .cells [.int .u64 su4]), (g3, .cells [.int .i64 xu3])] : List (Nat × BA)) _)⟩
  dsimp only
  rw [← H]
  omega
 intro h1
 refine Zsk ?_
 refine wp_seq ?_
 have hac : Asc g.length lu1 := hlu1
 have hne9 : lu1.length ≠ 0 := by omega
 refine wp_region_lit ?_
 refine lq T (Zra rfl evc) ?_; clear T ac; intro ac T
 replace T := T.pick [0, 2, 3, 4, 5] rfl
 refine Zln ?_
 refine wp_seq ?_
 refine Zsr ?_
 refine lq T (Zra rfl evc) ?_; clear T ac; intro ac T
 refine Zln ?_
 refine wp_block ?_
 refine wp_loop_n (fun mz ac wc => ∃ (k : Nat) (s9 : Int), mz = lu1.length - k ∧ (k ≤ lu1.length) ∧ (s9 = totL g (lu1.take k)) ∧ (0 ≤ s9 ∧ s9 ≤ 3 * (k : Int)) ∧ Tm ac 53 [(0, .pointer (some ⟨bp, 0, none⟩)), (1, .slice G g.length n), (4, .pointer (some ⟨g1, 0, none⟩)), (5, .pointer (some ⟨g2, 0, none⟩)), (6, .int .i64 s9), (7, .int .i64 (k : Int))] ∧ Mem w (fun b => b = bp) wc ((g2, .cells [.slice Au1 lu1.length cu1, .int .i64 xu2, .int .i64 0, .int .i64 0]) :: (g1, .cells [.slice none 0 0, .int .i64 0, .int .i64 0, .int .i64 0]) :: (bp, .cells [.int .u64 su2]) :: Iu1)) ?_ ?_
 ·exact ⟨_, 0, 0, rfl, (Nat.zero_le _), rfl, (by omega), T.pick [4, 5, 3, 2, 1, 0] rfl, M.mask [true, true, true] rfl⟩
 clear T M
 rintro mz ac wc ⟨k, s9, hmm1, hk, H, hs9, T, M⟩
 refine wp_seq ?_
 refine Zsr ?_
 refine Zg5 (v2 := (.pointer (some ⟨g2, 0, none⟩))) T (Zq (Zrm rfl (T.e 5 rfl))) rfl (Zf 0 4 rfl rfl) rfl (Zo M 0 0 rfl rfl rfl rfl) rfl (Zl Try.underlying28 0 rfl rfl) rfl (fun _ T => Zq (rn_lss rfl (T.e 3 rfl) (T.e 0 rfl))) rfl ?_; clear T ac; intro ac T
 replace T := T.pick [0, 5, 6, 7, 8, 9, 10] rfl
 refine Zln ?_
 refine wp_if (T.e 0 rfl) ?_ ?_
 ·intro h3
  obtain ⟨c, hkc, -⟩ := ic_next (l := lu1) (k := k) (by first | omega | (simp; omega))
  have hc4 := hac.1 c (List.mem_of_getElem? hkc)
  obtain ⟨v, hkv, -⟩ := ic_next (l := g) (k := c.toNat) (by omega)
  have hv3 := hg v (List.mem_of_getElem? hkv)
  have htk := totL_succ g lu1 hkc
  have hgv : g.getD c.toNat 0 = v := by rw [List.getD_eq_getElem?_getD, hkv]; rfl
  have hl9 := hac.len
  refine Zsk ?_
  refine wp_seq ?_
  refine wp_block ?_
  refine wp_region_lit ?_
  refine Zg8 (v3 := (.pointer (some ⟨g2, 0, none⟩))) T (Zq (Zrm rfl (T.e 5 rfl))) rfl (Zm 3 rfl rfl) rfl (Zf 0 6 rfl rfl) rfl (Zo M 0 0 rfl rfl rfl rfl) rfl (Zm 10 rfl rfl) rfl (fun _ T => Zq (Zri (size := 1) k rfl (T.e 1 rfl) (T.e 0 rfl) ⟨_, Try.underlying28, by kernel_rfl⟩ rfl (by omega) (SLu1.at0 (by omega)))) rfl (fun _ T => Zq (rn_cell (Sp.ic0 SLu1 M (.cons _ (.cons _ (.cons _ (List.Sublist.refl _)))) hkc) rfl (T.e 0 rfl))) rfl (fun _ T => Zq (Zri (size := 1) c.toNat rfl (T.e 5 rfl) (T.e 0 rfl) ⟨_, Try.underlying28, by kernel_rfl⟩ (by omega) (by omega) (SG.at0 (by omega)))) rfl ?_; clear T ac; intro ac T
  refine Zg2 T (Zq (rn_cell (Sp.ic0 SG M (Zz9 _) hkv) rfl (T.e 0 rfl))) rfl (fun _ T => Zq (rn_add rfl (T.e 8 rfl) (T.e 0 rfl) (by omega))) rfl ?_; clear T ac; intro ac T
  refine l_q (v := (.int .i64 (s9 + v))) (T.pick [0, 1, 2, 3, 4, 5, 6, 7, 8, 9, 10, 11, 12, 13, 14, 16] rfl) rfl rfl rfl rfl (Zra rfl (T.e 0 rfl)) ?_; clear T ac; intro ac T
  refine wpList_nil ?_
  replace T := T.pick [0, 12, 13, 14, 15, 16] rfl
  refine Znb ?_
  refine nm_then ?_
  refine wp_region_lit ?_
  refine Zg2 T (Zq (Zrm rfl (T.e 5 rfl))) rfl (fun _ T => Zq (rn_add rfl (T.e 0 rfl) evc (by omega))) rfl ?_; clear T ac; intro ac T
  refine l_q (v := (.int .i64 ((k : Int) + 1))) (T.pick [0, 1, 2, 3, 4, 5, 6] rfl) rfl rfl rfl rfl (Zra rfl (T.e 0 rfl)) ?_; clear T ac; intro ac T
  replace T := T.pick [0, 3, 4, 5, 6, 7] rfl
  refine Zln ?_
  exact ⟨_, by omega, k + 1, (s9 + v), rfl, (by first | omega | (simp; omega)), (by rw [htk, hgv, ← H]), (by push_cast; omega), T.pick [2, 3, 4, 5, 1, 0] rfl, M.mask [true, true, true] rfl⟩
 intro h3
 rw [List.take_of_length_le (by first | omega | (simp; omega))] at H
 have hl9 := hac.len
 have hm9 := secK (a := s9) (s := xu2) (by omega) (by omega)
 refine wp_exit ?_
 refine Zet ?_
 refine Zet ?_
 refine ex_hit ?_
 refine nm_then ?_
 refine Zsr ?_
 refine Zg7 (v3 := (.pointer (some ⟨g2, 1, none⟩))) (v6 := (.pointer (some ⟨g2, 1, none⟩))) T (Zq (Zrm rfl (T.e 1 rfl))) rfl (Zm 6 rfl rfl) rfl (Zf 1 6 rfl rfl) rfl (Zo M 0 0 rfl rfl rfl rfl) rfl (fun _ T => Zq (rn_mul rfl (T.e 2 rfl) (T.e 0 rfl) (by omega))) rfl (Zf 1 9 rfl rfl) rfl (Zo M 0 0 rfl rfl rfl rfl) rfl ?_; clear T ac; intro ac T
 refine Zl2 ?_
 refine Zoc (first := []) (cap := []) T rfl rfl rfl rfl evf (.cons (T.e 6 rfl) (.cons (T.e 2 rfl) (.cons evc (.cons evc (.cons (T.e 0 rfl) .nil))))) Try.func73 rfl rfl ?_
 refine Calls.mono (near_pot _ bp (s9 * xu2) 0 400 xu2 _ (by omega) (by omega) (by omega) (by omega) (by omega) (by omega) (M.nth 2 rfl) hsu2) ?_
 clear T; rintro e wc ⟨xu5, yu5, su5, hxu5, hsu5, rfl, hgr, hbk⟩ ac T
 replace M := M.callC (cs' := [.int .u64 su5]) (.tail (.tail .head)) hgr hbk
 clear hgr hbk
 refine lq (v := (.pointer (some ⟨g2, 2, none⟩))) T (Zrf (off := 2) rfl (T.e 12 rfl) (fun _ _ _ => by kernel_rfl)) ?_; clear T ac; intro ac T
 refine Zl2 ?_
 refine Zos M T rfl rfl (T.e 0 rfl) (T.e 1 rfl) rfl .head rfl (by simp) rfl (by kernel_rfl) ?_; clear M T; intro wc ac M T
 replace T := T.pick [12, 13] rfl
 refine Zln ?_
 refine Zsr ?_
 refine lq T (Zrr (Mem.nth M 0 rfl) rfl (T.e 1 rfl) rfl) ?_; clear T ac; intro ac T
 refine Zl2 ?_
 refine Zos M T rfl rfl (T.e 1 rfl) (T.e 0 rfl) rfl (.tail .head) rfl (by simp) rfl (by kernel_rfl) ?_; clear M T; intro wc ac M T
 refine wpList_nil ?_
 replace T := T.pick [1] rfl
 replace M := M.mask [false, true, true] rfl
 refine Znr ?_
 refine rt_c M T rfl (T.e 0 rfl) (Zne (i := 0) rfl) rfl ?_
 refine ⟨⟨Au1, cu1, lu1, xu2, xu5, yu5⟩, _, Iu1, rfl, ⟨hne9, hac, by dsimp only; omega, ?_⟩, hsu5, ⟨_, _, hSlu1⟩, M.mask [false, true] rfl⟩
 dsimp only
 rw [← H]
 omega
set_option maxHeartbeats 2000000 in
theorem pieceOf_any (s : Int) (bp : Nat) (m : Int)  (w : World) (hm : 0 ≤ m ∧ m ≤ 6) (hp : Bk w bp #[.int .u64 s]) (hs : u64ok s) :
   Calls Try.prog 25 #[.pointer (some ⟨bp, 0, none⟩), .int .i64 m] w (PcPost bp m w) := by
 refine Zpx (fun b => b = bp) Try.func25 rfl 36 rfl [.pointer (some ⟨bp, 0, none⟩), .int .i64 m] rfl rfl (Mem.initEx (p := .cells [.int .u64 s]) hp) ?_
 intro ac wc T M
 refine Zsr ?_
 refine Zg2 T (Zq (Zra rfl evc)) rfl (Zc rfl) rfl ?_; clear T ac; intro ac T
 replace T := T.pick [2, 3] rfl
 refine Zln ?_
 refine Zsr ?_
 refine lq T (Zra rfl evc) ?_; clear T ac; intro ac T
 refine Zln ?_
 refine Zsr ?_
 refine lq T (Zra rfl evc) ?_; clear T ac; intro ac T
 refine Zln ?_
 refine wp_seq ?_
 refine Zsr ?_
 refine Zg2 T (Zq (Zrm rfl (T.e 2 rfl))) rfl (Zm 4 rfl rfl) rfl ?_; clear T ac; intro ac T
 refine Zl2 ?_
 refine Zoc (first := []) (cap := []) T rfl rfl rfl rfl evf (.cons (T.e 1 rfl) (.cons (T.e 0 rfl) .nil)) Try.func19 rfl rfl ?_
 refine Calls.mono (upto_any _ bp m _ (by omega) (by omega) (M.nth 0 rfl) hs) ?_
 clear T; rintro e wc ⟨xu1, su1, hxu1, hsu1, rfl, hgr, hbk⟩ ac T
 replace M := M.callC (cs' := [.int .u64 su1]) .head hgr hbk
 clear hgr hbk
 refine lq T (Zra rfl (T.e 0 rfl)) ?_; clear T ac; intro ac T
 replace T := T.pick [0, 4, 5, 6] rfl
 refine Zln ?_
 refine wp_block ?_
 refine wp_loop_n (fun mz ac wc => ∃ (i : Int) (ol : List Nt) (al : List Int) (A3 : Option Addr) (c3 : Nat) (A4 : Option Addr) (c4 : Nat) (s : Int) (Io Ia : List (Nat × BA)), mz = i.toNat ∧ (0 ≤ i) ∧ ((ol.length : Int) + i ≤ m) ∧ (al.length = ol.length) ∧ (NtsTrue ol al) ∧ (u64ok s) ∧ (Sl 70 4 (.slice A3 ol.length c3) ol.length (ntc ol) Io) ∧ (Sl 3 1 (.slice A4 al.length c4) al.length (ic al) Ia) ∧ Tm ac 36 [(0, .pointer (some ⟨bp, 0, none⟩)), (6, .slice A3 ol.length c3), (7, .slice A4 al.length c4), (8, .int .i64 i)] ∧ Mem w (fun b => b = bp) wc ((bp, .cells [.int .u64 s]) :: (Io ++ Ia))) ?_ ?_
 ·exact ⟨_, xu1, [], [], none, 0, none, 0, _, [], [], rfl, (by omega), (by simp only [List.length_nil]; omega), rfl, trivial, hsu1, (Sl.nil _ _), (Sl.nil _ _), T.pick [3, 2, 1, 0] rfl, M.mask [true] rfl⟩
 clear T M
 rintro mz ac wc ⟨i, ol, al, A3, c3, A4, c4, s, Io, Ia, hmm1, hi, hol, hal, hT, hs, hsl, hsa, T, M⟩
 refine wp_seq ?_
 refine Zsr ?_
 refine Zg2 T (Zq (Zrm rfl (T.e 3 rfl))) rfl (fun _ T => Zq (rn_gtr rfl (T.e 0 rfl) evc)) rfl ?_; clear T ac; intro ac T
 replace T := T.pick [0, 2, 3, 4, 5] rfl
 refine Zln ?_
 refine wp_if (T.e 0 rfl) ?_ ?_
 ·intro h1
  refine Zsk ?_
  refine wp_seq ?_
  refine wp_block ?_
  refine Zsr ?_
  refine lq T (Zrm rfl (T.e 1 rfl)) ?_; clear T ac; intro ac T
  refine Zl2 ?_
  refine Zoc (first := []) (cap := []) T rfl rfl rfl rfl evf (.cons (T.e 0 rfl) (.cons evc .nil)) Try.func19 rfl rfl ?_
  refine Calls.mono (upto_any _ bp 4 _ (by omega) (by omega) (M.nth 0 rfl) hs) ?_
  clear T; rintro e wc ⟨xu2, su2, hxu2, hsu2, rfl, hgr, hbk⟩ ac T
  replace M := M.callC (cs' := [.int .u64 su2]) .head hgr hbk
  clear hgr hbk
  refine lq T (Zra rfl (T.e 0 rfl)) ?_; clear T ac; intro ac T
  replace T := T.pick [0, 4, 5, 6, 7] rfl
  refine Zln ?_
  refine Zsr ?_
  refine Zg2 T (Zq (Zrm rfl (T.e 3 rfl))) rfl (Zm 1 rfl rfl) rfl ?_; clear T ac; intro ac T
  refine Zl2 ?_
  refine ow_bs (e := 3) [.int .i64 xu2] M T rfl rfl rfl rfl (.cons (T.e 0 rfl) .nil) (fun _ => by kernel_rfl) ?_; clear M T; intro g1 wc ac M T
  refine Zl2 ?_
  refine ow_app (((g1, .cells [.int .i64 xu2]) :: (bp, .cells [.int .u64 su2]) :: Io)) Try.info3 hsa M (by first | rfl | simp) T rfl rfl rfl rfl Try.underlying28 rfl rfl rfl (by omega) (T.e 2 rfl) (T.e 0 rfl) (Zne (i := 0) rfl) rfl rfl ?_; clear M T; intro ga1 cga1 wc ac M T
  refine l_q (v := (.slice (some ⟨ga1, 0, none⟩) (al.length + 1) cga1)) (T.pick [0, 1, 2, 3, 4, 5, 6, 8] rfl) rfl rfl rfl rfl (Zra rfl (T.e 0 rfl)) ?_; clear T ac; intro ac T
  refine wpList_nil ?_
  replace T := T.pick [0, 5, 6, 7, 8] rfl
  replace M := M.mask [true, false, true] rfl
  refine nm_then ?_
  refine wp_region_lit ?_
  refine Zg2 T (Zq (Zrm rfl (T.e 3 rfl))) rfl (Zm 3 rfl rfl) rfl ?_; clear T ac; intro ac T
  refine Zl2 ?_
  refine Zoc (first := []) (cap := []) T rfl rfl rfl rfl evf (.cons (T.e 0 rfl) (.cons evc (.cons evc .nil))) Try.func20 rfl rfl ?_
  refine Calls.mono (within_pot _ bp 1 8 _ (by omega) (by omega) (by omega) (M.nth 1 rfl) hsu2) ?_
  clear T; rintro e wc ⟨xu3, su3, hxu3, hsu3, rfl, hgr, hbk⟩ ac T
  replace M := M.callC (cs' := [.int .u64 su3]) (.tail .head) hgr hbk
  clear hgr hbk
  refine Zg2 T (Zq (Zrm rfl (T.e 5 rfl))) rfl (Zm 5 rfl rfl) rfl ?_; clear T ac; intro ac T
  refine Zl2 ?_
  refine Zoc (first := []) (cap := []) T rfl rfl rfl rfl evf (.cons (T.e 1 rfl) (.cons (T.e 0 rfl) (.cons evc (.cons evc (.cons evc .nil))))) Try.func73 rfl rfl ?_
  refine Calls.mono (near_pot _ bp xu2 0 9 2 _ (by omega) (by omega) (by omega) (by omega) (by omega) (by omega) (M.nth 1 rfl) hsu3) ?_
  clear T; rintro e wc ⟨xu4, yu4, su4, hxu4, hsu4, rfl, hgr, hbk⟩ ac T
  replace M := M.callC (cs' := [.int .u64 su4]) (.tail .head) hgr hbk
  clear hgr hbk
  refine lq T (Zrm rfl (T.e 8 rfl)) ?_; clear T ac; intro ac T
  refine Zl2 ?_
  refine Zoc (first := []) (cap := []) T rfl rfl rfl rfl evf (.cons (T.e 0 rfl) (.cons evc (.cons evc .nil))) Try.func46 rfl rfl ?_
  refine Calls.mono (odds_any _ bp 1 2 _ (by omega) (by omega) (M.nth 1 rfl) hsu4) ?_
  clear T; rintro e wc ⟨bu5, su5, hsu5, rfl, hgr, hbk⟩ ac T
  replace M := M.callC (cs' := [.int .u64 su5]) (.tail .head) hgr hbk
  clear hgr hbk
  refine lq (v := (.agg #[.int .i64 xu3, .int .i64 xu4, .int .i64 yu4, .bool bu5])) T (rn_build rfl (.cons (T.e 5 rfl) (.cons (T.e 2 rfl) (.cons (T.e 0 rfl) .nil))) (fun _ => by kernel_rfl)) ?_; clear T ac; intro ac T
  refine Zl2 ?_
  refine ow_bs (e := 70) [.int .i64 xu3, .int .i64 xu4, .int .i64 yu4, .bool bu5] M T rfl rfl rfl rfl (.cons (T.e 0 rfl) .nil) (fun _ => by kernel_rfl) ?_; clear M T; intro g2 wc ac M T
  refine Zl2 ?_
  refine ow_app ([(g2, .cells [.int .i64 xu3, .int .i64 xu4, .int .i64 yu4, .bool bu5]), (ga1, .row 3 1 (al.length + 1) ((ic al) ++ [.int .i64 xu2]) cga1), (bp, .cells [.int .u64 su5])]) Try.info70 hsl M (by first | rfl | simp) T rfl rfl rfl rfl Try.underlying44 rfl rfl rfl (by omega) (T.e 9 rfl) (T.e 0 rfl) (Zne (i := 0) rfl) rfl rfl ?_; clear M T; intro ga2 cga2 wc ac M T
  refine l_q (v := (.slice (some ⟨ga2, 0, none⟩) (ol.length + 1) cga2)) (T.pick [0, 1, 2, 3, 4, 5, 6, 7, 8, 9, 10, 11, 12, 13, 15] rfl) rfl rfl rfl rfl (Zra rfl (T.e 0 rfl)) ?_; clear T ac; intro ac T
  refine wpList_nil ?_
  replace T := T.pick [0, 12, 14, 15] rfl
  replace M := M.mask [true, false, true, true] rfl
  refine Znb ?_
  refine nm_then ?_
  refine wp_region_lit ?_
  refine Zg2 T (Zq (Zrm rfl (T.e 3 rfl))) rfl (fun _ T => Zq (rn_sub rfl (T.e 0 rfl) evc (by omega))) rfl ?_; clear T ac; intro ac T
  refine l_q (v := (.int .i64 (i - 1))) (T.pick [0, 1, 2, 3, 4] rfl) rfl rfl rfl rfl (Zra rfl (T.e 0 rfl)) ?_; clear T ac; intro ac T
  replace T := T.pick [0, 3, 4, 5] rfl
  refine Zln ?_
  have e9 : al.length + 1 = (al ++ [xu2]).length := by simp
  have e8 : ((ic al) ++ [.int .i64 xu2]) = ic (al ++ [xu2]) := by rw [← ic_snoc]
  rw [e9, e8] at M
  rw [e9] at T
  clear e9 e8
  have e9 : ol.length + 1 = (ol ++ [(⟨xu3, xu4, yu4, bu5⟩ : Nt)]).length := by simp
  have e8 : ((ntc ol) ++ [.int .i64 xu3, .int .i64 xu4, .int .i64 yu4, .bool bu5]) = ntc (ol ++ [(⟨xu3, xu4, yu4, bu5⟩ : Nt)]) := by rw [← ntc_snoc]
  rw [e9, e8] at M
  rw [e9] at T
  clear e9 e8
  exact ⟨_, by omega, (i - 1), (ol ++ [(⟨xu3, xu4, yu4, bu5⟩ : Nt)]), (al ++ [xu2]), _, _, _, _, su5, [(ga2, .row 70 4 (ol ++ [(⟨xu3, xu4, yu4, bu5⟩ : Nt)]).length (ntc (ol ++ [(⟨xu3, xu4, yu4, bu5⟩ : Nt)])) cga2)], [(ga1, .row 3 1 (al ++ [xu2]).length (ic (al ++ [xu2])) cga1)], rfl, (by omega), (by simp only [List.length_append, List.length_cons, List.length_nil]; omega), (by simp [hal]), (hT.snoc (by unfold NtTrue; dsimp only; omega)), hsu5, (Sl.row _ _ _ _ _ _), (Sl.row _ _ _ _ _ _), T.pick [3, 1, 2, 0] rfl, M.perm [2, 0, 1] rfl rfl⟩
 intro h1
 refine wp_exit ?_
 refine Zet ?_
 refine Zet ?_
 refine ex_hit ?_
 refine nm_then ?_
 refine Zsr ?_
 refine Zg4 T (Zq (Zrm rfl (T.e 2 rfl))) rfl (Zm 4 rfl rfl) rfl (Za 1 rfl rfl) rfl (Za 1 rfl rfl) rfl ?_; clear T ac; intro ac T
 replace T := T.pick [0, 1] rfl
 refine Zln ?_
 refine wp_ret ?_
 refine rt_2 T rfl (T.e 1 rfl) (T.e 0 rfl) ?_
 obtain ⟨b9, o9, h9⟩ := hsl.spV (ntc_length _)
 obtain ⟨b8, o8, h8⟩ := hsa.spV (by simp [ic_length])
 have hcap := hsl.capLe M (.cons _ (subL (List.Sublist.refl _)))
 exact ⟨ol, al, A3, c3, A4, c4, _, Io ++ Ia, rfl, hT, hal, by omega, hcap, hs, ⟨b9, o9, fun w ex => (h9 w ex).mono (Zsl _ _)⟩, ⟨b8, o8, fun w ex => (h8 w ex).mono (Zsq _ _)⟩, M.mask [true] rfl⟩
section
variable {P : Program} {fn : Func} {R : Ending → World → Prop} {a : Act} {w0 w : World} {ex : Nat → Prop} {L : List (Nat × BA)} {n : Nat} {E : List (Nat × Value)}
theorem rt_ctt {t t' t2 : Tmp} {ty : TypeId} {m g : Nat} [hT : RowTy P ty m] {v v2 : Value} {cs : List Value} (M : Mem w0 ex w L) (T : Tm a n E) (hr : fn.results = #[.cell t ty, .tmp t', .tmp t2])
  (hx : a.eval (.tmp t) = .pointer (some ⟨g, 0, none⟩)) (hx' : a.eval (.tmp t') = v) (hx2 : a.eval (.tmp t2) = v2) (hm : (g, BA.cells cs) ∈ L) (hn : cs.length = m) (h : R (.returned (.tuple #[.agg cs.toArray, v, v2])) w) : bodyPost P fn R .ret a w := by
 obtain ⟨d, hu, hw⟩ := hT.row
 refine ⟨T.defers, .tuple #[.agg cs.toArray, v, v2], ?_, h⟩
 have hB := M.get hm
 have hl := run_loadVar_mid w g 0 ty cs d hB.range hu hw (by rw [hn]; exact hT.size)
 have e : a.tmps[t]?.getD undef = .pointer (some ⟨g, 0, none⟩) := by simpa [Act.eval] using hx
 have e' : a.tmps[t']?.getD undef = v := by simpa [Act.eval] using hx'
 have e2 : a.tmps[t2]?.getD undef = v2 := by simpa [Act.eval] using hx2
 simp [results, hr, e, e', e2, asAddr, hl, Sem.run_bind]
end
def CsTrue : List (Int × Int) → List Int → Prop
 | [], [] => True
 | x :: r, v :: s => ((0 ≤ x.1 ∧ x.1 ≤ v) ∧ (v ≤ x.2 ∧ x.2 ≤ 5) ∧ v ≤ 3) ∧ CsTrue r s
 | _, _ => False
theorem CsTrue.snoc : ∀ {p : List (Int × Int)} {s : List Int} {x : Int × Int} {v : Int}, CsTrue p s → ((0 ≤ x.1 ∧ x.1 ≤ v) ∧ (v ≤ x.2 ∧ x.2 ≤ 5) ∧ v ≤ 3) → CsTrue (p ++ [x]) (s ++ [v])
 | [], [], _, _, _, h => ⟨h, trivial⟩
 | _ :: _, _ :: _, _, _, h, k => ⟨h.1, CsTrue.snoc h.2 k⟩
 | [], _ :: _, _, _, h, _ => h.elim
 | _ :: _, [], _, _, h, _ => h.elim
theorem CsTrue.le3 : ∀ {p : List (Int × Int)} {s : List Int}, CsTrue p s → ∀ v ∈ s, 0 ≤ v ∧ v ≤ 3
 | [], [], _, v, h => by cases h
 | x :: _, u :: _, h, v, hv => by
  rcases List.mem_cons.1 hv with rfl | hv
  ·have := h.1; omega
  ·exact CsTrue.le3 h.2 v hv
 | [], _ :: _, h, _, _ => h.elim
 | _ :: _, [], h, _, _ => h.elim
structure BwTrue (b : Bw) (g : List Int) (air : Int) : Prop where
 full : 20 ≤ b.full ∧ b.full ≤ 120
 air : (0 ≤ b.a0 ∧ b.a0 ≤ air) ∧ air ≤ b.a1 ∧ b.a1 ≤ b.full
 len : b.cs.length = g.length
 cs : CsTrue b.cs g
 ts : ∀ t ∈ b.ts, LkTrue g t
def BoPost (bp : Nat) (cm tm : Int) (w : World) (e : Ending) (w' : World) : Prop := ∃ (b : Bw) (g : List Int) (air : Int) (A : Option Addr) (c : Nat) (D : Option Addr) (d : Nat) (G : Option Addr) (n : Nat) (s : Int) (I : List (Nat × BA)),
 e = .returned (.tuple #[.agg #[.int .i64 b.full, .int .i64 b.a0, .int .i64 b.a1, .slice A b.cs.length c, .slice D b.ts.length d], .slice G g.length n, .int .i64 air]) ∧ BwTrue b g air ∧ (g.length : Int) ≤ cm ∧ (b.ts.length : Int) ≤ tm ∧ u64ok s ∧ BwIn b A c D d I ∧ (∃ b o, ∀ (w : World) (ex : Nat → Prop), Sp w ex I G g.length 1 b o (ic g)) ∧ Mem w (fun b => b = bp) w' ((bp, .cells [.int .u64 s]) :: I)
theorem Mem.nodup_at {w0 w : World} {ex : Nat → Prop} {L I L9 Lx : List (Nat × BA)} {g : Nat} (M : Mem w0 ex w Lx) (h : Lx = L ++ (I ++ L9)) (hg : g ∈ L.map (·.1)) : g ∉ I.map (·.1) := fun h2 => by
 have hn := M.nd
 rw [h, List.map_append, List.map_append] at hn
 exact (List.nodup_append.1 hn).2.2 g hg g (List.mem_append_left _ h2) rfl
set_option maxHeartbeats 4000000 in
theorem bellowOf_any (s : Int) (bp : Nat) (cm tm : Int)  (w : World) (hcm : 0 ≤ cm ∧ cm ≤ 4) (htm : 0 ≤ tm ∧ tm ≤ 3) (hp : Bk w bp #[.int .u64 s]) (hs : u64ok s) :
   Calls Try.prog 18 #[.pointer (some ⟨bp, 0, none⟩), .int .i64 cm, .int .i64 tm] w (BoPost bp cm tm w) := by
 refine Zpx (fun b => b = bp) Try.func18 rfl 72 rfl [.pointer (some ⟨bp, 0, none⟩), .int .i64 cm, .int .i64 tm] rfl rfl (Mem.initEx (p := .cells [.int .u64 s]) hp) ?_
 intro ac wc T M
 refine Zsr ?_
 refine Zl2 ?_
 refine Zoa M T rfl rfl rfl rfl ?_; clear M T; intro g1 wc ac M T
 refine Zg2 T (Zq (Zra rfl evc)) rfl (Zc rfl) rfl ?_; clear T ac; intro ac T
 replace T := T.pick [2, 3, 4, 5] rfl
 refine Zln ?_
 refine Zsr ?_
 refine lq T (Zrm rfl (T.e 1 rfl)) ?_; clear T ac; intro ac T
 refine Zl2 ?_
 refine Zoc (first := []) (cap := []) T rfl rfl rfl rfl evf (.cons (T.e 0 rfl) (.cons evc (.cons evc .nil))) Try.func20 rfl rfl ?_
 refine Calls.mono (within_pot _ bp 20 120 _ (by omega) (by omega) (by omega) (M.nth 1 rfl) hs) ?_
 clear T; rintro e wc ⟨xu1, su1, hxu1, hsu1, rfl, hgr, hbk⟩ ac T
 replace M := M.callC (cs' := [.int .u64 su1]) (.tail .head) hgr hbk
 clear hgr hbk
 refine lq (v := (.agg #[.int .i64 xu1, .int .i64 0, .int .i64 0, .slice none 0 0, .slice none 0 0])) T (rn_build rfl (.cons (T.e 0 rfl) .nil) (fun _ => by kernel_rfl)) ?_; clear T ac; intro ac T
 refine Zl2 ?_
 refine Zoa M T rfl rfl rfl rfl ?_; clear M T; intro g2 wc ac M T
 refine Zl2 ?_
 refine Zos M T rfl rfl (T.e 0 rfl) (T.e 1 rfl) rfl .head rfl (by simp) rfl (by kernel_rfl) ?_; clear M T; intro wc ac M T
 replace T := T.pick [0, 4, 5, 6, 7] rfl
 refine Zln ?_
 refine Zsr ?_
 refine Zg3 (v2 := (.pointer (some ⟨g2, 0, none⟩))) T (Zq (Zrm rfl (T.e 2 rfl))) rfl (Zf 0 1 rfl rfl) rfl (Zo M 0 0 rfl rfl rfl rfl) rfl ?_; clear T ac; intro ac T
 refine Zl2 ?_
 refine Zoc (first := []) (cap := []) T rfl rfl rfl rfl evf (.cons (T.e 2 rfl) (.cons (T.e 0 rfl) .nil)) Try.func19 rfl rfl ?_
 refine Calls.mono (upto_any _ bp xu1 _ (by omega) (by omega) (M.nth 2 rfl) hsu1) ?_
 clear T; rintro e wc ⟨xu2, su2, hxu2, hsu2, rfl, hgr, hbk⟩ ac T
 replace M := M.callC (cs' := [.int .u64 su2]) (.tail (.tail .head)) hgr hbk
 clear hgr hbk
 refine lq T (Zra rfl (T.e 0 rfl)) ?_; clear T ac; intro ac T
 replace T := T.pick [0, 5, 6, 7, 8, 9] rfl
 refine Zln ?_
 refine Zsr ?_
 refine Zg4 (v3 := (.pointer (some ⟨g2, 0, none⟩))) T (Zq (Zrm rfl (T.e 3 rfl))) rfl (Zm 1 rfl rfl) rfl (Zf 0 3 rfl rfl) rfl (Zo M 0 0 rfl rfl rfl rfl) rfl ?_; clear T ac; intro ac T
 refine Zl2 ?_
 refine Zoc (first := []) (cap := []) T rfl rfl rfl rfl evf (.cons (T.e 3 rfl) (.cons (T.e 2 rfl) (.cons evc (.cons (T.e 0 rfl) (.cons evc .nil))))) Try.func73 rfl rfl ?_
 refine Calls.mono (near_pot _ bp xu2 0 xu1 4 _ (by omega) (by omega) (by omega) (by omega) (by omega) (by omega) (M.nth 2 rfl) hsu2) ?_
 clear T; rintro e wc ⟨xu3, yu3, su3, hxu3, hsu3, rfl, hgr, hbk⟩ ac T
 replace M := M.callC (cs' := [.int .u64 su3]) (.tail (.tail .head)) hgr hbk
 clear hgr hbk
 refine lq (v := (.pointer (some ⟨g2, 1, none⟩))) T (Zrf (off := 1) rfl (T.e 6 rfl) (fun _ _ _ => by kernel_rfl)) ?_; clear T ac; intro ac T
 refine Zl2 ?_
 refine Zos M T rfl rfl (T.e 0 rfl) (T.e 1 rfl) rfl .head rfl (by simp) rfl (by kernel_rfl) ?_; clear M T; intro wc ac M T
 replace T := T.pick [6, 7, 8, 9, 10, 11] rfl
 refine Zln ?_
 refine Zsr ?_
 refine lq T (Zra rfl evc) ?_; clear T ac; intro ac T
 refine Zln ?_
 refine wp_seq ?_
 refine Zsr ?_
 refine Zg2 T (Zq (Zrm rfl (T.e 4 rfl))) rfl (Zm 6 rfl rfl) rfl ?_; clear T ac; intro ac T
 refine Zl2 ?_
 refine Zoc (first := []) (cap := []) T rfl rfl rfl rfl evf (.cons (T.e 1 rfl) (.cons (T.e 0 rfl) .nil)) Try.func19 rfl rfl ?_
 refine Calls.mono (upto_any _ bp cm _ (by omega) (by omega) (M.nth 2 rfl) hsu3) ?_
 clear T; rintro e wc ⟨xu4, su4, hxu4, hsu4, rfl, hgr, hbk⟩ ac T
 replace M := M.callC (cs' := [.int .u64 su4]) (.tail (.tail .head)) hgr hbk
 clear hgr hbk
 refine lq T (Zra rfl (T.e 0 rfl)) ?_; clear T ac; intro ac T
 replace T := T.pick [0, 4, 5, 6, 7, 8, 10] rfl
 refine Zln ?_
 refine wp_block ?_
 refine wp_loop_n (fun mz ac wc => ∃ (i : Int) (ol : List (Int × Int)) (al : List Int) (A3 : Option Addr) (c3 : Nat) (A4 : Option Addr) (c4 : Nat) (s : Int) (Ia Io : List (Nat × BA)), mz = i.toNat ∧ (0 ≤ i) ∧ ((ol.length : Int) + i ≤ cm) ∧ (ol.length = al.length) ∧ (CsTrue ol al) ∧ (u64ok s) ∧ (Sl 23 2 (.slice A3 ol.length c3) ol.length (rc ol) Io) ∧ (Sl 3 1 (.slice A4 al.length c4) al.length (ic al) Ia) ∧ Tm ac 72 [(0, .pointer (some ⟨bp, 0, none⟩)), (2, .int .i64 tm), (6, .pointer (some ⟨g1, 0, none⟩)), (9, .pointer (some ⟨g2, 0, none⟩)), (10, .int .i64 xu2), (11, .slice A4 al.length c4), (12, .int .i64 i)] ∧ Mem w (fun b => b = bp) wc ((g2, .cells [.int .i64 xu1, .int .i64 xu3, .int .i64 yu3, .slice A3 ol.length c3, .slice none 0 0]) :: (g1, .cells [.int .i64 0, .int .i64 0, .int .i64 0, .slice none 0 0, .slice none 0 0]) :: (bp, .cells [.int .u64 s]) :: (Ia ++ Io))) ?_ ?_
 ·exact ⟨_, xu4, [], [], none, 0, none, 0, _, [], [], rfl, (by omega), (by simp only [List.length_nil]; omega), rfl, trivial, hsu4, (Sl.nil _ _), (Sl.nil _ _), T.pick [5, 6, 4, 3, 2, 1, 0] rfl, M.mask [true, true, true] rfl⟩
 clear T M
 rintro mz ac wc ⟨i, ol, al, A3, c3, A4, c4, s, Ia, Io, hmm1, hi, hol, hal, hT, hs, hsl, hsa, T, M⟩
 refine wp_seq ?_
 refine Zsr ?_
 refine Zg2 T (Zq (Zrm rfl (T.e 6 rfl))) rfl (fun _ T => Zq (rn_gtr rfl (T.e 0 rfl) evc)) rfl ?_; clear T ac; intro ac T
 replace T := T.pick [0, 2, 3, 4, 5, 6, 7, 8] rfl
 refine Zln ?_
 refine wp_if (T.e 0 rfl) ?_ ?_
 ·intro h1
  refine Zsk ?_
  refine wp_seq ?_
  refine wp_block ?_
  refine Zsr ?_
  refine lq T (Zrm rfl (T.e 1 rfl)) ?_; clear T ac; intro ac T
  refine Zl2 ?_
  refine Zoc (first := []) (cap := []) T rfl rfl rfl rfl evf (.cons (T.e 0 rfl) (.cons evc .nil)) Try.func19 rfl rfl ?_
  refine Calls.mono (upto_any _ bp 3 _ (by omega) (by omega) (M.nth 2 rfl) hs) ?_
  clear T; rintro e wc ⟨xu5, su5, hxu5, hsu5, rfl, hgr, hbk⟩ ac T
  replace M := M.callC (cs' := [.int .u64 su5]) (.tail (.tail .head)) hgr hbk
  clear hgr hbk
  refine lq T (Zra rfl (T.e 0 rfl)) ?_; clear T ac; intro ac T
  replace T := T.pick [0, 4, 5, 6, 7, 8, 9, 10] rfl
  refine Zln ?_
  refine Zsr ?_
  refine Zg2 T (Zq (Zrm rfl (T.e 6 rfl))) rfl (Zm 1 rfl rfl) rfl ?_; clear T ac; intro ac T
  refine Zl2 ?_
  refine ow_bs (e := 3) [.int .i64 xu5] M T rfl rfl rfl rfl (.cons (T.e 0 rfl) .nil) (fun _ => by kernel_rfl) ?_; clear M T; intro g3 wc ac M T
  refine Zl2 ?_
  replace M : Mem w (fun b => b = bp) wc ((g3, .cells [.int .i64 xu5]) :: (g2, .cells [.int .i64 xu1, .int .i64 xu3, .int .i64 yu3, .slice A3 ol.length c3, .slice none 0 0]) :: (g1, .cells [.int .i64 0, .int .i64 0, .int .i64 0, .slice none 0 0, .slice none 0 0]) :: (bp, .cells [.int .u64 su5]) :: (Io ++ Ia)) := M.tail3 (K := [(g3, .cells [.int .i64 xu5]), (g2, .cells [.int .i64 xu1, .int .i64 xu3, .int .i64 yu3, .slice A3 ol.length c3, .slice none 0 0]), (g1, .cells [.int .i64 0, .int .i64 0, .int .i64 0, .slice none 0 0, .slice none 0 0]), (bp, .cells [.int .u64 su5])]) (A := [])
  refine ow_app (((g3, .cells [.int .i64 xu5]) :: (g2, .cells [.int .i64 xu1, .int .i64 xu3, .int .i64 yu3, .slice A3 ol.length c3, .slice none 0 0]) :: (g1, .cells [.int .i64 0, .int .i64 0, .int .i64 0, .slice none 0 0, .slice none 0 0]) :: (bp, .cells [.int .u64 su5]) :: Io)) Try.info3 hsa M (by first | rfl | simp) T rfl rfl rfl rfl Try.underlying28 rfl rfl rfl (by omega) (T.e 2 rfl) (T.e 0 rfl) (Zne (i := 0) rfl) rfl rfl ?_; clear M T; intro ga1 cga1 wc ac M T
  refine l_q (v := (.slice (some ⟨ga1, 0, none⟩) (al.length + 1) cga1)) (T.pick [0, 1, 2, 3, 4, 5, 6, 7, 8, 9, 11] rfl) rfl rfl rfl rfl (Zra rfl (T.e 0 rfl)) ?_; clear T ac; intro ac T
  refine wpList_nil ?_
  replace T := T.pick [0, 5, 6, 7, 8, 9, 10, 11] rfl
  replace M := M.mask [true, false, true, true, true] rfl
  refine nm_then ?_
  refine Zgs M (M.perm [0, 2] rfl rfl) 9 (by kernel_rfl) rfl (by kernel_rfl) ?_
  clear M; intro wc M
  refine g_addG 4 (M.perm [0, 1, 2, 3] rfl rfl) ?_
  refine g_addG 8 (M.perm [0, 1, 2] rfl rfl) ?_
  refine gq (v := (.pointer (some ⟨g2, 3, none⟩))) T 0 1 rfl (fun _ _ _ _ _ => (Zrf (off := 3) rfl (T.e 5 rfl) (fun _ _ _ => by kernel_rfl))) ?_; clear T ac; intro ac T
  refine gq T 1 3 rfl (fun B w' hD hl hS => (Zro (Mem.nth (show Mem w (fun b => b = bp) w' _ from ((MA.lft hS) (hD.wait (i := 1) (m := 8) (by kernel_rfl) hl))) 1 rfl) rfl (T.e 0 rfl) rfl)) ?_; clear T ac; intro ac T
  refine gq T 2 7 rfl (fun _ _ _ _ _ => (Zrm rfl (T.e 4 rfl))) ?_; clear T ac; intro ac T
  refine gq T 3 15 rfl (fun _ _ _ _ _ => (Zrm rfl (T.e 4 rfl))) ?_; clear T ac; intro ac T
  refine gw 4 31 ?_; intro K hK
  refine Zoc (first := []) (cap := []) T rfl rfl rfl rfl evf (.cons (T.e 1 rfl) (.cons (T.e 0 rfl) (.cons evc (.cons evc (.cons evc .nil))))) Try.func73 rfl rfl ?_
  refine Calls.mono (near_pot _ bp xu5 0 5 2 _ (by omega) (by omega) (by omega) (by omega) (by omega) (by omega) (M.nth 3 rfl) hsu5) ?_
  clear T; rintro e wc ⟨xu6, yu6, su6, hxu6, hsu6, rfl, hgr, hbk⟩ ac T
  replace M := M.callC (cs' := [.int .u64 su6]) (.tail (.tail (.tail .head))) hgr hbk
  clear hgr hbk
  refine Zso hK _ _ (MA.mk (fun _ => M.perm [0, 1, 2] rfl rfl) (MA.mk (fun h => (no_of (by kernel_rfl) h).elim) (M.perm [0, 2] rfl rfl))) ?_; clear hK K
  refine gw 5 63 ?_; intro K hK
  refine ow_bs (e := 23) [.int .i64 xu6, .int .i64 yu6] M T rfl rfl rfl rfl (.cons (T.e 0 rfl) .nil) (fun _ => by kernel_rfl) ?_; clear M T; intro g4 wc ac M T
  refine Zso hK _ _ (MA.mk (fun _ => M.perm [1, 2, 3] rfl rfl) (MA.mk (fun h => (no_of (by kernel_rfl) h).elim) (M.perm [1, 3] rfl rfl))) ?_; clear hK K
  refine gw 6 127 ?_; intro K hK
  refine ow_app ([(g4, .cells [.int .i64 xu6, .int .i64 yu6]), (ga1, .row 3 1 (al.length + 1) ((ic al) ++ [.int .i64 xu5]) cga1), (g2, .cells [.int .i64 xu1, .int .i64 xu3, .int .i64 yu3, .slice A3 ol.length c3, .slice none 0 0]), (g1, .cells [.int .i64 0, .int .i64 0, .int .i64 0, .slice none 0 0, .slice none 0 0]), (bp, .cells [.int .u64 su6])]) Try.info23 hsl M (by first | rfl | simp) T rfl rfl rfl rfl Try.underlying24 rfl rfl rfl (by omega) (T.e 4 rfl) (T.e 0 rfl) (Zne (i := 0) rfl) rfl rfl ?_; clear M T; intro ga2 cga2 wc ac M T
  refine Zso hK _ _ (MA.mk (fun _ => M.mask [false, false, true, true, true, false] rfl) (MA.mk (fun h => (no_of (by kernel_rfl) h).elim) (M.mask [false, false, true, false, true, false] rfl))) ?_; clear hK K
  refine gq (v := (.pointer (some ⟨g2, 3, none⟩))) T 7 255 rfl (fun _ _ _ _ _ => (Zrf (off := 3) rfl (T.e 12 rfl) (fun _ _ _ => by kernel_rfl))) ?_; clear T ac; intro ac T
  refine gw 8 511 ?_; intro K hK
  refine Zos M T rfl rfl (T.e 0 rfl) (T.e 1 rfl) rfl (.tail (.tail (.tail .head))) rfl (by simp) rfl (by kernel_rfl) ?_; clear M T; intro wc ac M T
  refine Zso hK _ _ (MA.mk (fun h => (no_of (by kernel_rfl) h).elim) (MA.mk (fun h => (no_of (by kernel_rfl) h).elim) (M.mask [false, false, true, false, true, false] rfl))) ?_; clear hK K
  refine Zgd (by kernel_rfl) ?_
  replace T := T.pick [8, 10, 11, 12, 13, 14, 15] rfl
  replace M := M.mask [true, false, true, true, true, true] rfl
  refine Znb ?_
  refine nm_then ?_
  refine wp_region_lit ?_
  refine Zg2 T (Zq (Zrm rfl (T.e 6 rfl))) rfl (fun _ T => Zq (rn_sub rfl (T.e 0 rfl) evc (by omega))) rfl ?_; clear T ac; intro ac T
  refine l_q (v := (.int .i64 (i - 1))) (T.pick [0, 1, 2, 3, 4, 5, 6, 7] rfl) rfl rfl rfl rfl (Zra rfl (T.e 0 rfl)) ?_; clear T ac; intro ac T
  replace T := T.pick [0, 3, 4, 5, 6, 7, 8] rfl
  refine Zln ?_
  have e9 : al.length + 1 = (al ++ [xu5]).length := by simp
  have e8 : ((ic al) ++ [.int .i64 xu5]) = ic (al ++ [xu5]) := by rw [← ic_snoc]
  rw [e9, e8] at M
  rw [e9] at T
  clear e9 e8
  have e9 : ol.length + 1 = (ol ++ [(xu6, yu6)]).length := by simp
  have e8 : ((rc ol) ++ [.int .i64 xu6, .int .i64 yu6]) = rc (ol ++ [(xu6, yu6)]) := by rw [← rc_snoc]
  rw [e9, e8] at M
  skip
  clear e9 e8
  exact ⟨_, by omega, (i - 1), (ol ++ [(xu6, yu6)]), (al ++ [xu5]), _, _, _, _, su6, [(ga1, .row 3 1 (al ++ [xu5]).length (ic (al ++ [xu5])) cga1)], [(ga2, .row 23 2 (ol ++ [(xu6, yu6)]).length (rc (ol ++ [(xu6, yu6)])) cga2)], rfl, (by omega), (by simp only [List.length_append, List.length_cons, List.length_nil]; omega), (by simp [hal]), (hT.snoc (by dsimp only; omega)), hsu6, (Sl.row _ _ _ _ _ _), (Sl.row _ _ _ _ _ _), T.pick [2, 3, 4, 5, 6, 1, 0] rfl, M.perm [2, 3, 4, 1, 0] rfl rfl⟩
 intro h1
 refine wp_exit ?_
 refine Zet ?_
 refine Zet ?_
 refine ex_hit ?_
 refine Zns ?_
 refine Zsr ?_
 refine Zg2 T (Zq (Zrm rfl (T.e 1 rfl))) rfl (Zm 3 rfl rfl) rfl ?_; clear T ac; intro ac T
 refine Zl2 ?_
 refine Zoc (first := []) (cap := []) T rfl rfl rfl rfl evf (.cons (T.e 1 rfl) (.cons (T.e 0 rfl) .nil)) Try.func19 rfl rfl ?_
 refine Calls.mono (upto_any _ bp tm _ (by omega) (by omega) (M.nth 2 rfl) hs) ?_
 clear T; rintro e wc ⟨xu7, su7, hxu7, hsu7, rfl, hgr, hbk⟩ ac T
 replace M := M.callC (cs' := [.int .u64 su7]) (.tail (.tail .head)) hgr hbk
 clear hgr hbk
 refine lq T (Zra rfl (T.e 0 rfl)) ?_; clear T ac; intro ac T
 replace T := T.pick [0, 5, 7, 8, 9, 10] rfl
 refine Zln ?_
 refine wp_block ?_
 have hl4 : al.length ≤ 4 := by omega
 obtain ⟨bC, oC, hSC⟩ := hsl.spV (rc_length _)
 obtain ⟨bL, oL, hSL⟩ := hsa.spV (by simp [ic_length])
 have hbx : ∀ o9, A4 = some ⟨bp, o9, none⟩ → False := fun o9 h9 => by
   rcases hsa with ⟨q1, -, -, -⟩ | ⟨g8, c8, q1, q2⟩
   · injection q1 with q1; rw [h9] at q1; cases q1
   · injection q1 with q1; rw [h9] at q1; injection q1 with q1; injection q1 with q1 _ _; subst q1; have h7 := (M.nodup_at (L := [(g2, .cells [.int .i64 xu1, .int .i64 xu3, .int .i64 yu3, .slice A3 ol.length c3, .slice none 0 0]), (g1, .cells [.int .i64 0, .int .i64 0, .int .i64 0, .slice none 0 0, .slice none 0 0]), (bp, .cells [.int .u64 su7])]) (g := bp) (I := Ia) (L9 := Io) rfl (by simp)); exact h7 (by rw [q2]; simp)
 obtain ⟨IT, hIT⟩ : ∃ q, q = Ia ++ Io := ⟨_, rfl⟩
 rw [← hIT] at M
 have hSC2 : ∀ (w : World) (ex : Nat → Prop), Sp w ex IT A3 ol.length 2 bC oC (rc ol) := fun w ex => (hSC w ex).mono (by rw [hIT]; exact Zsq _ _)
 have hSL2 : ∀ (w : World) (ex : Nat → Prop), Sp w ex IT A4 al.length 1 bL oL (ic al) := fun w ex => (hSL w ex).mono (by rw [hIT]; exact Zsl _ _)
 refine wp_loop_n (fun mz ac wc => ∃ (j9 : Int) (tl : List Lk) (A5 : Option Addr) (c5 : Nat) (s : Int) (IT2 It : List (Nat × BA)), mz = j9.toNat ∧ (0 ≤ j9) ∧ ((tl.length : Int) + j9 ≤ tm) ∧ (∀ t ∈ tl, LkTrue al t) ∧ (∀ t ∈ tl, ∃ b o, ∀ (w : World) (ex : Nat → Prop), Sp w ex IT2 t.A t.op.length 1 b o (ic t.op)) ∧ (∀ (w : World) (ex : Nat → Prop), Sp w ex IT2 A3 ol.length 2 bC oC (rc ol)) ∧ (∀ (w : World) (ex : Nat → Prop), Sp w ex IT2 A4 al.length 1 bL oL (ic al)) ∧ (u64ok s) ∧ (Sl 75 4 (.slice A5 tl.length c5) tl.length (lkc tl) It) ∧ Tm ac 72 [(0, .pointer (some ⟨bp, 0, none⟩)), (6, .pointer (some ⟨g1, 0, none⟩)), (9, .pointer (some ⟨g2, 0, none⟩)), (10, .int .i64 xu2), (11, .slice A4 al.length c4), (14, .int .i64 j9)] ∧ Mem w (fun b => b = bp) wc ((g2, .cells [.int .i64 xu1, .int .i64 xu3, .int .i64 yu3, .slice A3 ol.length c3, .slice A5 tl.length c5]) :: (g1, .cells [.int .i64 0, .int .i64 0, .int .i64 0, .slice none 0 0, .slice none 0 0]) :: (bp, .cells [.int .u64 s]) :: (IT2 ++ It))) ?_ ?_
 ·exact ⟨_, xu7, [], none, 0, _, IT, [], rfl, (by omega), (by simp only [List.length_nil]; omega), (fun t h => by cases h), (fun t h => by cases h), hSC2, hSL2, hsu7, (Sl.nil _ _), T.pick [1, 2, 3, 4, 5, 0] rfl, (by simp only [List.append_nil]; exact M)⟩
 clear T M
 rintro mz ac wc ⟨j9, tl, A5, c5, s, IT2, It, hmm2, hi, htl, hTk, hop, hSCx, hSLx, hs, hst, T, M⟩
 have SL9 := hSLx w (fun b => b = bp)
 refine wp_seq ?_
 refine cut_seq (fun ac wc => Tm ac 72 [(0, .pointer (some ⟨bp, 0, none⟩)), (6, .pointer (some ⟨g1, 0, none⟩)), (9, .pointer (some ⟨g2, 0, none⟩)), (10, .int .i64 xu2), (11, .slice A4 al.length c4), (14, .int .i64 j9), (58, .bool ((decide (0 < j9)) && (decide (0 < ((al.length : Nat) : Int)))))] ∧ Mem w (fun b => b = bp) wc ((g2, .cells [.int .i64 xu1, .int .i64 xu3, .int .i64 yu3, .slice A3 ol.length c3, .slice A5 tl.length c5]) :: (g1, .cells [.int .i64 0, .int .i64 0, .int .i64 0, .slice none 0 0, .slice none 0 0]) :: (bp, .cells [.int .u64 s]) :: (IT2 ++ It))) ?_ ?_
 ·refine wp_region_lit ?_
  refine Zg3 T (Zq (Zrm rfl (T.e 5 rfl))) rfl (fun _ T => Zq (rn_gtr rfl (T.e 0 rfl) evc)) rfl (Zm 0 rfl rfl) rfl ?_; clear T ac; intro ac T
  rcases Bool.eq_false_or_eq_true (decide (0 < j9)) with h2 | h2
  ·replace h2 := of_decide_eq_true h2
   refine Zg4 T (Zw (Zwy rfl rfl (T.e 0 rfl) (Zdt h2)) (Zrm rfl (T.e 7 rfl))) rfl (fun _ T => Zw (Zwy rfl rfl (T.e 1 rfl) (Zdt h2)) (Zrl rfl Try.underlying28 (T.e 0 rfl))) rfl (fun _ T => Zw (Zwy rfl rfl (T.e 2 rfl) (Zdt h2)) (rn_gtr rfl (T.e 0 rfl) evc)) rfl (fun _ T => Zq (Zr1 rfl (T.e 3 rfl) (Zdt h2) (T.e 0 rfl))) rfl ?_; clear T ac; intro ac T
   refine wpList_nil ?_
   replace T := T.pick [0, 1, 2, 3, 7, 8, 9, 10, 11, 12] rfl
   exact ⟨(T.pick (E' := [(0, .pointer (some ⟨bp, 0, none⟩)), (6, .pointer (some ⟨g1, 0, none⟩)), (9, .pointer (some ⟨g2, 0, none⟩)), (10, .int .i64 xu2), (11, .slice A4 al.length c4), (14, .int .i64 j9), (58, .bool (decide (0 < ((al.length : Nat) : Int))))]) [4, 5, 6, 7, 8, 9, 0] rfl).as (by (try rw [show (decide (0 < j9)) = true from (Zdt h2)]); (try rfl)), M.mask [true, true, true] rfl⟩
  replace h2 := of_decide_eq_false h2
  refine Zg4 T (Zp (Zwn rfl rfl (T.e 0 rfl) (Zdf h2))) rfl (fun _ T => Zp (Zwn rfl rfl (T.e 1 rfl) (Zdf h2))) rfl (fun _ T => Zp (Zwn rfl rfl (T.e 2 rfl) (Zdf h2))) rfl (fun _ T => Zq (Zr0 rfl (T.e 3 rfl) (Zdf h2) evc)) rfl ?_; clear T ac; intro ac T
  refine wpList_nil ?_
  replace T := T.pick [0, 1, 2, 3, 7, 8, 9, 10, 11, 12] rfl
  exact ⟨(T.pick (E' := [(0, .pointer (some ⟨bp, 0, none⟩)), (6, .pointer (some ⟨g1, 0, none⟩)), (9, .pointer (some ⟨g2, 0, none⟩)), (10, .int .i64 xu2), (11, .slice A4 al.length c4), (14, .int .i64 j9), (58, .bool false)]) [4, 5, 6, 7, 8, 9, 0] rfl).as (by (try rw [show (decide (0 < j9)) = false from (Zdf h2)]); (try rfl)), M.mask [true, true, true] rfl⟩
 clear T M
 rintro ac wc ⟨T, M⟩
 refine wp_cond_split (T.e 6 rfl) ?_ ?_
 ·intro h3
  (have h3' := h3; try simp only [Zb1, Zb2, Zb3, Zb4, Zb5, Zb6, Zb7] at h3')
  refine Zsk ?_
  refine wp_seq ?_
  refine wp_block ?_
  refine Zgs M (M.perm [1] rfl rfl) 9 (by kernel_rfl) rfl (by kernel_rfl) ?_
  clear M; intro wc M
  refine g_addG 4 (M.perm [0, 1, 2] rfl rfl) ?_
  refine g_addG 8 (M.perm [0, 1] rfl rfl) ?_
  refine gq (v := (.pointer (some ⟨g2, 4, none⟩))) T 0 1 rfl (fun _ _ _ _ _ => (Zrf (off := 4) rfl (T.e 2 rfl) (fun _ _ _ => by kernel_rfl))) ?_; clear T ac; intro ac T
  refine gq T 1 3 rfl (fun B w' hD hl hS => (Zro (Mem.nth (show Mem w (fun b => b = bp) w' _ from ((MA.lft hS) (hD.wait (i := 1) (m := 8) (by kernel_rfl) hl))) 0 rfl) rfl (T.e 0 rfl) rfl)) ?_; clear T ac; intro ac T
  refine gq T 2 7 rfl (fun _ _ _ _ _ => (Zrm rfl (T.e 2 rfl))) ?_; clear T ac; intro ac T
  refine gq T 3 15 rfl (fun _ _ _ _ _ => (Zrm rfl (T.e 7 rfl))) ?_; clear T ac; intro ac T
  refine gw 4 31 ?_; intro K hK
  refine Zoc (first := []) (cap := []) T rfl rfl rfl rfl evf (.cons (T.e 1 rfl) (.cons (T.e 0 rfl) .nil)) Try.func47 rfl rfl ?_
  refine Calls.mono (leakageOf_any _ bp A4 c4 al _ (SL9.rd M (.cons _ (.cons _ (.cons _ (subL (List.Sublist.refl _)))))) (fun b9 o9 h9 h8 => by subst h8; exact (hbx o9 h9).elim) (by omega) (by omega) hT.le3 (M.nth 2 rfl) hs) ?_
  clear T; rintro e wc ⟨tu8, su8, Iu8, rfl, htu8, hsu8, ⟨bu8, ou8, hStu8⟩, N⟩ ac T
  replace M := (M.joinW2 (.tail (.tail .head)) N).swapI
  clear N
  replace M : Mem w (fun b => b = bp) wc ((g2, .cells [.int .i64 xu1, .int .i64 xu3, .int .i64 yu3, .slice A3 ol.length c3, .slice A5 tl.length c5]) :: (g1, .cells [.int .i64 0, .int .i64 0, .int .i64 0, .slice none 0 0, .slice none 0 0]) :: (bp, .cells [.int .u64 su8]) :: (IT2 ++ It ++ Iu8)) := M
  refine Zso hK _ _ (MA.mk (fun _ => M.perm [0, 1] rfl rfl) (MA.mk (fun h => (no_of (by kernel_rfl) h).elim) (M.perm [1] rfl rfl))) ?_; clear hK K
  refine gw 5 63 ?_; intro K hK
  refine ow_bs (e := 75) [.slice tu8.A tu8.op.length tu8.c, .int .i64 tu8.sec, .int .i64 tu8.lo, .int .i64 tu8.hi] M T rfl rfl rfl rfl (.cons (T.e 0 rfl) .nil) (fun _ => by kernel_rfl) ?_; clear M T; intro g5 wc ac M T
  refine Zso hK _ _ (MA.mk (fun _ => M.perm [1, 2] rfl rfl) (MA.mk (fun h => (no_of (by kernel_rfl) h).elim) (M.perm [2] rfl rfl))) ?_; clear hK K
  refine gw 6 127 ?_; intro K hK
  replace M : Mem w (fun b => b = bp) wc ((g5, .cells [.slice tu8.A tu8.op.length tu8.c, .int .i64 tu8.sec, .int .i64 tu8.lo, .int .i64 tu8.hi]) :: (g2, .cells [.int .i64 xu1, .int .i64 xu3, .int .i64 yu3, .slice A3 ol.length c3, .slice A5 tl.length c5]) :: (g1, .cells [.int .i64 0, .int .i64 0, .int .i64 0, .slice none 0 0, .slice none 0 0]) :: (bp, .cells [.int .u64 su8]) :: (IT2 ++ Iu8 ++ It)) := M.tail3 (K := [(g5, .cells [.slice tu8.A tu8.op.length tu8.c, .int .i64 tu8.sec, .int .i64 tu8.lo, .int .i64 tu8.hi]), (g2, .cells [.int .i64 xu1, .int .i64 xu3, .int .i64 yu3, .slice A3 ol.length c3, .slice A5 tl.length c5]), (g1, .cells [.int .i64 0, .int .i64 0, .int .i64 0, .slice none 0 0, .slice none 0 0]), (bp, .cells [.int .u64 su8])]) (A := IT2)
  refine ow_app (((g5, .cells [.slice tu8.A tu8.op.length tu8.c, .int .i64 tu8.sec, .int .i64 tu8.lo, .int .i64 tu8.hi]) :: (g2, .cells [.int .i64 xu1, .int .i64 xu3, .int .i64 yu3, .slice A3 ol.length c3, .slice A5 tl.length c5]) :: (g1, .cells [.int .i64 0, .int .i64 0, .int .i64 0, .slice none 0 0, .slice none 0 0]) :: (bp, .cells [.int .u64 su8]) :: (IT2 ++ Iu8))) Try.info75 hst M (by first | rfl | simp) T rfl rfl rfl rfl Try.underlying25 rfl rfl rfl (by omega) (T.e 4 rfl) (T.e 0 rfl) (Zne (i := 0) rfl) rfl rfl ?_; clear M T; intro ga3 cga3 wc ac M T
  refine Zso hK _ _ (MA.mk (fun _ => M.perm [2, 3] rfl rfl) (MA.mk (fun h => (no_of (by kernel_rfl) h).elim) (M.perm [3] rfl rfl))) ?_; clear hK K
  refine gq (v := (.pointer (some ⟨g2, 4, none⟩))) T 7 255 rfl (fun _ _ _ _ _ => (Zrf (off := 4) rfl (T.e 9 rfl) (fun _ _ _ => by kernel_rfl))) ?_; clear T ac; intro ac T
  refine gw 8 511 ?_; intro K hK
  refine Zos M T rfl rfl (T.e 0 rfl) (T.e 1 rfl) rfl (.tail (.tail .head)) rfl (by simp) rfl (by kernel_rfl) ?_; clear M T; intro wc ac M T
  refine Zso hK _ _ (MA.mk (fun h => (no_of (by kernel_rfl) h).elim) (MA.mk (fun h => (no_of (by kernel_rfl) h).elim) (M.perm [3] rfl rfl))) ?_; clear hK K
  refine Zgd (by kernel_rfl) ?_
  replace T := T.pick [8, 9, 10, 11, 12, 13] rfl
  replace M := M.mask [true, false, true, true, true] rfl
  refine Znb ?_
  refine nm_then ?_
  refine wp_region_lit ?_
  refine Zg2 T (Zq (Zrm rfl (T.e 5 rfl))) rfl (fun _ T => Zq (rn_sub rfl (T.e 0 rfl) evc (by omega))) rfl ?_; clear T ac; intro ac T
  refine l_q (v := (.int .i64 (j9 - 1))) (T.pick [0, 1, 2, 3, 4, 5, 6] rfl) rfl rfl rfl rfl (Zra rfl (T.e 0 rfl)) ?_; clear T ac; intro ac T
  replace T := T.pick [0, 3, 4, 5, 6, 7] rfl
  refine Zln ?_
  have e9 : tl.length + 1 = (tl ++ [tu8]).length := by simp
  have e8 : ((lkc tl) ++ [.slice tu8.A tu8.op.length tu8.c, .int .i64 tu8.sec, .int .i64 tu8.lo, .int .i64 tu8.hi]) = lkc (tl ++ [tu8]) := by rw [← lkc_snoc]
  rw [e9, e8] at M
  clear e9 e8
  obtain ⟨IT3, hI3⟩ : ∃ q, q = IT2 ++ Iu8 := ⟨_, rfl⟩
  rw [← hI3] at M
  exact ⟨_, by omega, (j9 - 1), (tl ++ [tu8]), _, _, su8, IT3, [(ga3, .row 75 4 (tl ++ [tu8]).length (lkc (tl ++ [tu8])) cga3)], rfl, (by omega), (by simp only [List.length_append, List.length_cons, List.length_nil]; omega), (fun t h => by rcases List.mem_append.1 h with h | h; exact hTk t h; rw [List.mem_singleton.1 h]; exact htu8), (fun t h => by rcases List.mem_append.1 h with h | h; obtain ⟨b9, o9, h9⟩ := hop t h; exact ⟨b9, o9, fun w ex => (h9 w ex).mono (by rw [hI3]; exact Zsl _ _)⟩; rw [List.mem_singleton.1 h]; exact ⟨_, _, fun w ex => (hStu8 w ex).mono (by rw [hI3]; exact Zsq _ _)⟩), (fun w ex => (hSCx w ex).mono (by rw [hI3]; exact Zsl _ _)), (fun w ex => (hSLx w ex).mono (by rw [hI3]; exact Zsl _ _)), hsu8, (Sl.row _ _ _ _ _ _), T.pick [1, 2, 3, 4, 5, 0] rfl, (Mem.swapI (I := [(ga3, .row 75 4 (tl ++ [tu8]).length (lkc (tl ++ [tu8])) cga3)]) (L := ((g2, .cells [.int .i64 xu1, .int .i64 xu3, .int .i64 yu3, .slice A3 ol.length c3, .slice (some ⟨ga3, 0, none⟩) ((tl ++ [tu8]).length) cga3]) :: (g1, .cells [.int .i64 0, .int .i64 0, .int .i64 0, .slice none 0 0, .slice none 0 0]) :: (bp, .cells [.int .u64 su8]) :: IT3)) (M.permT [0, 1, 2, 3] 4 rfl rfl rfl rfl))⟩
 intro h3
 (have h3' := h3; try simp only [Zb1, Zb2, Zb3, Zb4, Zb5, Zb6, Zb7] at h3')
 refine wp_exit ?_
 refine Zet ?_
 refine Zet ?_
 refine ex_hit ?_
 refine nm_then ?_
 refine Zsr ?_
 refine Zg3 T (Zq (Zrr (Mem.nth M 0 rfl) rfl (T.e 2 rfl) rfl)) rfl (Zm 5 rfl rfl) rfl (Zm 5 rfl rfl) rfl ?_; clear T ac; intro ac T
 refine Zl2 ?_
 refine Zos M T rfl rfl (T.e 4 rfl) (T.e 2 rfl) rfl (.tail .head) rfl (by simp) rfl (by kernel_rfl) ?_; clear M T; intro wc ac M T
 refine Zg2 T (Zq (Zra rfl (T.e 1 rfl))) rfl (Za 1 rfl rfl) rfl ?_; clear T ac; intro ac T
 refine wpList_nil ?_
 replace T := T.pick [0, 1, 6] rfl
 replace M := M.mask [false, true, true] rfl
 refine Znr ?_
 refine rt_ctt M T rfl (T.e 2 rfl) (T.e 1 rfl) (T.e 0 rfl) (Zne (i := 0) rfl) rfl ?_
 obtain ⟨b7, o7, h7⟩ := hst.spV (lkc_length _)
 refine ⟨⟨xu1, xu3, yu3, ol, tl⟩, al, xu2, A3, c3, A5, c5, A4, c4, _, IT2 ++ It, rfl, ⟨by dsimp only; omega, by dsimp only; omega, hal, hT, hTk⟩, by omega, by dsimp only; omega, hs, ⟨⟨_, _, fun w ex => (hSCx w ex).mono (Zsl _ _)⟩, ⟨_, _, fun w ex => (h7 w ex).mono (Zsq _ _)⟩, fun t ht => ?_, by dsimp only; omega, by dsimp only; omega, fun t ht => ?_⟩, ⟨_, _, fun w ex => (hSLx w ex).mono (Zsl _ _)⟩, M.mask [false, true] rfl⟩
 · obtain ⟨b9, o9, h9⟩ := hop t ht
   exact ⟨b9, o9, fun w ex => (h9 w ex).mono (Zsl _ _)⟩
 · have := (hTk t ht).asc.len
   omega
def setAll : List Int → Nat → List Int → List Int
 | l, _, [] => l
 | l, k, v :: s => setAll (l.set k v) (k + 1) s
theorem setAll_lo : ∀ (s l : List Int) (k j : Nat), j < k → (setAll l k s)[j]? = l[j]?
 | [], _, _, _, _ => rfl
 | v :: s, l, k, j, h => by
  unfold setAll
  rw [setAll_lo s _ _ _ (by omega), List.getElem?_set_ne (by omega)]
theorem setAll_get : ∀ (s l : List Int) (k j : Nat), j < s.length → k + s.length ≤ l.length → (setAll l k s)[k + j]? = s[j]?
 | [], _, _, _, h, _ => by simp at h
 | v :: s, l, k, 0, _, hl => by
  unfold setAll
  simp only [List.length_cons] at hl
  rw [setAll_lo s _ _ _ (by omega), Nat.add_zero, List.getElem?_set_self (by omega)]
  rfl
 | v :: s, l, k, j + 1, h, hl => by
  unfold setAll
  simp only [List.length_cons] at h hl
  have := setAll_get s (l.set k v) (k + 1) j (by omega) (by rw [List.length_set]; omega)
  rw [show k + (j + 1) = k + 1 + j by omega, this]
  rfl
theorem trs_mem {ts : List Lk} : ∀ {r : List (Int × Int)} {s : List Int} (k : Nat) (l : List Int), CsTrue r s → (∀ t ∈ ts, okT (setAll l k s) t = true) → setAll l k s ∈ trs ts r k l
 | [], [], k, l, _, h => by
  have h9 : ts.all (okT l) = true := List.all_eq_true.2 fun t ht => h t ht
  unfold trs setAll
  rw [if_pos h9]
  exact List.mem_singleton_self _
 | x :: r, v :: s, k, l, hc, h => by
  unfold trs
  refine List.mem_flatMap.2 ⟨v, upI_mem.2 ⟨hc.1.1.2, hc.1.2.1.1⟩, ?_⟩
  exact trs_mem (k + 1) (l.set k v) hc.2 h
 | [], _ :: _, _, _, h, _ => h.elim
 | _ :: _, [], _, _, h, _ => h.elim
theorem totL_pad {g op : List Int} (hg : g.length ≤ 4) (ha : ∀ c ∈ op, 0 ≤ c ∧ c < (g.length : Int)) : totL (setAll [0, 0, 0, 0] 0 g) op = totL g op := by
 unfold totL
 congr 1
 refine List.map_congr_left fun c hc => ?_
 have := ha c hc
 have h1 := setAll_get g [0, 0, 0, 0] 0 c.toNat (by omega) (by simp; omega)
 rw [Nat.zero_add] at h1
 rw [List.getD_eq_getElem?_getD, List.getD_eq_getElem?_getD, h1]
theorem chkR_zero {x y h : Int} (h0 : 0 ≤ x) (h1 : x ≤ y) (h2 : y ≤ h) : chkR x y 0 h = 0 := by
 unfold chkR
 rw [withinB_iff.2 (by omega), withinB_iff.2 (by omega)]
 simp
 omega
theorem LkTrue.tst {g : List Int} {t : Lk} (h : LkTrue g t) : tstE g.length t = 0 := by
 unfold tstE
 have h1 : opE g.length t.op none = 0 := h.asc.opE fun q c hq => by cases hq
 have hl := h.lost
 rw [if_neg h.ne, h1, if_neg (by simp), withinB_iff.2 h.sec, if_neg (by simp)]
 exact chkR_zero hl.1 (by omega) hl.2.2.2
theorem BwTrue.chk {b : Bw} {g : List Int} {air : Int} (h : BwTrue b g air) (h4 : g.length ≤ 4) (h3 : b.ts.length ≤ 3) : chkB b = 0 := by
 have hf := h.full
 have ha := h.air
 have hr : ∀ {r : List (Int × Int)} {s : List Int}, CsTrue r s → rngsE 5 r = 0 := fun {r} => by
  induction r with
  | nil => intro s _; rfl
  | cons x r ih =>
   intro s hc
   cases s with
   | nil => exact hc.elim
   | cons v s =>
    have hx := hc.1
    unfold rngsE
    rw [if_pos (chkR_zero (by omega) (by omega) (by omega))]
    exact ih hc.2
 have ht : ∀ (l : List Lk), (∀ t ∈ l, LkTrue g t) → tstsE b.cs.length l = 0 := fun l => by
  induction l with
  | nil => intro _; rfl
  | cons t l ih =>
   intro hl
   unfold tstsE
   rw [h.len, if_pos (hl t Zz2).tst, ← h.len]
   exact ih fun t ht => hl t (Zz1 ht)
 unfold chkB
 rw [withinB_iff.2 (by omega), if_neg (by simp), chkR_zero (by omega) (by omega) (by omega), if_neg (by simp), if_neg (by rw [h.len]; omega), hr h.cs, if_neg (by simp), if_neg (by omega)]
 exact ht b.ts h.ts
theorem BwTrue.truth {b : Bw} {g : List Int} {air : Int} (h : BwTrue b g air) (h4 : g.length ≤ 4) : setAll [0, 0, 0, 0] 0 g ∈ truthsB b := by
 refine trs_mem 0 _ h.cs fun t ht => ?_
 have hk := h.ts t ht
 have hl := hk.lost
 unfold okT
 rw [totL_pad h4 hk.asc.1, Int.mul_comm]
 simp
 omega
theorem firstE_zero : ∀ {el : List Int}, (∀ e ∈ el, e = 0) → firstE el = 0
 | [], _ => rfl
 | e :: el, h => by
  unfold firstE
  rw [if_pos (h e Zz2)]
  exact firstE_zero fun x hx => h x (Zz1 hx)
theorem BwTrue.known {b : Bw} {g : List Int} {air : Int} (h : BwTrue b g air) (h4 : g.length ≤ 4) (h3 : b.ts.length ≤ 3) {el : List Int} (he : ∀ e ∈ el, e = 0) : knownE b el = 0 := by
 unfold knownE
 rw [h.chk h4 h3, if_neg (by simp), firstE_zero he, if_neg (by simp), if_neg]
 have := List.length_pos_of_mem (h.truth h4)
 omega
theorem turE_iff {b : Bw} {p : List Nt} (hk : knownE b [pieceE p] = 0) : (turE b p = 0 ∨ turE b p = 11) ∧ (turE b p = 0 ↔ fineB b p (sums0 b) = true) := by
 unfold turE fineB
 rw [if_neg (by omega)]
 cases ((bysT p).find? (alwB b p (sums0 b))).isSome <;> simp
theorem choK_pre (n : Nat) : ∀ (k f : Nat) (b : List Int), choK n k f b = (choK n k f []).map (b ++ ·)
 | 0, f, b => by simp [choK]
 | k + 1, f, b => by
   unfold choK
   rw [List.map_flatMap]
   congr 1
   funext j
   rw [choK_pre n k _ (b ++ [((f + j : Nat) : Int)]), choK_pre n k _ ([] ++ [((f + j : Nat) : Int)]), List.map_map]
   congr 1
   funext l
   simp
theorem clN_choK (n : Nat) : ∀ (k f : Nat), clN n k f = choK n k f []
 | 0, f => rfl
 | k + 1, f => by
  unfold clN choK
  rw [List.range'_eq_map_range, List.flatMap_map]
  congr 1
  funext j
  rw [clN_choK n k, choK_pre n k _ ([] ++ [((f + j : Nat) : Int)])]
  rfl
def lisU (n m i : Nat) : List (List Int) := (List.range m).flatMap (fun k => clN n k 0) ++ (clN n m 0).take i
theorem lisU_succ {n m i : Nat} {x : List Int} (h : (clN n m 0)[i]? = some x) : lisU n m (i + 1) = lisU n m i ++ [x] := by
 unfold lisU
 rw [List.take_add_one, h, Option.toList_some, List.append_assoc]
theorem lisU_next {n m i : Nat} (h : (clN n m 0).length ≤ i) : lisU n m i = lisU n (m + 1) 0 := by
 unfold lisU
 rw [List.take_of_length_le h, List.range_succ, List.flatMap_append, List.take_zero, List.append_nil]
 simp
theorem lisU_all (n : Nat) : lisU n (n + 1) 0 = lisT n := by
 unfold lisU
 rw [List.take_zero, List.append_nil]
 show _ = (List.range (n + 1)).flatMap fun m => choK n m 0 []
 congr 1
 funext k
 exact clN_choK n k 0
theorem lisU_pre {n m i : Nat} (h : m ≤ n) : lisU n m i <+: lisT n := by
 have h1 : ∀ d, lisU n m i <+: lisU n (m + 1 + d) 0 := fun d => by
  induction d with
  | zero =>
   rw [Nat.add_zero, ← lisU_next (Nat.le_refl _)]
   unfold lisU
   rw [List.take_length]
   exact (List.prefix_append_right_inj _).2 (List.take_prefix _ _)
  | succ d ih =>
   refine ih.trans ?_
   have e : lisU n (m + 1 + d) 0 <+: lisU n (m + 1 + d) (clN n (m + 1 + d) 0).length := by
    unfold lisU
    rw [List.take_length, List.take_zero]
    exact (List.prefix_append_right_inj _).2 (List.nil_prefix)
   rw [lisU_next (Nat.le_refl _)] at e
   exact e
 have := h1 (n - m)
 rw [show m + 1 + (n - m) = n + 1 by omega, lisU_all] at this
 exact this
theorem few_hit {n m i : Nat} {x : List Int} {pr : List Int → Bool} (hm : m ≤ n) (h : ∀ y ∈ lisU n m i, pr y = false) (hx : (clN n m 0)[i]? = some x) (hp : pr x = true) : fewL n pr = x ∧ fewE n pr = 0 := by
 have h1 := lisU_pre (n := n) (m := m) (i := i + 1) hm
 rw [lisU_succ hx] at h1
 obtain ⟨t, ht⟩ := h1
 have e : (lisT n).find? pr = some x := by
  rw [← ht, List.append_assoc, List.find?_append, List.find?_eq_none.2 (fun y hy => by rw [h y hy]; simp)]
  simp [hp]
 unfold fewL fewE
 rw [e]
 exact ⟨rfl, rfl⟩
theorem few_none {n : Nat} {pr : List Int → Bool} (h : ∀ y ∈ lisU n (n + 1) 0, pr y = false) : fewL n pr = [] ∧ fewE n pr = 11 := by
 rw [lisU_all] at h
 have e : (lisT n).find? pr = none := List.find?_eq_none.2 fun y hy => by rw [h y hy]; simp
 unfold fewL fewE
 rw [e]
 exact ⟨rfl, rfl⟩
theorem rested_law {b : Bw} {g : List Int} {air : Int} {p : List Nt} (hb : BwTrue b g air) (h4 : g.length ≤ 4) (h3 : b.ts.length ≤ 3) (hp : NtGood p) : rsL b p = fewL p.length (fun r => fineB b (restP p r) (sums0 b)) ∧ rsE b p = fewE p.length (fun r => fineB b (restP p r) (sums0 b)) ∧
  ∀ r, (turE b (restP p r) = 0 ∨ turE b (restP p r) = 11) ∧ (turE b (restP p r) = 0 ↔ fineB b (restP p r) (sums0 b) = true) := by
 have hk : knownE b [pieceE p] = 0 := hb.known h4 h3 fun e he => by rw [List.mem_singleton.1 he]; exact pieceE_of hp
 refine ⟨by unfold rsL; rw [if_neg (by omega)], by unfold rsE; rw [if_neg (by omega)], fun r => ?_⟩
 exact turE_iff (hb.known h4 h3 fun e he => by rw [List.mem_singleton.1 he]; exact pieceE_of (hp.rest r))
section
open Go.RowKit Go.Proofs.Ytoheddpnnjldgaa.Bq
def RestPost (l : List Nt) (w : World) (e : Ending) (w' : World) : Prop := ∃ A c I, e = .returned (.slice A l.length c) ∧ (∃ b o, ∀ (w1 : World) (ex : Nat → Prop), Sp w1 ex I A l.length 4 b o (ntc l)) ∧ Mem w noEx w' I
theorem rested_any (p : List Nt) (P : Option Addr) (pc : Nat) (G : Option Addr) (n : Nat) (g : List Int)  (w : World) (hP9 : Rd w w.heap.size 4 P p.length (ntc p)) (hG : Rd w w.heap.size 1 G g.length (ic g)) (hgp : NtGood p) (nG : g.length ≤ 1000) (hg : ∀ c ∈ g, 0 ≤ c ∧ c < (p.length : Int))  :
   Calls Try.prog 30 #[.slice P p.length pc, .slice G g.length n] w (RestPost (restP p g) w) := by
 obtain ⟨bP, oP, SP⟩ := Sp.old hP9
 obtain ⟨bG, oG, SG⟩ := Sp.old hG
 have hp6 := hgp.n6
 refine Zpx noEx Try.func30 rfl 24 rfl [.slice P p.length pc, .slice G g.length n] rfl rfl (Mem.init w _) ?_
 intro ac wc T M
 refine Zsr ?_
 refine lq T (Zra rfl evc) ?_; clear T ac; intro ac T
 replace T := T.pick [1, 2] rfl
 refine Zln ?_
 refine Zsr ?_
 refine Zl2 ?_
 refine ow_bs0 (e := 70) M T rfl rfl rfl rfl (fun _ => by kernel_rfl) ?_; clear M T; intro g1 wc ac M T
 refine lq T (Zrm rfl (T.e 1 rfl)) ?_; clear T ac; intro ac T
 refine Zl2 ?_
 refine ow_appS Try.info70 M T rfl rfl rfl rfl (fun g w => Try.append0_44 _ _ g _ w) Try.underlying44 rfl rfl rfl (by omega) (T.e 1 rfl) (T.e 0 rfl) (SP.rd M (Zz9 _)) (ntc_one _) ?_; clear M T; intro Augo1 cugo1 Iugo1 wc ac hSmgo1 M T
 replace M : Mem w noEx wc (Iugo1) := M.swapI
 refine lq T (Zra rfl (T.e 0 rfl)) ?_; clear T ac; intro ac T
 replace T := T.pick [0, 5] rfl
 refine Zln ?_
 refine wp_seq ?_
 refine Zsr ?_
 refine lq T (Zra rfl evc) ?_; clear T ac; intro ac T
 refine Zln ?_
 refine wp_block ?_
 obtain ⟨LX, hLX⟩ : ∃ q : List Nt, q = p := ⟨_, rfl⟩
 have hLl9 : LX.length = p.length := by rw [hLX]
 rw [← hLl9] at T
 obtain ⟨bX, IX, hswX, M⟩ := hSmgo1.sw (L := []) M
 rw [← hLX] at hswX
 replace M : Mem w noEx wc (IX) := M
 refine wp_loop_n (fun mz ac wc => ∃ (k : Nat) (Lq : List Nt) (Iw : List (Nat × BA)), mz = g.length - k ∧ (k ≤ g.length) ∧ (Lq = restP p (g.take k)) ∧ (Lq.length = LX.length) ∧ (Sw 4 Augo1 LX.length bX (ntc Lq) Iw) ∧ Tm ac 24 [(1, .slice G g.length n), (5, .slice Augo1 LX.length cugo1), (6, .int .i64 (k : Int))] ∧ Mem w noEx wc (Iw)) ?_ ?_
 ·exact ⟨_, 0, LX, IX, rfl, (Nat.zero_le _), hLX, rfl, hswX, T.pick [2, 1, 0] rfl, M.mask [] rfl⟩
 clear T M
 rintro mz ac wc ⟨k, Lq, Iw, hmm1, hk, hL, hLl, hsw, T, M⟩
 have Sq := hsw.sp (w := w) (ex := noEx)
 refine wp_seq ?_
 refine Zsr ?_
 refine Zg4 T (Zq (Zrm rfl (T.e 2 rfl))) rfl (Zm 1 rfl rfl) rfl (Zl Try.underlying28 0 rfl rfl) rfl (fun _ T => Zq (rn_lss rfl (T.e 2 rfl) (T.e 0 rfl))) rfl ?_; clear T ac; intro ac T
 replace T := T.pick [0, 4, 5, 6] rfl
 refine Zln ?_
 refine wp_if (T.e 0 rfl) ?_ ?_
 ·intro h1
  obtain ⟨c, hkc, -⟩ := ic_next (l := g) (k := k) (by omega)
  have hc9 := hg c (List.mem_of_getElem? hkc)
  obtain ⟨q, hkq, -⟩ := ntc_next (l := Lq) (k := c.toNat) (by omega)
  refine Zsk ?_
  refine wp_seq ?_
  refine wp_block ?_
  refine wp_region_lit ?_
  refine Zg7 T (Zq (Zrm rfl (T.e 2 rfl))) rfl (Zm 2 rfl rfl) rfl (Zm 5 rfl rfl) rfl (fun _ T => Zq (Zri (size := 1) k rfl (T.e 1 rfl) (T.e 0 rfl) ⟨_, Try.underlying28, by kernel_rfl⟩ rfl (by omega) (SG.at0 (by omega)))) rfl (fun _ T => Zq (rn_cell (Sp.ic0 SG M (Zz9 _) hkc) rfl (T.e 0 rfl))) rfl (fun _ T => Zq (Zri (size := 4) c.toNat rfl (T.e 4 rfl) (T.e 0 rfl) ⟨_, Try.underlying44, by kernel_rfl⟩ (by omega) (by omega) (Sq.at0 (by omega)))) rfl (Zf 3 0 rfl rfl) rfl ?_; clear T ac; intro ac T
  refine Zl2 ?_
  refine ow_stTK ntcE 4 (fun _ => rfl) 3 (p' := ({ q with rest := true } : Nt)) ([]) M (by first | rfl | simp) hsw T rfl rfl (T.e 0 rfl) evc rfl hkq (by omega) rfl (Nat.le_of_ble_eq_true rfl) rfl rfl ?_; clear M T; intro Jw1 wc ac hsw1 M T
  replace M : Mem w noEx wc (Jw1) := M
  obtain ⟨lo1, hlo1⟩ : ∃ qq9 : List Nt, qq9 = Lq.set c.toNat ({ q with rest := true }) := ⟨_, rfl⟩
  replace hsw1 : Sw 4 Augo1 LX.length bX (ntc lo1) Jw1 := by rw [hlo1]; exact hsw1
  have lhlo1 : lo1.length = Lq.length := by rw [hlo1, List.length_set]
  have Ss1 := hsw1.sp (w := w) (ex := noEx)
  refine wpList_nil ?_
  replace T := T.pick [8, 9, 10] rfl
  refine Znb ?_
  refine nm_then ?_
  refine wp_region_lit ?_
  refine Zg2 T (Zq (Zrm rfl (T.e 2 rfl))) rfl (fun _ T => Zq (rn_add rfl (T.e 0 rfl) evc (by omega))) rfl ?_; clear T ac; intro ac T
  refine l_q (v := (.int .i64 ((k : Int) + 1))) (T.pick [0, 1, 2, 3] rfl) rfl rfl rfl rfl (Zra rfl (T.e 0 rfl)) ?_; clear T ac; intro ac T
  replace T := T.pick [0, 3, 4] rfl
  refine Zln ?_
  exact ⟨_, by omega, k + 1, lo1, Jw1, rfl, (by omega), (by rw [hlo1, restP_succ hkc, ← hL]; unfold setR; rw [List.getD_eq_getElem?_getD, hkq]; rfl), (by omega), hsw1, T.pick [1, 2, 0] rfl, (M.mask [] rfl)⟩
 intro h1
 rw [List.take_of_length_le (by omega)] at hL
 rw [← hLl] at T Sq
 have hLq6 : Lq.length ≤ 6 := by rw [hLl, hLl9]; exact hgp.n6
 refine wp_exit ?_
 refine Zet ?_
 refine Zet ?_
 refine ex_hit ?_
 refine nm_then ?_
 refine Zsr ?_
 refine Zg2 T (Zq (Zrm rfl (T.e 2 rfl))) rfl (Za 0 rfl rfl) rfl ?_; clear T ac; intro ac T
 replace T := T.pick [0] rfl
 refine Zln ?_
 refine wp_ret ?_
 refine rt_1 T rfl (T.e 0 rfl) ?_
 rw [← hL]
 exact ⟨_, _, Iw, rfl, ⟨_, _, fun w1 ex => by have h9 := hsw.sp (w := w1) (ex := ex); rw [← hLl] at h9; exact h9⟩, M.mask [] rfl⟩
set_option maxHeartbeats 4000000 in
theorem BellowRested_any {J : Nat → Option Obj} (hP : FuncsOk Try.prog) (D : Option Addr) (n d : Nat) (l : List Int) (w : World) (hl : Rd w w.heap.size 1 D n (ic l)) (hm : n ≤ 9223372036854775807) :
   TopB Try.prog J 5 Try.f5 #[.slice D n d] w fun e w' => e = .returned (.bool true) ∧ Below w.heap.size w w' := by
 have hll := hl.len1
 obtain ⟨bI, oI, SI⟩ := Sp.old hl
 refine px_enterT hP noEx Try.func5 rfl 91 rfl [.slice D n d] rfl rfl (Mem.init w _) ?_ (fun _ _ h => ⟨_, h.1⟩)
 intro ac wc T M
 refine wpB_seq hP ?_
 refine b_lone hP w fun T9 => ?_
 replace M := M.tp T9 0 0
 replace SI := SI.tp T9 0
 refine wp_region_lit ?_
 refine lq T (Zra rfl evc) ?_; clear T ac; intro ac T
 refine wpList_nil ?_
 refine nqR_n M ?_; clear M; intro wc M
 replace SI := SI.pt
 replace T := T.pick [1] rfl
 refine nm_then ?_
 refine wpB_seq hP ?_
 refine b_lone hP w fun T9 => ?_
 replace M := M.tp T9 0 0
 replace SI := SI.tp T9 0
 refine wp_region_lit ?_
 refine lq T (Zrm rfl (T.e 0 rfl)) ?_; clear T ac; intro ac T
 refine Zl2 ?_
 refine Zoc (first := []) (cap := []) T rfl rfl rfl rfl evf (.cons (T.e 0 rfl) .nil) Try.func17 rfl rfl ?_
 refine Calls.mono (newPot_any _ _ _ l _ (SI.rd M (Zz9 _)) (by omega)) ?_
 clear T; rintro e wc ⟨bpu1, su1, hsu1, rfl, N⟩ ac T
 replace M := M.join N; clear N
 replace M := M.mask [true] rfl
 refine lq T (Zra rfl (T.e 0 rfl)) ?_; clear T ac; intro ac T
 refine wpList_nil ?_
 refine nqR_n M ?_; clear M; intro wc M
 replace SI := SI.pt
 replace T := T.pick [0] rfl
 refine nm_then ?_
 refine wpB_seq hP ?_
 refine b_lone hP w fun T9 => ?_
 replace M := M.tp T9 0 0
 replace SI := SI.tp T9 0
 refine wp_region_lit ?_
 refine lq T (Zrm rfl (T.e 0 rfl)) ?_; clear T ac; intro ac T
 refine Zl2 ?_
 refine Zoc (first := []) (cap := []) T rfl rfl rfl rfl evf (.cons (T.e 0 rfl) (.cons evc (.cons evc .nil))) Try.func18 rfl rfl ?_
 refine Calls.mono (bellowOf_any _ bpu1 3 1 _ (by omega) (by omega) (M.nth 0 rfl) hsu1) ?_
 clear T; rintro e wc ⟨bu2, gu2, airu2, Abu2, cbu2, Dbu2, dbu2, Gbu2, nbu2, su2, Ibu2, rfl, hBtu2, hBgu2, hBnu2, hsu2, hBiu2, ⟨bGu2, oGu2, hGsu2⟩, N⟩ ac T
 replace M := (M.joinW2 .head N).swapI
 clear N
 replace M : Mem (Bq.tp w T9 0) noEx wc ((bpu1, .cells [.int .u64 su2]) :: Ibu2) := M
 have SGu2 := hGsu2 (Bq.tp w T9 0) noEx
 have hB4u2 : gu2.length ≤ 4 := by omega
 have hB3u2 : bu2.ts.length ≤ 3 := by omega
 refine Zg4 T (Zq (Zrm rfl (T.e 0 rfl))) rfl (Ze 0 rfl rfl rfl) rfl (Ze 1 rfl rfl rfl) rfl (Ze 2 rfl rfl rfl) rfl ?_; clear T ac; intro ac T
 refine Zl2 ?_
 refine Zoa M T rfl rfl rfl rfl ?_; clear M T; intro g1 wc ac M T
 refine Zl2 ?_
 refine Zos M T rfl rfl (T.e 0 rfl) (T.e 3 rfl) rfl .head rfl (by simp) rfl (by kernel_rfl) ?_; clear M T; intro wc ac M T
 refine Zg2 T (Zq (Zra rfl (T.e 2 rfl))) rfl (Za 2 rfl rfl) rfl ?_; clear T ac; intro ac T
 refine wpList_nil ?_
 refine nqR_n M ?_; clear M; intro wc M
 replace SGu2 := SGu2.pt
 replace SI := SI.pt
 replace T := T.pick [2, 9] rfl
 refine nm_then ?_
 refine wpB_seq hP ?_
 refine b_lone hP w fun T9 => ?_
 replace M := M.tp T9 0 0
 replace SGu2 := SGu2.tp T9 0
 replace SI := SI.tp T9 0
 refine wp_region_lit ?_
 refine lq T (Zrm rfl (T.e 1 rfl)) ?_; clear T ac; intro ac T
 refine Zl2 ?_
 refine Zoc (first := []) (cap := []) T rfl rfl rfl rfl evf (.cons (T.e 0 rfl) (.cons evc .nil)) Try.func25 rfl rfl ?_
 refine Calls.mono (pieceOf_any _ bpu1 5 _ (by omega) (M.nth 1 rfl) hsu2) ?_
 clear T; rintro e wc ⟨pu3, aau3, Apu3, cpu3, Bpu3, dpu3, su3, Ipu3, rfl, hPtu3, hPlu3, hPmu3, hPcu3, hsu3, ⟨bqu3, oqu3, hSpu3⟩, ⟨bru3, oru3, hSau3⟩, N⟩ ac T
 replace M := (M.joinW2 (.tail .head) N).swapI
 clear N
 replace M : Mem (Bq.tp w T9 0) noEx wc ((g1, .cells [.int .i64 bu2.full, .int .i64 bu2.a0, .int .i64 bu2.a1, .slice Abu2 bu2.cs.length cbu2, .slice Dbu2 bu2.ts.length dbu2]) :: (bpu1, .cells [.int .u64 su3]) :: (Ibu2 ++ Ipu3)) := M
 have SPu3 := hSpu3 (Bq.tp w T9 0) noEx
 have SAu3 := hSau3 (Bq.tp w T9 0) noEx
 have hpgu3 : NtGood pu3 := ⟨by omega, hPtu3.good⟩
 have hp6u3 := hpgu3.n6
 refine Zg5 T (Zq (Zrm rfl (T.e 0 rfl))) rfl (Ze 0 rfl rfl rfl) rfl (Ze 1 rfl rfl rfl) rfl (Za 1 rfl rfl) rfl (Za 1 rfl rfl) rfl ?_; clear T ac; intro ac T
 refine wpList_nil ?_
 refine nqR_n M ?_; clear M; intro wc M
 replace SAu3 := SAu3.pt
 replace SGu2 := SGu2.pt
 replace SI := SI.pt
 replace SPu3 := SPu3.pt
 replace T := T.pick [1, 7] rfl
 replace M := M.mask [true, false] rfl
 refine nm_then ?_
 refine wpB_seq hP ?_
 refine rB_preN hP w 2 (by decide) fun T9 => ?_
 replace M := M.tp T9 0 0
 replace SAu3 := SAu3.tp T9 0
 replace SGu2 := SGu2.tp T9 0
 replace SI := SI.tp T9 0
 replace SPu3 := SPu3.tp T9 0
 refine Zg2 T (Zq (Zrr (Mem.nth M 0 rfl) rfl (T.e 1 rfl) rfl)) rfl (Zm 1 rfl rfl) rfl ?_; clear T ac; intro ac T
 refine wpList_nil ?_
 refine pqR_n M ?_; clear M; intro wc M
 replace SAu3 := SAu3.pt
 replace SGu2 := SGu2.pt
 replace SI := SI.pt
 replace SPu3 := SPu3.pt
 obtain ⟨hA9, hD9, hop9⟩ := hBiu2.rd M (.cons _ (subL (List.Sublist.refl _)))
 obtain ⟨nA9, nD9, nop9⟩ := hBiu2.few
 refine rB_call hP (m := 5) (first := []) (cap := []) T rfl rfl rfl rfl rfl evf (.cons (T.e 1 rfl) (.cons (T.e 0 rfl) .nil)) Try.func28 rfl rfl (Rests_any hP bu2 Abu2 cbu2 Dbu2 dbu2 pu3 Apu3 cpu3 _ hA9 hD9 hop9 nA9 nD9 nop9 (SPu3.rd M (.cons _ (Zsq _ _))) (by omega)) ?_
 clear T
 rintro e wc ⟨Awu4, cwu4, Iwu4, rfl, hwcu4, ⟨bwu4, owu4, hSwu4⟩, N⟩
 refine ⟨_, rfl, ?_⟩
 intro ac T
 replace M := (M.join N).swapI
 clear N
 replace M : Mem w noEx wc ((g1, .cells [.int .i64 bu2.full, .int .i64 bu2.a0, .int .i64 bu2.a1, .slice Abu2 bu2.cs.length cbu2, .slice Dbu2 bu2.ts.length dbu2]) :: (Ibu2 ++ Ipu3 ++ Iwu4)) := M
 obtain ⟨hsL, hsE, hsT⟩ := rested_law hBtu2 hB4u2 hB3u2 hpgu3
 obtain ⟨PR, hPR⟩ : ∃ q : List Int → Bool, q = fun r => fineB bu2 (restP pu3 r) (sums0 bu2) := ⟨_, rfl⟩
 rw [← hPR] at hsL hsE
 obtain ⟨rL, hrL⟩ : ∃ q, q = rsL bu2 pu3 := ⟨_, rfl⟩
 obtain ⟨rE, hrE⟩ : ∃ q, q = rsE bu2 pu3 := ⟨_, rfl⟩
 rw [← hrL] at T hsL hSwu4
 rw [← hrE] at T hsE
 have Swu4 := hSwu4 w noEx
 replace hsT : ∀ r, (turE bu2 (restP pu3 r) = 0 ∨ turE bu2 (restP pu3 r) = 11) ∧ (turE bu2 (restP pu3 r) = 0 ↔ PR r = true) := by rw [hPR]; exact hsT
 obtain ⟨nn, hnn⟩ : ∃ q, q = pu3.length := ⟨_, rfl⟩
 rw [← hnn] at hsL hsE
 refine rB_moreN hP w 5 0 rfl (by decide) fun T9 => ?_
 replace M := M.tp T9 0 0
 replace SAu3 := SAu3.tp T9 0
 replace SGu2 := SGu2.tp T9 0
 replace SI := SI.tp T9 0
 replace SPu3 := SPu3.tp T9 0
 replace Swu4 := Swu4.tp T9 0
 refine Zg5 T (Zq (Zrm rfl (T.e 0 rfl))) rfl (Ze 0 rfl rfl rfl) rfl (Ze 1 rfl rfl rfl) rfl (Za 1 rfl rfl) rfl (Za 1 rfl rfl) rfl ?_; clear T ac; intro ac T
 refine wpList_nil ?_
 refine pqR_n M ?_; clear M; intro wc M
 replace SAu3 := SAu3.pt
 replace SGu2 := SGu2.pt
 replace SI := SI.pt
 replace SPu3 := SPu3.pt
 replace Swu4 := Swu4.pt
 refine rB_nil hP ?_
 replace T := T.pick [0, 1, 8, 9] rfl
 refine nm_then ?_
 refine wpB_seq hP ?_
 refine wpB_seq hP ?_
 refine b_lone hP w fun T9 => ?_
 replace M := M.tp T9 0 0
 replace SAu3 := SAu3.tp T9 0
 replace SGu2 := SGu2.tp T9 0
 replace SI := SI.tp T9 0
 replace SPu3 := SPu3.tp T9 0
 replace Swu4 := Swu4.tp T9 0
 refine wp_region_lit ?_
 refine lq T (Zra rfl evc) ?_; clear T ac; intro ac T
 refine wpList_nil ?_
 refine nqR_n M ?_; clear M; intro wc M
 replace SAu3 := SAu3.pt
 replace SGu2 := SGu2.pt
 replace SI := SI.pt
 replace SPu3 := SPu3.pt
 replace Swu4 := Swu4.pt
 refine nm_then ?_
 refine wpB_block hP ?_
 refine wpB_loop_n hP (fun mz ac wc => ∃ (m : Nat), mz = nn + 1 - m ∧ (m ≤ nn + 1) ∧ (∀ y ∈ lisU nn m 0, PR y = false) ∧ Tm ac 91 [(4, .pointer (some ⟨g1, 0, none⟩)), (7, .slice Apu3 pu3.length cpu3), (9, .slice Awu4 rL.length cwu4), (10, .int .i64 rE), (11, .int .i64 (m : Int))] ∧ Mem w noEx wc ((g1, .cells [.int .i64 bu2.full, .int .i64 bu2.a0, .int .i64 bu2.a1, .slice Abu2 bu2.cs.length cbu2, .slice Dbu2 bu2.ts.length dbu2]) :: (Ibu2 ++ Ipu3 ++ Iwu4))) ?_ ?_
 ·exact ⟨_, 0, rfl, (by omega), (fun y hy => by cases hy), T.pick [4, 3, 2, 1, 0] rfl, M.mask [true] rfl⟩
 clear T M
 rintro mz ac wc ⟨m, hmm1, hm, H, T, M⟩
 refine wpB_seq hP ?_
 refine wpB_seq hP ?_
 refine b_lone hP w fun T9 => ?_
 replace M := M.tp T9 0 0
 replace SAu3 := SAu3.tp T9 0
 replace SGu2 := SGu2.tp T9 0
 replace SI := SI.tp T9 0
 replace SPu3 := SPu3.tp T9 0
 replace Swu4 := Swu4.tp T9 0
 refine wp_region_lit ?_
 refine Zg4 T (Zq (Zrm rfl (T.e 4 rfl))) rfl (Zm 2 rfl rfl) rfl (Zl Try.underlying44 0 rfl rfl) rfl (fun _ T => Zq (rn_leq rfl (T.e 2 rfl) (T.e 0 rfl))) rfl ?_; clear T ac; intro ac T
 refine wpList_nil ?_
 refine nqR_n M ?_; clear M; intro wc M
 replace SAu3 := SAu3.pt
 replace SGu2 := SGu2.pt
 replace SI := SI.pt
 replace SPu3 := SPu3.pt
 replace Swu4 := Swu4.pt
 replace T := T.pick [0, 4, 5, 6, 7, 8] rfl
 refine nm_then ?_
 refine wB_if hP (T.e 0 rfl) ?_ ?_
 ·intro h1
  have hm9 : m ≤ nn := by omega
  refine wpB_skip hP ?_
  refine nm_then ?_
  refine wpB_seq hP ?_
  refine wpB_block hP ?_
  refine wpB_seq hP ?_
  refine b_lone hP w fun T9 => ?_
  replace M := M.tp T9 0 0
  replace SAu3 := SAu3.tp T9 0
  replace SGu2 := SGu2.tp T9 0
  replace SI := SI.tp T9 0
  replace SPu3 := SPu3.tp T9 0
  replace Swu4 := Swu4.tp T9 0
  refine wp_region_lit ?_
  refine Zg3 T (Zq (Zrm rfl (T.e 2 rfl))) rfl (Zl Try.underlying44 0 rfl rfl) rfl (Zm 7 rfl rfl) rfl ?_; clear T ac; intro ac T
  refine Zl2 ?_
  rw [show ((pu3.length : Nat) : Int) = (nn : Int) by rw [hnn]] at T
  refine Zoc (first := []) (cap := []) T rfl rfl rfl rfl evf (.cons evc (.cons (T.e 1 rfl) (.cons (T.e 0 rfl) .nil))) Try.func29 rfl rfl ?_
  refine Calls.mono (choicesK_any nn (by omega) m (by omega) 0 _ (by omega)) ?_
  clear T; rintro e wc ⟨Au5, cu5, LLu5, Iu5, rfl, hLu5, Su5, Eu5, N⟩ ac T
  obtain ⟨bu5, ou5, Su5⟩ := Su5
  replace Su5 := Su5 (Bq.tp w T9 0) noEx
  replace M := (M.join N).swapI
  clear N
  replace M : Mem (Bq.tp w T9 0) noEx wc ((g1, .cells [.int .i64 bu2.full, .int .i64 bu2.a0, .int .i64 bu2.a1, .slice Abu2 bu2.cs.length cbu2, .slice Dbu2 bu2.ts.length dbu2]) :: (Ibu2 ++ Ipu3 ++ Iwu4 ++ Iu5)) := M
  have nRu5 : LLu5.length = (clN nn m 0).length := by rw [← hLu5, List.length_map]
  have nQu5 : (clN nn m 0).length ≤ 46656 := Nat.le_trans (clN_few (by omega) m _) (Nat.pow_le_pow_right (by omega) (by omega : m ≤ 6))
  refine lq T (Zra rfl (T.e 0 rfl)) ?_; clear T ac; intro ac T
  refine wpList_nil ?_
  refine nqR_n M ?_; clear M; intro wc M
  replace SAu3 := SAu3.pt
  replace SGu2 := SGu2.pt
  replace SI := SI.pt
  replace SPu3 := SPu3.pt
  replace Su5 := Su5.pt
  replace Swu4 := Swu4.pt
  replace T := T.pick [0, 6, 7, 8, 9, 10] rfl
  refine nm_then ?_
  refine wpB_seq hP ?_
  refine b_lone hP w fun T9 => ?_
  replace M := M.tp T9 0 0
  replace SAu3 := SAu3.tp T9 0
  replace SGu2 := SGu2.tp T9 0
  replace SI := SI.tp T9 0
  replace SPu3 := SPu3.tp T9 0
  replace Su5 := Su5.tp T9 0
  replace Swu4 := Swu4.tp T9 0
  refine wp_region_lit ?_
  refine lq T (Zra rfl evc) ?_; clear T ac; intro ac T
  refine wpList_nil ?_
  refine nqR_n M ?_; clear M; intro wc M
  replace SAu3 := SAu3.pt
  replace SGu2 := SGu2.pt
  replace SI := SI.pt
  replace SPu3 := SPu3.pt
  replace Su5 := Su5.pt
  replace Swu4 := Swu4.pt
  refine nm_then ?_
  refine wpB_block hP ?_
  refine wpB_loop_n hP (fun mz ac wc => ∃ (i : Nat), mz = LLu5.length - i ∧ (i ≤ LLu5.length) ∧ (∀ y ∈ lisU nn m i, PR y = false) ∧ Tm ac 91 [(4, .pointer (some ⟨g1, 0, none⟩)), (7, .slice Apu3 pu3.length cpu3), (9, .slice Awu4 rL.length cwu4), (10, .int .i64 rE), (11, .int .i64 (m : Int)), (12, .slice Au5 LLu5.length cu5), (13, .int .i64 (i : Int))] ∧ Mem w noEx wc ((g1, .cells [.int .i64 bu2.full, .int .i64 bu2.a0, .int .i64 bu2.a1, .slice Abu2 bu2.cs.length cbu2, .slice Dbu2 bu2.ts.length dbu2]) :: (Ibu2 ++ Ipu3 ++ Iwu4 ++ Iu5))) ?_ ?_
  ·exact ⟨_, 0, rfl, (by omega), H, T.pick [2, 3, 4, 5, 6, 1, 0] rfl, M.mask [true] rfl⟩
  clear T M
  rintro mz ac wc ⟨i, hmm2, hi, H2, T, M⟩
  refine wpB_seq hP ?_
  refine wpB_seq hP ?_
  refine b_lone hP w fun T9 => ?_
  replace M := M.tp T9 0 0
  replace SAu3 := SAu3.tp T9 0
  replace SGu2 := SGu2.tp T9 0
  replace SI := SI.tp T9 0
  replace SPu3 := SPu3.tp T9 0
  replace Su5 := Su5.tp T9 0
  replace Swu4 := Swu4.tp T9 0
  refine wp_region_lit ?_
  refine Zg4 T (Zq (Zrm rfl (T.e 6 rfl))) rfl (Zm 6 rfl rfl) rfl (Zl Try.underlying54 0 rfl rfl) rfl (fun _ T => Zq (rn_lss rfl (T.e 2 rfl) (T.e 0 rfl))) rfl ?_; clear T ac; intro ac T
  refine wpList_nil ?_
  refine nqR_n M ?_; clear M; intro wc M
  replace SAu3 := SAu3.pt
  replace SGu2 := SGu2.pt
  replace SI := SI.pt
  replace SPu3 := SPu3.pt
  replace Su5 := Su5.pt
  replace Swu4 := Swu4.pt
  replace T := T.pick [0, 4, 5, 6, 7, 8, 9, 10] rfl
  refine nm_then ?_
  refine wB_if hP (T.e 0 rfl) ?_ ?_
  ·intro h2
   obtain ⟨⟨lv, Av, cv⟩, hkv⟩ : ∃ x, LLu5[i]? = some x := ⟨_, List.getElem?_eq_getElem (by omega)⟩
   obtain ⟨bv, ov, Sv⟩ := Eu5 _ (List.mem_of_getElem? hkv)
   replace Sv : Sp w noEx Iu5 Av lv.length 1 bv ov (ic lv) := Sv w noEx
   have hkq : (clN nn m 0)[i]? = some lv := by rw [← hLu5, List.getElem?_map, hkv]; rfl
   have hlv := clN_len _ _ lv (List.mem_of_getElem? hkq)
   refine wpB_skip hP ?_
   refine nm_then ?_
   refine wpB_seq hP ?_
   refine wpB_block hP ?_
   refine wpB_seq hP ?_
   refine gB_start2 hP M (M.mask [true] rfl) 15 (by kernel_rfl) rfl (by kernel_rfl) ?_
   clear M; intro wc M
   refine gB_q (T := T) (i := 0) rfl (by kernel_rfl) (by kernel_rfl : (Zpb 15 0).setIfInBounds 0 true = Zpb 15 1) (fun _ => si_U) rfl rfl rfl rfl (fun T9 B w' hD hl hS => (Zrr (Mem.nth (show Mem (Bq.tp w T9 0) noEx w' _ from hS) 0 rfl) rfl (T.e 1 rfl) rfl)) ?_; clear T ac; intro ac T
   refine gB_q (T := T) (i := 1) rfl (by kernel_rfl) (by kernel_rfl : (Zpb 15 1).setIfInBounds 1 true = Zpb 15 3) (fun _ => si_U) rfl rfl rfl rfl (fun _ _ _ _ _ _ => (Zrm rfl (T.e 3 rfl))) ?_; clear T ac; intro ac T
   refine gB_q (T := T) (i := 2) rfl (by kernel_rfl) (by kernel_rfl : (Zpb 15 3).setIfInBounds 2 true = Zpb 15 7) (fun _ => si_U) rfl rfl rfl rfl (fun _ _ _ _ _ _ => (Zrm rfl (T.e 8 rfl))) ?_; clear T ac; intro ac T
   refine gB_q (T := T) (i := 3) rfl (by kernel_rfl) (by kernel_rfl : (Zpb 15 7).setIfInBounds 3 true = Zpb 15 15) (fun _ => si_U) rfl rfl rfl rfl (fun _ _ _ _ _ _ => (Zrm rfl (T.e 10 rfl))) ?_; clear T ac; intro ac T
   refine gB_q (T := T) (i := 4) rfl (by kernel_rfl) (by kernel_rfl : (Zpb 15 15).setIfInBounds 4 true = Zpb 15 31) (fun _ => si_U) rfl rfl rfl rfl (fun _ _ _ _ _ _ => (Zri (size := 1) i rfl (T.e 1 rfl) (T.e 0 rfl) ⟨_, Try.underlying54, by kernel_rfl⟩ rfl (by omega) (Su5.at0 (by omega)))) ?_; clear T ac; intro ac T
   refine gB_q (v := (.slice Av lv.length cv)) (T := T) (i := 5) rfl (by kernel_rfl) (by kernel_rfl : (Zpb 15 31).setIfInBounds 5 true = Zpb 15 63) (fun _ => si_U) rfl rfl rfl rfl (fun T9 B w' hD hl hS => (rn_cell (Sp.lc0 (Su5.tp T9 0) (show Mem (Bq.tp w T9 0) noEx w' _ from hS) (.cons _ (Zsq _ _)) hkv) rfl (T.e 0 rfl))) ?_; clear T ac; intro ac T
   refine gB_w (i := 6) (by kernel_rfl) rfl (by kernel_rfl : (Zpb 15 63).setIfInBounds 6 true = Zpb 15 127) rfl ?_; intro T9 K hK
   replace M := M.tp T9 0 0
   replace SAu3 := SAu3.tp T9 0
   replace SGu2 := SGu2.tp T9 0
   replace SI := SI.tp T9 0
   replace SPu3 := SPu3.tp T9 0
   replace Su5 := Su5.tp T9 0
   replace Sv := Sv.tp T9 0
   replace Swu4 := Swu4.tp T9 0
   refine Zoc (first := []) (cap := []) T rfl rfl rfl rfl evf (.cons (T.e 4 rfl) (.cons (T.e 0 rfl) .nil)) Try.func30 rfl rfl ?_
   refine Calls.mono (rested_any pu3 Apu3 cpu3 Av cv lv _ (SPu3.rd M (.cons _ (subL (subL (Zsq _ _))))) (Sv.rd M (.cons _ (Zsq _ _))) hpgu3 (by omega) (by rw [← hnn]; exact hlv.2)) ?_
   clear T; rintro e wc ⟨Aqu6, cqu6, Iqu6, rfl, ⟨bqu6, oqu6, hSqu6⟩, N⟩ ac T
   obtain ⟨rpu6, hrpu6⟩ : ∃ q, q = restP pu3 lv := ⟨_, rfl⟩
   rw [← hrpu6] at hSqu6
   have hrlu6 : rpu6.length = pu3.length := by rw [hrpu6, restP_length]
   have Squ6 := hSqu6 (Bq.tp w T9 0) noEx
   replace M := (M.join N).swapI
   clear N
   replace M : Mem (Bq.tp w T9 0) noEx wc ((g1, .cells [.int .i64 bu2.full, .int .i64 bu2.a0, .int .i64 bu2.a1, .slice Abu2 bu2.cs.length cbu2, .slice Dbu2 bu2.ts.length dbu2]) :: (Ibu2 ++ Ipu3 ++ Iwu4 ++ Iu5 ++ Iqu6)) := M
   rw [← hrpu6] at T
   refine gB_out hK M ?_; clear hK K M; intro wc M
   replace SAu3 := SAu3.pt
   replace SGu2 := SGu2.pt
   replace SI := SI.pt
   replace SPu3 := SPu3.pt
   replace Squ6 := Squ6.pt
   replace Su5 := Su5.pt
   replace Sv := Sv.pt
   replace Swu4 := Swu4.pt
   refine ⟨((M.mask [true] rfl).sub (List.Sublist.cons_cons _ (Zsl _ _))), ?_⟩
   obtain ⟨hA9, hD9, hop9⟩ := hBiu2.rd M (.cons _ (subL (subL (subL (subL (List.Sublist.refl _))))))
   obtain ⟨nA9, nD9, nop9⟩ := hBiu2.few
   refine gB_one (i := 7) (by kernel_rfl) (by kernel_rfl : (Zpb 15 127).setIfInBounds 7 true = Zpb 15 255) (opB_call (first := []) (cap := []) T rfl rfl rfl rfl rfl evf (.cons (T.e 6 rfl) (.cons (T.e 0 rfl) .nil)) Try.func27 rfl rfl (Turns_any hP bu2 Abu2 cbu2 Dbu2 dbu2 rpu6 Aqu6 cqu6 _ hA9 hD9 hop9 nA9 nD9 nop9 (Squ6.rd M (.cons _ (Zsq _ _))) (by omega)) ?_ rfl)
   clear T
   rintro e wc ⟨Atur12_7, ctur12_7, Itur12_7, rfl, htcur12_7, ⟨btur12_7, otur12_7, hStur12_7⟩, N⟩
   refine ⟨_, rfl, ?_⟩
   intro ac T
   replace M := (M.join N).swapI
   clear N
   replace M : Mem w noEx wc ((g1, .cells [.int .i64 bu2.full, .int .i64 bu2.a0, .int .i64 bu2.a1, .slice Abu2 bu2.cs.length cbu2, .slice Dbu2 bu2.ts.length dbu2]) :: (Ibu2 ++ Ipu3 ++ Iwu4 ++ Iu5 ++ Iqu6 ++ Itur12_7)) := M
   obtain ⟨hL1, hL2⟩ := hsT lv
   rw [← hrpu6] at hL1 hL2
   obtain ⟨te, hte⟩ : ∃ q, q = turE bu2 rpu6 := ⟨_, rfl⟩
   rw [← hte] at T hL1 hL2
   refine ⟨((M.mask [true] rfl).sub (List.Sublist.cons_cons _ (List.Sublist.trans (Zsl _ _) (Zsl _ _)))), ?_⟩
   refine gB_q (T := T) (i := 8) rfl (by kernel_rfl) (by kernel_rfl : (Zpb 15 255).setIfInBounds 8 true = Zpb 15 511) (fun _ => si_U) rfl rfl rfl rfl (fun _ _ _ _ _ _ => (Zrm rfl (T.e 0 rfl))) ?_; clear T ac; intro ac T
   refine gB_q (T := T) (i := 9) rfl (by kernel_rfl) (by kernel_rfl : (Zpb 15 511).setIfInBounds 9 true = Zpb 15 1023) (fun _ => si_U) rfl rfl rfl rfl (fun _ _ _ _ _ _ => (Zre rfl (T.e 0 rfl) rfl)) ?_; clear T ac; intro ac T
   refine gB_q (T := T) (i := 10) rfl (by kernel_rfl) (by kernel_rfl : (Zpb 15 1023).setIfInBounds 10 true = Zpb 15 2047) (fun _ => si_U) rfl rfl rfl rfl (fun _ _ _ _ _ _ => (Zre rfl (T.e 1 rfl) rfl)) ?_; clear T ac; intro ac T
   refine gB_q (T := T) (i := 11) rfl (by kernel_rfl) (by kernel_rfl : (Zpb 15 2047).setIfInBounds 11 true = Zpb 15 4095) (fun _ => si_U) rfl rfl rfl rfl (fun _ _ _ _ _ _ => (Zre rfl (T.e 2 rfl) rfl)) ?_; clear T ac; intro ac T
   refine gB_q (T := T) (i := 12) rfl (by kernel_rfl) (by kernel_rfl : (Zpb 15 4095).setIfInBounds 12 true = Zpb 15 8191) (fun _ => si_U) rfl rfl rfl rfl (fun _ _ _ _ _ _ => (Zra rfl (T.e 2 rfl))) ?_; clear T ac; intro ac T
   refine gB_q (T := T) (i := 13) rfl (by kernel_rfl) (by kernel_rfl : (Zpb 15 8191).setIfInBounds 13 true = Zpb 15 16383) (fun _ => si_U) rfl rfl rfl rfl (fun _ _ _ _ _ _ => (Zra rfl (T.e 2 rfl))) ?_; clear T ac; intro ac T
   refine gB_q (T := T) (i := 14) rfl (by kernel_rfl) (by kernel_rfl : (Zpb 15 16383).setIfInBounds 14 true = Zpb 15 32767) (fun _ => si_U) rfl rfl rfl rfl (fun _ _ _ _ _ _ => (Zra rfl (T.e 2 rfl))) ?_; clear T ac; intro ac T
   refine gB_done (by kernel_rfl) M ?_; clear M; intro wc M
   replace T := T.pick [0, 16, 17, 18, 19, 20, 21, 22] rfl
   refine nm_then ?_
   refine wpB_seq hP ?_
   refine wpB_seq hP ?_
   refine b_lone hP w fun T9 => ?_
   replace M := M.tp T9 0 0
   replace SAu3 := SAu3.tp T9 0
   replace SGu2 := SGu2.tp T9 0
   replace SI := SI.tp T9 0
   replace SPu3 := SPu3.tp T9 0
   replace Squ6 := Squ6.tp T9 0
   replace Su5 := Su5.tp T9 0
   replace Sv := Sv.tp T9 0
   replace Swu4 := Swu4.tp T9 0
   refine wp_region_lit ?_
   refine Zg2 T (Zq (Zrm rfl (T.e 0 rfl))) rfl (fun _ T => Zq (rn_eql rfl (T.e 0 rfl) evc)) rfl ?_; clear T ac; intro ac T
   refine wpList_nil ?_
   refine nqR_n M ?_; clear M; intro wc M
   replace SAu3 := SAu3.pt
   replace SGu2 := SGu2.pt
   replace SI := SI.pt
   replace SPu3 := SPu3.pt
   replace Squ6 := Squ6.pt
   replace Su5 := Su5.pt
   replace Sv := Sv.pt
   replace Swu4 := Swu4.pt
   replace T := T.pick [0, 2, 3, 4, 5, 6, 7, 8, 9] rfl
   refine nm_then ?_
   refine wB_if hP (T.e 0 rfl) ?_ ?_
   ·intro h3
    obtain ⟨hrl9, hrE9⟩ := few_hit hm9 H2 hkq (hL2.1 (by omega))
    rw [← hsL] at hrl9
    rw [← hsE] at hrE9
    refine wpB_seq hP ?_
    refine rB_preN hP w 11 (by decide) fun T9 => ?_
    replace M := M.tp T9 0 0
    replace SAu3 := SAu3.tp T9 0
    replace SGu2 := SGu2.tp T9 0
    replace SI := SI.tp T9 0
    replace SPu3 := SPu3.tp T9 0
    replace Squ6 := Squ6.tp T9 0
    replace Su5 := Su5.tp T9 0
    replace Sv := Sv.tp T9 0
    replace Swu4 := Swu4.tp T9 0
    refine Zg8 (v8 := (.slice Av lv.length cv)) T (Zq (Zrm rfl (T.e 5 rfl))) rfl (fun _ T => Zq (rn_eql rfl (T.e 0 rfl) evc)) rfl (Zm 0 rfl rfl) rfl (fun _ T => Zw (Zwy rfl rfl (T.e 0 rfl) (Zdt hrE9)) (Zrm rfl (T.e 7 rfl))) rfl (fun _ T => Zw (Zwy rfl rfl (T.e 1 rfl) (Zdt hrE9)) (Zrm rfl (T.e 11 rfl))) rfl (fun _ T => Zw (Zwy rfl rfl (T.e 2 rfl) (Zdt hrE9)) (Zrm rfl (T.e 13 rfl))) rfl (fun _ T => Zw (Zwy rfl rfl (T.e 3 rfl) (Zdt hrE9)) (Zri (size := 1) i rfl (T.e 1 rfl) (T.e 0 rfl) ⟨_, Try.underlying54, by kernel_rfl⟩ rfl (by omega) (Su5.at0 (by omega)))) rfl (fun _ T => Zw (Zwy rfl rfl (T.e 4 rfl) (Zdt hrE9)) (rn_cell (Sp.lc0 Su5 M (.cons _ (subL (subL (Zsq _ _)))) hkv) rfl (T.e 0 rfl))) rfl ?_; clear T ac; intro ac T
    refine l_w (Zwy rfl rfl (T.e 5 rfl) (Zdt hrE9)) ?_; intro K hK
    have hra9 := Swu4.rd M (.cons _ (subL (subL (subL (Zsq _ _)))))
    have hrlen : rL.length = lv.length := by rw [hrl9]
    refine Zoc (first := []) (cap := []) T rfl rfl rfl rfl evf (.cons (T.e 4 rfl) (.cons (T.e 0 rfl) .nil)) Try.func31 rfl rfl ?_
    refine Calls.mono (sameInts_same Awu4 Av rL.length lv.length cwu4 cv lv _ (by rw [hrl9] at hra9 ⊢; exact hra9) (Sv.rd M (.cons _ (subL (subL (Zsq _ _))))) (by omega) (by omega)) ?_
    clear T; rintro e wc ⟨rfl, hb⟩ ac T
    replace M := M.call hb; clear hb
    refine Zso hK _ _ ?_; clear hK K
    refine Zg2 T (Zq (Zr1 rfl (T.e 6 rfl) (Zdt hrE9) (T.e 0 rfl))) rfl (Zm 0 rfl rfl) rfl ?_; clear T ac; intro ac T
    refine wpList_nil ?_
    refine pqR_n M ?_; clear M; intro wc M
    replace SAu3 := SAu3.pt
    replace SGu2 := SGu2.pt
    replace SI := SI.pt
    replace SPu3 := SPu3.pt
    replace Squ6 := Squ6.pt
    replace Su5 := Su5.pt
    replace Sv := Sv.pt
    replace Swu4 := Swu4.pt
    refine rB_call hP (m := 2) (first := []) (cap := []) T rfl rfl rfl rfl rfl evf .nil Try.func16 rfl rfl (airy_any hP _) ?_ (Zwy rfl rfl (T.e 0 rfl) rfl)
    clear T
    rintro e wc ⟨rfl, hb⟩
    refine ⟨_, rfl, ?_⟩
    intro ac T
    replace M := M.call hb; clear hb
    refine rB_moreN hP w 2 0 rfl (by decide) fun T9 => ?_
    replace M := M.tp T9 0 0
    replace SAu3 := SAu3.tp T9 0
    replace SGu2 := SGu2.tp T9 0
    replace SI := SI.tp T9 0
    replace SPu3 := SPu3.tp T9 0
    replace Squ6 := Squ6.tp T9 0
    replace Su5 := Su5.tp T9 0
    replace Sv := Sv.tp T9 0
    replace Swu4 := Swu4.tp T9 0
    refine Zg2 T (Zq (Zr1 rfl (T.e 1 rfl) rfl (T.e 0 rfl))) rfl (Za 0 rfl rfl) rfl ?_; clear T ac; intro ac T
    refine wpList_nil ?_
    refine pqR_n M ?_; clear M; intro wc M
    replace SAu3 := SAu3.pt
    replace SGu2 := SGu2.pt
    replace SI := SI.pt
    replace SPu3 := SPu3.pt
    replace Squ6 := Squ6.pt
    replace Su5 := Su5.pt
    replace Sv := Sv.pt
    replace Swu4 := Swu4.pt
    refine rB_nil hP ?_
    replace T := T.pick [0] rfl
    replace M := M.mask [false] rfl
    replace M : Mem w noEx wc ((Ibu2 ++ Ipu3 ++ Iwu4 ++ Iu5 ++ Iqu6 ++ Itur12_7)) := M
    refine nm_then ?_
    refine wpB_ret hP ?_
    refine Zrt ?_
    refine Zrb ?_
    refine Zrt ?_
    refine Zrt ?_
    refine Zrb ?_
    refine Zrb ?_
    refine Zrt ?_
    refine Zrt ?_
    refine Zrb ?_
    refine Zrt ?_
    refine rt_1 T rfl (T.e 0 rfl) ?_
    exact ⟨rfl, M.below⟩
   intro h3
   refine wpB_skip hP ?_
   refine nm_then ?_
   refine wpB_seq hP ?_
   refine b_lone hP w fun T9 => ?_
   replace M := M.tp T9 0 0
   replace SAu3 := SAu3.tp T9 0
   replace SGu2 := SGu2.tp T9 0
   replace SI := SI.tp T9 0
   replace SPu3 := SPu3.tp T9 0
   replace Squ6 := Squ6.tp T9 0
   replace Su5 := Su5.tp T9 0
   replace Sv := Sv.tp T9 0
   replace Swu4 := Swu4.tp T9 0
   refine wp_region_lit ?_
   refine Zg2 T (Zq (Zrm rfl (T.e 1 rfl))) rfl (fun _ T => Zq (rn_neq rfl (T.e 0 rfl) evc)) rfl ?_; clear T ac; intro ac T
   refine wpList_nil ?_
   refine nqR_n M ?_; clear M; intro wc M
   replace SAu3 := SAu3.pt
   replace SGu2 := SGu2.pt
   replace SI := SI.pt
   replace SPu3 := SPu3.pt
   replace Squ6 := Squ6.pt
   replace Su5 := Su5.pt
   replace Sv := Sv.pt
   replace Swu4 := Swu4.pt
   replace T := T.pick [0, 4, 5, 6, 7, 8, 9, 10] rfl
   refine nm_then ?_
   refine wB_ifn hP (T.e 0 rfl) ?_ ?_
   ·intro h4
    exfalso
    omega
   intro h4
   refine wpB_skip hP ?_
   refine Znb ?_
   refine nm_then ?_
   refine b_lone hP w fun T9 => ?_
   replace M := M.tp T9 0 0
   replace SAu3 := SAu3.tp T9 0
   replace SGu2 := SGu2.tp T9 0
   replace SI := SI.tp T9 0
   replace SPu3 := SPu3.tp T9 0
   replace Squ6 := Squ6.tp T9 0
   replace Su5 := Su5.tp T9 0
   replace Sv := Sv.tp T9 0
   replace Swu4 := Swu4.tp T9 0
   refine wp_region_lit ?_
   refine Zg2 T (Zq (Zrm rfl (T.e 7 rfl))) rfl (fun _ T => Zq (rn_add rfl (T.e 0 rfl) evc (by omega))) rfl ?_; clear T ac; intro ac T
   refine l_q (v := (.int .i64 ((i : Int) + 1))) (T.pick [0, 1, 2, 3, 4, 5, 6, 7, 8] rfl) rfl rfl rfl rfl (Zra rfl (T.e 0 rfl)) ?_; clear T ac; intro ac T
   refine wpList_nil ?_
   refine nqR_n M ?_; clear M; intro wc M
   replace SAu3 := SAu3.pt
   replace SGu2 := SGu2.pt
   replace SI := SI.pt
   replace SPu3 := SPu3.pt
   replace Squ6 := Squ6.pt
   replace Su5 := Su5.pt
   replace Sv := Sv.pt
   replace Swu4 := Swu4.pt
   replace T := T.pick [0, 4, 5, 6, 7, 8, 9] rfl
   refine nm_then ?_
   exact ⟨_, by omega, i + 1, rfl, (by omega), (fun y hy => by rw [lisU_succ hkq] at hy; rcases List.mem_append.1 hy with hy | hy; exact H2 y hy; rw [List.mem_singleton.1 hy]; exact Bool.eq_false_iff.2 (fun h9 => by have := hL2.2 h9; omega)), T.pick [1, 2, 3, 4, 5, 6, 0] rfl, ((M.mask [true] rfl).sub (List.Sublist.cons_cons _ (List.Sublist.trans (Zsl _ _) (Zsl _ _))))⟩
  intro h2
  have hi9 : (clN nn m 0).length ≤ i := by omega
  refine wpB_exit hP ?_
  refine Zet ?_
  refine Zet ?_
  refine ex_hit ?_
  refine Znb ?_
  refine nm_then ?_
  refine b_lone hP w fun T9 => ?_
  replace M := M.tp T9 0 0
  replace SAu3 := SAu3.tp T9 0
  replace SGu2 := SGu2.tp T9 0
  replace SI := SI.tp T9 0
  replace SPu3 := SPu3.tp T9 0
  replace Su5 := Su5.tp T9 0
  replace Swu4 := Swu4.tp T9 0
  refine wp_region_lit ?_
  refine Zg2 T (Zq (Zrm rfl (T.e 5 rfl))) rfl (fun _ T => Zq (rn_add rfl (T.e 0 rfl) evc (by omega))) rfl ?_; clear T ac; intro ac T
  refine l_q (v := (.int .i64 ((m : Int) + 1))) (T.pick [0, 1, 2, 3, 4, 5, 6, 8, 9] rfl) rfl rfl rfl rfl (Zra rfl (T.e 0 rfl)) ?_; clear T ac; intro ac T
  refine wpList_nil ?_
  refine nqR_n M ?_; clear M; intro wc M
  replace SAu3 := SAu3.pt
  replace SGu2 := SGu2.pt
  replace SI := SI.pt
  replace SPu3 := SPu3.pt
  replace Su5 := Su5.pt
  replace Swu4 := Swu4.pt
  replace T := T.pick [0, 4, 5, 6, 7] rfl
  refine nm_then ?_
  rw [lisU_next (by omega)] at H2
  exact ⟨_, by omega, m + 1, rfl, (by omega), H2, T.pick [1, 2, 3, 4, 0] rfl, ((M.mask [true] rfl).sub (List.Sublist.cons_cons _ (Zsl _ _)))⟩
 intro h1
 obtain rfl : m = nn + 1 := by omega
 obtain ⟨hrl9, hrE9⟩ := few_none H
 rw [← hsL] at hrl9
 rw [← hsE] at hrE9
 have hrlen : rL.length = 0 := by rw [hrl9]; rfl
 refine wpB_exit hP ?_
 refine Zet ?_
 refine Zet ?_
 refine ex_hit ?_
 refine nm_then ?_
 refine wpB_seq hP ?_
 refine rB_preN hP w 8 (by decide) fun T9 => ?_
 replace M := M.tp T9 0 0
 replace SAu3 := SAu3.tp T9 0
 replace SGu2 := SGu2.tp T9 0
 replace SI := SI.tp T9 0
 replace SPu3 := SPu3.tp T9 0
 replace Swu4 := Swu4.tp T9 0
 refine Zg8 T (Zq (Zrm rfl (T.e 4 rfl))) rfl (fun _ T => Zq (rn_eql rfl (T.e 0 rfl) evc)) rfl (Zm 0 rfl rfl) rfl (fun _ T => Zw (Zwy rfl rfl (T.e 0 rfl) (Zdt hrE9)) (Zrm rfl (T.e 6 rfl))) rfl (fun _ T => Zw (Zwy rfl rfl (T.e 1 rfl) (Zdt hrE9)) (Zrl rfl Try.underlying28 (T.e 0 rfl))) rfl (fun _ T => Zw (Zwy rfl rfl (T.e 2 rfl) (Zdt hrE9)) (rn_eql rfl (T.e 0 rfl) evc)) rfl (fun _ T => Zq (Zr1 rfl (T.e 3 rfl) (Zdt hrE9) (T.e 0 rfl))) rfl (Zm 0 rfl rfl) rfl ?_; clear T ac; intro ac T
 refine wpList_nil ?_
 refine pqR_n M ?_; clear M; intro wc M
 replace SAu3 := SAu3.pt
 replace SGu2 := SGu2.pt
 replace SI := SI.pt
 replace SPu3 := SPu3.pt
 replace Swu4 := Swu4.pt
 refine rB_call hP (m := 2) (first := []) (cap := []) T rfl rfl rfl rfl rfl evf .nil Try.func16 rfl rfl (airy_any hP _) ?_ (Zwy rfl rfl (T.e 0 rfl) (Zdt (by omega)))
 clear T
 rintro e wc ⟨rfl, hb⟩
 refine ⟨_, rfl, ?_⟩
 intro ac T
 replace M := M.call hb; clear hb
 refine rB_moreN hP w 2 0 rfl (by decide) fun T9 => ?_
 replace M := M.tp T9 0 0
 replace SAu3 := SAu3.tp T9 0
 replace SGu2 := SGu2.tp T9 0
 replace SI := SI.tp T9 0
 replace SPu3 := SPu3.tp T9 0
 replace Swu4 := Swu4.tp T9 0
 refine Zg2 T (Zq (Zr1 rfl (T.e 1 rfl) (Zdt (by omega)) (T.e 0 rfl))) rfl (Za 0 rfl rfl) rfl ?_; clear T ac; intro ac T
 refine wpList_nil ?_
 refine pqR_n M ?_; clear M; intro wc M
 replace SAu3 := SAu3.pt
 replace SGu2 := SGu2.pt
 replace SI := SI.pt
 replace SPu3 := SPu3.pt
 replace Swu4 := Swu4.pt
 refine rB_nil hP ?_
 replace T := T.pick [0] rfl
 replace M := M.mask [false] rfl
 replace M : Mem w noEx wc ((Ibu2 ++ Ipu3 ++ Iwu4)) := M
 refine nm_then ?_
 refine wpB_ret hP ?_
 refine rt_1 T rfl (T.e 0 rfl) ?_
 exact ⟨rfl, M.below⟩
end
end Go.Proofs.Ytoheddpnnjldgaa


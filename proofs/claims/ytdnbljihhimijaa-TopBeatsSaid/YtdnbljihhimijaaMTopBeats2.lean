/-
  Walks of functions, and plain laws (texts put together). No condition.
-/
import Derived.Test.YtdnbljihhimijaaMTopBeats1
set_option maxRecDepth 100000
set_option maxHeartbeats 1000000
set_option linter.unusedSimpArgs false
set_option linter.unusedVariables false
namespace Go.Proofs.Ytdnbljihhimijaa
open Go.RowKit
structure Lw where
 first : Int
 step : Int
 span : Int
 press : Int
structure Snd where
 t0 : Int
 t1 : Int
 s0 : Int
 s1 : Int
def sndC (x : Snd) : List Value := [.int .i64 x.t0, .int .i64 x.t1, .int .i64 x.s0, .int .i64 x.s1]
def sc (l : List Snd) : List Value := l.flatMap sndC
theorem sc_length (l : List Snd) : (sc l).length = l.length * 4 := by
 induction l with
 | nil => rfl
 | cons x l ih =>
  show (sndC x ++ sc l).length = _
  rw [List.length_append, ih, List.length_cons]
  show 4 + _ = _
  omega
theorem sc_get : ∀ (l : List Snd) (k : Nat) {x : Snd}, l[k]? = some x → ∀ (i : Nat) (v : Value), (sndC x)[i]? = some v → (sc l)[k * 4 + i]? = some v
 | [], k, x, h => by simp at h
 | y :: l, 0, x, h => by
  intro i v hv
  simp only [List.getElem?_cons_zero, Option.some.injEq] at h
  subst h
  show (sndC y ++ sc l)[0 * 4 + i]? = some v
  rw [Nat.zero_mul, Nat.zero_add, List.getElem?_append_left (List.getElem?_eq_some_iff.1 hv).1]
  exact hv
 | y :: l, k + 1, x, h => by
  intro i v hv
  have := sc_get l k (by simpa using h) i v hv
  show (sndC y ++ sc l)[(k + 1) * 4 + i]? = some v
  have e : (sndC y).length = 4 := rfl
  rw [List.getElem?_append_right (by rw [e]; omega), e, show (k + 1) * 4 + i - 4 = k * 4 + i by omega]
  exact this
theorem sc_snoc (l : List Snd) (x : Snd) : sc l ++ [.int .i64 x.t0, .int .i64 x.t1, .int .i64 x.s0, .int .i64 x.s1] = sc (l ++ [x]) := by simp [sc, sndC]
theorem sc_next {l : List Snd} {k : Nat} (h : k < l.length) : ∃ x, l[k]? = some x ∧ l.drop k = x :: l.drop (k + 1) := ⟨l[k], List.getElem?_eq_getElem h, List.drop_eq_getElem_cons h⟩
theorem Rd.len4 {w : World} {B n : Nat} {A : Option Addr} {l : List Snd} (h : Rd w B 4 A n (sc l)) : l.length = n := by
 have h1 := h.1
 rw [sc_length] at h1
 omega
section
variable {w w' : World} {ex : Nat → Prop} {I L : List (Nat × BA)} {n b o k : Nat} {A : Option Addr} {l : List Snd} {x : Snd}
theorem Sp.scA (S : Sp w ex I A n 4 b o (sc l)) (M : Mem w ex w' L) (hI : I.Sublist L) (h : l[k]? = some x) (f : Nat) (v : Value) (hv : (sndC x)[f]? = some v) : w'.cell? ⟨b, o + k * 4 + f, none⟩ = some v := by
 have := S.cell w' L M hI _ _ (sc_get l k h f v hv)
 rwa [← Nat.add_assoc] at this
theorem Sp.scR4 (S : Sp w ex I A n 4 b o (sc l)) (M : Mem w ex w' L) (hI : I.Sublist L) (h : l[k]? = some x) : w'.rangeAt b (o + k * 4) [.int .i64 x.t0, .int .i64 x.t1, .int .i64 x.s0, .int .i64 x.s1] := fun j v hv => S.scA M hI h j v hv
theorem Sp.scR02 (S : Sp w ex I A n 4 b o (sc l)) (M : Mem w ex w' L) (hI : I.Sublist L) (h : l[k]? = some x) : w'.rangeAt b (o + k * 4 + 0) [.int .i64 x.t0, .int .i64 x.t1] := fun j v hv => by
 match j, hv with
 | 0, hv => exact S.scA M hI h 0 v hv
 | 1, hv => exact S.scA M hI h 1 v hv
theorem rn_index {P : Program} {op : Oper} {a : Act} {s : TypeId} {x y : Operand} {u i v : Value} (ho : op.op = .index s x y) (hx : a.eval x = u) (hy : a.eval y = i) (hr : ∀ w : World, (Instr.index s u i).run P w = .ok v w) : Runs P op a v w := by
 unfold Runs execOp
 simp only [ho, hx, hy, hr, Sem.run_bind, Result.andThen_ok, Sem.run_pure]
end
theorem mulB {a b : Int} (h : -1000 ≤ a ∧ a ≤ 1000) (k : -1000 ≤ b ∧ b ≤ 1000) : -1000000 ≤ a * b ∧ a * b ≤ 1000000 := by
 have h1 : a.natAbs ≤ 1000 := by omega
 have h2 : b.natAbs ≤ 1000 := by omega
 have h3 : (a * b).natAbs ≤ 1000000 := by rw [Int.natAbs_mul]; exact Nat.mul_le_mul h1 h2
 omega
def lawE (l : Lw) : Int := if (withinB l.first 0 30 && withinB l.step (-5) 5 && withinB l.span 0 20 && withinB l.press 0 3) = true then 0 else 1
def sndE (x : Snd) : Int := if chkR x.t0 x.t1 (-30) 30 = 0 then chkR x.s0 x.s1 (-3) 3 else chkR x.t0 x.t1 (-30) 30
def sndsL : List Snd → Int
 | [] => 0
 | x :: l => if sndE x = 0 then sndsL l else sndE x
def sndsE (l : List Snd) (most : Int) : Int := if most < l.length then 6 else sndsL l
structure Snd.good (x : Snd) : Prop where
 t : -30 ≤ x.t0 ∧ x.t0 ≤ x.t1 ∧ x.t1 ≤ 30
 s : -3 ≤ x.s0 ∧ x.s0 ≤ x.s1 ∧ x.s1 ≤ 3
structure Lw.good (l : Lw) : Prop where
 first : 0 ≤ l.first ∧ l.first ≤ 30
 step : -5 ≤ l.step ∧ l.step ≤ 5
 span : 0 ≤ l.span ∧ l.span ≤ 20
 press : 0 ≤ l.press ∧ l.press ≤ 3
theorem lawE_good {l : Lw} (h : lawE l = 0) : l.good := by
 unfold lawE at h
 split at h
 ·rename_i h1
  simp only [Bool.and_eq_true, withinB, decide_eq_true_eq] at h1
  exact ⟨by omega, by omega, by omega, by omega⟩
 ·omega
theorem good_lawE {l : Lw} (h : l.good) : lawE l = 0 := by
 obtain ⟨h1, h2, h3, h4⟩ := h
 unfold lawE
 rw [if_pos]
 simp only [Bool.and_eq_true, withinB, decide_eq_true_eq]
 omega
theorem chkR_good {a b lo hi : Int} : chkR a b lo hi = 0 ↔ (lo ≤ a ∧ a ≤ hi) ∧ (lo ≤ b ∧ b ≤ hi) ∧ a ≤ b := by
 unfold chkR
 simp only [withinB, decide_eq_true_eq]
 split
 · split <;> constructor <;> intro h <;> omega
 · constructor <;> intro h <;> omega
theorem sndE_good {x : Snd} : sndE x = 0 ↔ x.good := by
 unfold sndE
 constructor
 ·intro h
  split at h
  ·rename_i h1
   have h2 := chkR_good.1 h1
   have h3 := chkR_good.1 h
   exact ⟨by omega, by omega⟩
  ·contradiction
 ·rintro ⟨h1, h2⟩
  rw [if_pos (chkR_good.2 (by omega))]
  exact chkR_good.2 (by omega)
theorem sndsL_good : ∀ {l : List Snd}, sndsL l = 0 ↔ ∀ x ∈ l, x.good
 | [] => by simp [sndsL]
 | x :: l => by
  have ih := sndsL_good (l := l)
  unfold sndsL
  split
  ·rename_i h
   rw [ih]
   simp [sndE_good.1 h]
  ·rename_i h
   constructor
   ·intro h2; exact absurd h2 h
   ·intro h2; exact absurd (sndE_good.2 (h2 x Zz2)) h
theorem sndsE_good {l : List Snd} {most : Int} (h : sndsE l most = 0) : (l.length : Int) ≤ most ∧ ∀ x ∈ l, x.good := by
 unfold sndsE at h
 split at h
 · omega
 · exact ⟨by omega, sndsL_good.1 h⟩
theorem good_sndsE {l : List Snd} {most : Int} (h : (l.length : Int) ≤ most) (h2 : ∀ x ∈ l, x.good) : sndsE l most = 0 := by
 unfold sndsE
 rw [if_neg (by omega)]
 exact sndsL_good.2 h2
def riseP (lo hi : Snd) (p : Int) : Int × Int := (p * hi.s0 - (lo.t1 + p * lo.s1), p * hi.s1 - (lo.t0 + p * lo.s0))
def beatP (lo hi : Snd) (p : Int) : Int × Int := (hi.t0 + (riseP lo hi p).1, hi.t1 + (riseP lo hi p).2)
def beatsL (l : Lw) (lo hi : Snd) : List (Int × Int) := (List.range (l.press + 1).toNat).map fun (p : Nat) => beatP lo hi (p : Int)
theorem beatP_bd {lo hi : Snd} (hl : lo.good) (hh : hi.good) {p : Int} (hp : 0 ≤ p ∧ p ≤ 3) : (-1000 ≤ (beatP lo hi p).1 ∧ (beatP lo hi p).1 ≤ 1000) ∧ (-1000 ≤ (beatP lo hi p).2 ∧ (beatP lo hi p).2 ≤ 1000) := by
 obtain ⟨a1, a2⟩ := hl
 obtain ⟨b1, b2⟩ := hh
 unfold beatP riseP
 have hp' : p = 0 ∨ p = 1 ∨ p = 2 ∨ p = 3 := by omega
 rcases hp' with rfl | rfl | rfl | rfl <;> dsimp only <;> omega
theorem beatsL_length (l : Lw) (lo hi : Snd) : (beatsL l lo hi).length = (l.press + 1).toNat := by simp [beatsL]
theorem beatsL_take {l : Lw} {lo hi : Snd} {k : Nat} (h : (k : Int) ≤ l.press) : (beatsL l lo hi).take (k + 1) = (beatsL l lo hi).take k ++ [beatP lo hi k] := by
 rw [List.take_succ_eq_append_getElem (by rw [beatsL_length]; omega)]
 simp [beatsL]
def BeatsPost (l : Lw) (lo hi : Snd) (w : World) (e : Ending) (w' : World) : Prop :=
 ∃ (A : Option Addr) (c : Nat) (I : List (Nat × BA)), e = .returned (.slice A (beatsL l lo hi).length c) ∧ Sl 29 2 (.slice A (beatsL l lo hi).length c) (beatsL l lo hi).length (rc (beatsL l lo hi)) I ∧ Mem w noEx w' I
theorem vwithin_any (n lo hi : Int) (w : World)  :
   Calls Try.prog 30 #[.int .i64 n, .int .i64 lo, .int .i64 hi] w fun e w' => e = .returned (.bool (withinB n lo hi)) ∧ Below w.heap.size w w' := by
 refine Zpx noEx Try.func30 rfl 15 rfl [.int .i64 n, .int .i64 lo, .int .i64 hi] rfl rfl (Mem.init w _) ?_
 intro ac wc T M
 refine Zsr ?_
 refine lq T (Zra rfl evc) ?_; clear T ac; intro ac T
 replace T := T.pick [1, 2, 3] rfl
 refine Zln ?_
 refine cut_seq (fun ac wc => Tm ac 15 [(6, .bool ((decide (lo ≤ n)) && (decide (n ≤ hi))))] ∧ Mem w noEx wc []) ?_ ?_
 ·refine wp_region_lit ?_
  refine Zg4 T (Zq (Zrm rfl (T.e 1 rfl))) rfl (Zm 1 rfl rfl) rfl (fun _ T => Zq (rn_leq rfl (T.e 1 rfl) (T.e 0 rfl))) rfl (Zm 0 rfl rfl) rfl ?_; clear T ac; intro ac T
  rcases Bool.eq_false_or_eq_true (decide (lo ≤ n)) with h1 | h1
  ·replace h1 := of_decide_eq_true h1
   refine Zg5 T (Zw (Zwy rfl rfl (T.e 0 rfl) (Zdt h1)) (Zrm rfl (T.e 4 rfl))) rfl (fun _ T => Zw (Zwy rfl rfl (T.e 1 rfl) (Zdt h1)) (Zrm rfl (T.e 7 rfl))) rfl (fun _ T => Zw (Zwy rfl rfl (T.e 2 rfl) (Zdt h1)) (rn_leq rfl (T.e 1 rfl) (T.e 0 rfl))) rfl (fun _ T => Zq (Zr1 rfl (T.e 3 rfl) (Zdt h1) (T.e 0 rfl))) rfl (Za 0 rfl rfl) rfl ?_; clear T ac; intro ac T
   refine wpList_nil ?_
   replace T := T.pick [0] rfl
   exact ⟨(T.pick (E' := [(6, .bool (decide (n ≤ hi)))]) [0] rfl).as (by (try rw [show (decide (lo ≤ n)) = true from (Zdt h1)]); (try rfl)), M.mask [] rfl⟩
  replace h1 := of_decide_eq_false h1
  refine Zg5 T (Zp (Zwn rfl rfl (T.e 0 rfl) (Zdf h1))) rfl (fun _ T => Zp (Zwn rfl rfl (T.e 1 rfl) (Zdf h1))) rfl (fun _ T => Zp (Zwn rfl rfl (T.e 2 rfl) (Zdf h1))) rfl (fun _ T => Zq (Zr0 rfl (T.e 3 rfl) (Zdf h1) evc)) rfl (Za 0 rfl rfl) rfl ?_; clear T ac; intro ac T
  refine wpList_nil ?_
  replace T := T.pick [0] rfl
  exact ⟨(T.pick (E' := [(6, .bool false)]) [0] rfl).as (by (try rw [show (decide (lo ≤ n)) = false from (Zdf h1)]); (try rfl)), M.mask [] rfl⟩
 clear T M
 rintro ac wc ⟨T, M⟩
 refine wp_ret ?_
 refine rt_1 T rfl (T.e 0 rfl) ?_
 exact ⟨ret_bool (by unfold withinB; simp), M.below⟩
theorem checkLaw_any (l : Lw) (w : World)  :
   Calls Try.prog 35 #[.agg #[.int .i64 l.first, .int .i64 l.step, .int .i64 l.span, .int .i64 l.press]] w fun e w' => e = .returned (.int .i64 (lawE l)) ∧ Below w.heap.size w w' := by
 refine Zpx noEx Try.func35 rfl 25 rfl [.agg #[.int .i64 l.first, .int .i64 l.step, .int .i64 l.span, .int .i64 l.press]] rfl rfl (Mem.init w _) ?_
 intro ac wc T M
 refine Zsr ?_
 refine Zl2 ?_
 refine Zob M T rfl rfl rfl rfl (T.e 0 rfl) rfl ?_; clear M T; intro g1 wc ac M T
 refine lq T (Zra rfl evc) ?_; clear T ac; intro ac T
 replace T := T.pick [1] rfl
 refine Zln ?_
 refine wp_seq ?_
 refine cut_seq (fun ac wc => Tm ac 25 [(24, .bool ((!(withinB l.first 0 30)) || ((!(withinB l.step (-5) 5)) || ((!(withinB l.span 0 20)) || (!(withinB l.press 0 3))))))] ∧ Mem w noEx wc []) ?_ ?_
 ·refine wp_region_lit ?_
  refine Zg2 (v1 := (.pointer (some ⟨g1, 0, none⟩))) T (Zq (Zrf (off := 0) rfl (T.e 0 rfl) (fun _ _ _ => by kernel_rfl))) rfl (Zo M 0 0 rfl rfl rfl rfl) rfl ?_; clear T ac; intro ac T
  refine Zl2 ?_
  refine Zoc (first := []) (cap := []) T rfl rfl rfl rfl evf (.cons (T.e 0 rfl) (.cons evc (.cons evc .nil))) Try.func30 rfl rfl ?_
  refine Calls.mono (vwithin_any l.first 0 30 _) ?_
  clear T; rintro e wc ⟨rfl, hb⟩ ac T
  replace M := M.call hb; clear hb
  refine Zg2 T (Zq (rn_not rfl (T.e 0 rfl))) rfl (Zm 0 rfl rfl) rfl ?_; clear T ac; intro ac T
  rcases Bool.eq_false_or_eq_true (!(withinB l.first 0 30)) with h1 | h1
  ·refine Zg8 T (Zp (Zwn rfl rfl (T.e 0 rfl) h1)) rfl (fun _ T => Zp (Zwn rfl rfl (T.e 1 rfl) h1)) rfl (fun _ T => Zp (Zwn rfl rfl (T.e 2 rfl) h1)) rfl (fun _ T => Zp (Zwn rfl rfl (T.e 3 rfl) h1)) rfl (fun _ T => Zq (Zr1 rfl (T.e 4 rfl) h1 evc)) rfl (Zm 0 rfl rfl) rfl (fun _ T => Zp (Zwn rfl rfl (T.e 0 rfl) rfl)) rfl (fun _ T => Zp (Zwn rfl rfl (T.e 1 rfl) rfl)) rfl ?_; clear T ac; intro ac T
   refine Zg8 T (Zp (Zwn rfl rfl (T.e 2 rfl) rfl)) rfl (fun _ T => Zp (Zwn rfl rfl (T.e 3 rfl) rfl)) rfl (fun _ T => Zq (Zr1 rfl (T.e 4 rfl) rfl evc)) rfl (Zm 0 rfl rfl) rfl (fun _ T => Zp (Zwn rfl rfl (T.e 0 rfl) rfl)) rfl (fun _ T => Zp (Zwn rfl rfl (T.e 1 rfl) rfl)) rfl (fun _ T => Zp (Zwn rfl rfl (T.e 2 rfl) rfl)) rfl (fun _ T => Zp (Zwn rfl rfl (T.e 3 rfl) rfl)) rfl ?_; clear T ac; intro ac T
   refine lq T (Zr1 rfl (T.e 4 rfl) rfl evc) ?_; clear T ac; intro ac T
   refine wpList_nil ?_
   replace T := T.pick [0] rfl
   replace M := M.mask [false] rfl
   exact ⟨(T.pick (E' := [(24, .bool true)]) [0] rfl).as (by (try rw [show (!(withinB l.first 0 30)) = true from h1]); (try rfl)), M.mask [] rfl⟩
  refine Zg2 (v1 := (.pointer (some ⟨g1, 1, none⟩))) T (Zw (Zwy rfl rfl (T.e 0 rfl) h1) (Zrf (off := 1) rfl (T.e 5 rfl) (fun _ _ _ => by kernel_rfl))) rfl (fun _ T => Zw (Zwy rfl rfl (T.e 1 rfl) h1) (Zro (Mem.nth M 0 rfl) rfl (T.e 0 rfl) rfl)) rfl ?_; clear T ac; intro ac T
  refine l_w (Zwy rfl rfl (T.e 2 rfl) h1) ?_; intro K hK
  refine Zoc (first := []) (cap := []) T rfl rfl rfl rfl evf (.cons (T.e 0 rfl) (.cons evc (.cons evc .nil))) Try.func30 rfl rfl ?_
  refine Calls.mono (vwithin_any l.step (-5) 5 _) ?_
  clear T; rintro e wc ⟨rfl, hb⟩ ac T
  replace M := M.call hb; clear hb
  refine Zso hK _ _ ?_; clear hK K
  refine Zg3 T (Zw (Zwy rfl rfl (T.e 3 rfl) h1) (rn_not rfl (T.e 0 rfl))) rfl (fun _ T => Zq (Zr0 rfl (T.e 4 rfl) h1 (T.e 0 rfl))) rfl (Zm 0 rfl rfl) rfl ?_; clear T ac; intro ac T
  rcases Bool.eq_false_or_eq_true (!(withinB l.step (-5) 5)) with h2 | h2
  ·refine Zg8 T (Zp (Zwn rfl rfl (T.e 0 rfl) h2)) rfl (fun _ T => Zp (Zwn rfl rfl (T.e 1 rfl) h2)) rfl (fun _ T => Zp (Zwn rfl rfl (T.e 2 rfl) h2)) rfl (fun _ T => Zp (Zwn rfl rfl (T.e 3 rfl) h2)) rfl (fun _ T => Zq (Zr1 rfl (T.e 4 rfl) h2 evc)) rfl (Zm 0 rfl rfl) rfl (fun _ T => Zp (Zwn rfl rfl (T.e 0 rfl) rfl)) rfl (fun _ T => Zp (Zwn rfl rfl (T.e 1 rfl) rfl)) rfl ?_; clear T ac; intro ac T
   refine Zg3 T (Zp (Zwn rfl rfl (T.e 2 rfl) rfl)) rfl (fun _ T => Zp (Zwn rfl rfl (T.e 3 rfl) rfl)) rfl (fun _ T => Zq (Zr1 rfl (T.e 4 rfl) rfl evc)) rfl ?_; clear T ac; intro ac T
   refine wpList_nil ?_
   replace T := T.pick [0] rfl
   replace M := M.mask [false] rfl
   exact ⟨(T.pick (E' := [(24, .bool true)]) [0] rfl).as (by (try rw [show (!(withinB l.first 0 30)) = false from h1]); (try rw [show (!(withinB l.step (-5) 5)) = true from h2]); (try rfl)), M.mask [] rfl⟩
  refine Zg2 (v1 := (.pointer (some ⟨g1, 2, none⟩))) T (Zw (Zwy rfl rfl (T.e 0 rfl) h2) (Zrf (off := 2) rfl (T.e 11 rfl) (fun _ _ _ => by kernel_rfl))) rfl (fun _ T => Zw (Zwy rfl rfl (T.e 1 rfl) h2) (Zro (Mem.nth M 0 rfl) rfl (T.e 0 rfl) rfl)) rfl ?_; clear T ac; intro ac T
  refine l_w (Zwy rfl rfl (T.e 2 rfl) h2) ?_; intro K hK
  refine Zoc (first := []) (cap := []) T rfl rfl rfl rfl evf (.cons (T.e 0 rfl) (.cons evc (.cons evc .nil))) Try.func30 rfl rfl ?_
  refine Calls.mono (vwithin_any l.span 0 20 _) ?_
  clear T; rintro e wc ⟨rfl, hb⟩ ac T
  replace M := M.call hb; clear hb
  refine Zso hK _ _ ?_; clear hK K
  refine Zg3 T (Zw (Zwy rfl rfl (T.e 3 rfl) h2) (rn_not rfl (T.e 0 rfl))) rfl (fun _ T => Zq (Zr0 rfl (T.e 4 rfl) h2 (T.e 0 rfl))) rfl (Zm 0 rfl rfl) rfl ?_; clear T ac; intro ac T
  rcases Bool.eq_false_or_eq_true (!(withinB l.span 0 20)) with h3 | h3
  ·refine Zg5 T (Zp (Zwn rfl rfl (T.e 0 rfl) h3)) rfl (fun _ T => Zp (Zwn rfl rfl (T.e 1 rfl) h3)) rfl (fun _ T => Zp (Zwn rfl rfl (T.e 2 rfl) h3)) rfl (fun _ T => Zp (Zwn rfl rfl (T.e 3 rfl) h3)) rfl (fun _ T => Zq (Zr1 rfl (T.e 4 rfl) h3 evc)) rfl ?_; clear T ac; intro ac T
   refine wpList_nil ?_
   replace T := T.pick [0] rfl
   replace M := M.mask [false] rfl
   exact ⟨(T.pick (E' := [(24, .bool true)]) [0] rfl).as (by (try rw [show (!(withinB l.first 0 30)) = false from h1]); (try rw [show (!(withinB l.step (-5) 5)) = false from h2]); (try rw [show (!(withinB l.span 0 20)) = true from h3]); (try rfl)), M.mask [] rfl⟩
  refine Zg2 (v1 := (.pointer (some ⟨g1, 3, none⟩))) T (Zw (Zwy rfl rfl (T.e 0 rfl) h3) (Zrf (off := 3) rfl (T.e 17 rfl) (fun _ _ _ => by kernel_rfl))) rfl (fun _ T => Zw (Zwy rfl rfl (T.e 1 rfl) h3) (Zro (Mem.nth M 0 rfl) rfl (T.e 0 rfl) rfl)) rfl ?_; clear T ac; intro ac T
  refine l_w (Zwy rfl rfl (T.e 2 rfl) h3) ?_; intro K hK
  refine Zoc (first := []) (cap := []) T rfl rfl rfl rfl evf (.cons (T.e 0 rfl) (.cons evc (.cons evc .nil))) Try.func30 rfl rfl ?_
  refine Calls.mono (vwithin_any l.press 0 3 _) ?_
  clear T; rintro e wc ⟨rfl, hb⟩ ac T
  replace M := M.call hb; clear hb
  refine Zso hK _ _ ?_; clear hK K
  refine Zg2 T (Zw (Zwy rfl rfl (T.e 3 rfl) h3) (rn_not rfl (T.e 0 rfl))) rfl (fun _ T => Zq (Zr0 rfl (T.e 4 rfl) h3 (T.e 0 rfl))) rfl ?_; clear T ac; intro ac T
  refine wpList_nil ?_
  replace T := T.pick [0] rfl
  replace M := M.mask [false] rfl
  exact ⟨(T.pick (E' := [(24, .bool (!(withinB l.press 0 3)))]) [0] rfl).as (by (try rw [show (!(withinB l.first 0 30)) = false from h1]); (try rw [show (!(withinB l.step (-5) 5)) = false from h2]); (try rw [show (!(withinB l.span 0 20)) = false from h3]); (try rfl)), M.mask [] rfl⟩
 clear T M
 rintro ac wc ⟨T, M⟩
 refine wp_cond_split (T.e 0 rfl) ?_ ?_
 ·intro h4
  (have h4' := h4; try simp only [Zb1, Zb2, Zb3, Zb4, Zb5, Zb6, Zb7] at h4')
  refine Zsr ?_
  refine lq T (Zra rfl evc) ?_; clear T ac; intro ac T
  replace T := T.pick [0] rfl
  refine Zln ?_
  refine wp_ret ?_
  refine Zrt ?_
  refine rt_1 T rfl (T.e 0 rfl) ?_
  refine ⟨ret_int ?_, M.below⟩
  unfold lawE
  rcases Bool.eq_false_or_eq_true (withinB l.first 0 30) with a1 | a1 <;> rcases Bool.eq_false_or_eq_true (withinB l.step (-5) 5) with a2 | a2 <;> rcases Bool.eq_false_or_eq_true (withinB l.span 0 20) with a3 | a3 <;> rcases Bool.eq_false_or_eq_true (withinB l.press 0 3) with a4 | a4 <;> simp_all
 intro h4
 (have h4' := h4; try simp only [Zb1, Zb2, Zb3, Zb4, Zb5, Zb6, Zb7] at h4')
 refine Zsk ?_
 refine Zsr ?_
 refine lq T (Zra rfl evc) ?_; clear T ac; intro ac T
 replace T := T.pick [0] rfl
 refine Zln ?_
 refine wp_ret ?_
 refine rt_1 T rfl (T.e 0 rfl) ?_
 refine ⟨ret_int ?_, M.below⟩
 unfold lawE
 rcases Bool.eq_false_or_eq_true (withinB l.first 0 30) with a1 | a1 <;> rcases Bool.eq_false_or_eq_true (withinB l.step (-5) 5) with a2 | a2 <;> rcases Bool.eq_false_or_eq_true (withinB l.span 0 20) with a3 | a3 <;> rcases Bool.eq_false_or_eq_true (withinB l.press 0 3) with a4 | a4 <;> simp_all
theorem checkSound_any (x : Snd) (w : World)  :
   Calls Try.prog 45 #[.agg #[.int .i64 x.t0, .int .i64 x.t1, .int .i64 x.s0, .int .i64 x.s1]] w fun e w' => e = .returned (.int .i64 (sndE x)) ∧ Below w.heap.size w w' := by
 refine Zpx noEx Try.func45 rfl 41 rfl [.agg #[.int .i64 x.t0, .int .i64 x.t1, .int .i64 x.s0, .int .i64 x.s1]] rfl rfl (Mem.init w _) ?_
 intro ac wc T M
 refine Zsr ?_
 refine Zl2 ?_
 refine Zob M T rfl rfl rfl rfl (T.e 0 rfl) rfl ?_; clear M T; intro g1 wc ac M T
 refine lq T (Zra rfl evc) ?_; clear T ac; intro ac T
 replace T := T.pick [1] rfl
 refine Zln ?_
 refine wp_seq ?_
 refine Zsr ?_
 refine Zg6 (v1 := (.pointer (some ⟨g1, 0, none⟩))) (v3 := (.pointer (some ⟨g1, 2, none⟩))) (v5 := (.agg #[.int .i64 x.t0, .int .i64 x.t1, .int .i64 x.s0, .int .i64 x.s1])) T (Zq (Zrf (off := 0) rfl (T.e 0 rfl) (fun _ _ _ => by kernel_rfl))) rfl (Zr M 0 0 rfl rfl rfl rfl) rfl (Zf 2 2 rfl rfl) rfl (Zr M 0 0 rfl rfl rfl rfl) rfl (fun _ T => Zq (rn_build rfl (.cons (T.e 2 rfl) (.cons (T.e 0 rfl) .nil)) (fun _ => by kernel_rfl))) rfl (fun _ T => Zq (Zrm rfl evc)) rfl ?_; clear T ac; intro ac T
 refine wpList_nil ?_
 replace T := T.pick [0, 1] rfl
 replace M := M.mask [false] rfl
 refine nm_then ?_
 refine wp_block ?_
 refine wp_loop_rounds 4 ?_
 refine rounds_S ?_
 refine Zsr ?_
 refine lq (v := (.bool true)) T (Zrq (rn_lss rfl (T.e 0 rfl) evc) (by simp)) ?_; clear T ac; intro ac T
 refine Zln ?_
 refine wp_seq ?_
 refine wp_cond_true (T.e 0 rfl) ?_
 refine Zsk ?_
 refine wp_seq ?_
 refine wp_block ?_
 refine Zsr ?_
 refine Zg2 (v2 := (.agg #[.int .i64 x.t0, .int .i64 x.t1])) T (Zq (Zrm rfl (T.e 1 rfl))) rfl (fun _ T => Zq (rn_index rfl (T.e 3 rfl) (T.e 2 rfl) (fun _ => by kernel_rfl))) rfl ?_; clear T ac; intro ac T
 refine Zl2 ?_
 refine Zoa M T rfl rfl rfl rfl ?_; clear M T; intro g2 wc ac M T
 refine lq T (Zra rfl (T.e 2 rfl)) ?_; clear T ac; intro ac T
 refine Zl2 ?_
 refine Zos M T rfl rfl (T.e 1 rfl) (T.e 2 rfl) rfl .head rfl (by simp) rfl (by kernel_rfl) ?_; clear M T; intro wc ac M T
 replace T := T.pick [0, 1, 5, 6] rfl
 refine Zln ?_
 refine Zsr ?_
 refine lq T (Zra rfl evc) ?_; clear T ac; intro ac T
 refine Zln ?_
 refine wp_seq ?_
 refine Zsr ?_
 refine Zg2 (v2 := (.bool false)) T (Zq (Zrm rfl (T.e 1 rfl))) rfl (fun _ T => Zq (Zrq (rn_eql rfl (T.e 0 rfl) evc) (by simp))) rfl ?_; clear T ac; intro ac T
 replace T := T.pick [0, 2, 4, 5, 6] rfl
 refine Zln ?_
 refine wp_cond_false (T.e 0 rfl) ?_
 refine Zsk ?_
 refine wp_block ?_
 refine cut_seq (fun ac wc => Tm ac 41 [(4, .pointer (some ⟨g2, 0, none⟩)), (10, .agg #[.int .i64 x.t0, .int .i64 x.t1, .int .i64 x.s0, .int .i64 x.s1]), (11, .int .i64 0), (17, .bool ((!(withinB x.t0 (-30) 30)) || (!(withinB x.t1 (-30) 30))))] ∧ Mem w noEx wc [(g2, .cells [.int .i64 x.t0, .int .i64 x.t1])]) ?_ ?_
 ·refine wp_region_lit ?_
  refine Zg5 (v1 := (.pointer (some ⟨g2, 0, none⟩))) T (Zq (Zrf (off := 0) rfl (T.e 2 rfl) (fun _ _ _ => by kernel_rfl))) rfl (Zo M 0 0 rfl rfl rfl rfl) rfl (Zm 3 rfl rfl) rfl (fun _ T => Zq (rn_neg rfl (T.e 0 rfl) (by omega))) rfl (Zm 5 rfl rfl) rfl ?_; clear T ac; intro ac T
  refine Zl2 ?_
  refine Zoc (first := []) (cap := []) T rfl rfl rfl rfl evf (.cons (T.e 3 rfl) (.cons (T.e 1 rfl) (.cons (T.e 0 rfl) .nil))) Try.func30 rfl rfl ?_
  refine Calls.mono (vwithin_any x.t0 (-30) 30 _) ?_
  clear T; rintro e wc ⟨rfl, hb⟩ ac T
  replace M := M.call hb; clear hb
  refine Zg2 T (Zq (rn_not rfl (T.e 0 rfl))) rfl (Zm 0 rfl rfl) rfl ?_; clear T ac; intro ac T
  rcases Bool.eq_false_or_eq_true (!(withinB x.t0 (-30) 30)) with h1 | h1
  ·refine Zg8 T (Zp (Zwn rfl rfl (T.e 0 rfl) h1)) rfl (fun _ T => Zp (Zwn rfl rfl (T.e 1 rfl) h1)) rfl (fun _ T => Zp (Zwn rfl rfl (T.e 2 rfl) h1)) rfl (fun _ T => Zp (Zwn rfl rfl (T.e 3 rfl) h1)) rfl (fun _ T => Zp (Zwn rfl rfl (T.e 4 rfl) h1)) rfl (fun _ T => Zp (Zwn rfl rfl (T.e 5 rfl) h1)) rfl (fun _ T => Zp (Zwn rfl rfl (T.e 6 rfl) h1)) rfl (fun _ T => Zq (Zr1 rfl (T.e 7 rfl) h1 evc)) rfl ?_; clear T ac; intro ac T
   refine lq T (Zra rfl (T.e 0 rfl)) ?_; clear T ac; intro ac T
   refine wpList_nil ?_
   replace T := T.pick [0, 2, 3, 4, 5, 6, 7, 8, 19, 20, 21] rfl
   exact ⟨(T.pick (E' := [(4, .pointer (some ⟨g2, 0, none⟩)), (10, .agg #[.int .i64 x.t0, .int .i64 x.t1, .int .i64 x.s0, .int .i64 x.s1]), (11, .int .i64 0), (17, .bool true)]) [8, 10, 9, 0] rfl).as (by (try rw [show (!(withinB x.t0 (-30) 30)) = true from h1]); (try rfl)), M.mask [true] rfl⟩
  refine Zg5 (v1 := (.pointer (some ⟨g2, 1, none⟩))) T (Zw (Zwy rfl rfl (T.e 0 rfl) h1) (Zrf (off := 1) rfl (T.e 10 rfl) (fun _ _ _ => by kernel_rfl))) rfl (fun _ T => Zw (Zwy rfl rfl (T.e 1 rfl) h1) (Zro (Mem.nth M 0 rfl) rfl (T.e 0 rfl) rfl)) rfl (fun _ T => Zw (Zwy rfl rfl (T.e 2 rfl) h1) (Zrm rfl (T.e 11 rfl))) rfl (fun _ T => Zw (Zwy rfl rfl (T.e 3 rfl) h1) (rn_neg rfl (T.e 0 rfl) (by omega))) rfl (fun _ T => Zw (Zwy rfl rfl (T.e 4 rfl) h1) (Zrm rfl (T.e 13 rfl))) rfl ?_; clear T ac; intro ac T
  refine l_w (Zwy rfl rfl (T.e 5 rfl) h1) ?_; intro K hK
  refine Zoc (first := []) (cap := []) T rfl rfl rfl rfl evf (.cons (T.e 3 rfl) (.cons (T.e 1 rfl) (.cons (T.e 0 rfl) .nil))) Try.func30 rfl rfl ?_
  refine Calls.mono (vwithin_any x.t1 (-30) 30 _) ?_
  clear T; rintro e wc ⟨rfl, hb⟩ ac T
  replace M := M.call hb; clear hb
  refine Zso hK _ _ ?_; clear hK K
  refine Zg3 T (Zw (Zwy rfl rfl (T.e 6 rfl) h1) (rn_not rfl (T.e 0 rfl))) rfl (fun _ T => Zq (Zr0 rfl (T.e 7 rfl) h1 (T.e 0 rfl))) rfl (Za 0 rfl rfl) rfl ?_; clear T ac; intro ac T
  refine wpList_nil ?_
  replace T := T.pick [0, 2, 3, 4, 5, 6, 7, 8, 19, 20, 21] rfl
  exact ⟨(T.pick (E' := [(4, .pointer (some ⟨g2, 0, none⟩)), (10, .agg #[.int .i64 x.t0, .int .i64 x.t1, .int .i64 x.s0, .int .i64 x.s1]), (11, .int .i64 0), (17, .bool (!(withinB x.t1 (-30) 30)))]) [8, 10, 9, 0] rfl).as (by (try rw [show (!(withinB x.t0 (-30) 30)) = false from h1]); (try rfl)), M.mask [true] rfl⟩
 clear T M
 rintro ac wc ⟨T, M⟩
 refine wp_cond_split (T.e 3 rfl) ?_ ?_
 ·intro h2
  (have h2' := h2; try simp only [Zb1, Zb2, Zb3, Zb4, Zb5, Zb6, Zb7] at h2')
  refine Zsr ?_
  refine lq T (Zra rfl evc) ?_; clear T ac; intro ac T
  refine wpList_nil ?_
  replace T := T.pick [0] rfl
  replace M := M.mask [false] rfl
  refine Znr ?_
  refine Zrb ?_
  refine Zrb ?_
  refine Zrt ?_
  refine Zrt ?_
  refine Zrb ?_
  refine Zrt ?_
  refine rt_1 T rfl (T.e 0 rfl) ?_
  refine ⟨ret_int ?_, M.below⟩
  unfold sndE chkR
  (repeat' split) <;> first | rfl | omega | contradiction | (simp_all; done) | (simp_all; omega)
 intro h2
 (have h2' := h2; try simp only [Zb1, Zb2, Zb3, Zb4, Zb5, Zb6, Zb7] at h2')
 refine Zsr ?_
 refine Zg6 (v1 := (.pointer (some ⟨g2, 0, none⟩))) (v3 := (.pointer (some ⟨g2, 1, none⟩))) T (Zq (Zrf (off := 0) rfl (T.e 0 rfl) (fun _ _ _ => by kernel_rfl))) rfl (Zo M 0 0 rfl rfl rfl rfl) rfl (Zf 1 2 rfl rfl) rfl (Zo M 0 0 rfl rfl rfl rfl) rfl (fun _ T => Zq (rn_gtr rfl (T.e 2 rfl) (T.e 0 rfl))) rfl (Za 0 rfl rfl) rfl ?_; clear T ac; intro ac T
 refine wpList_nil ?_
 replace T := T.pick [0, 7, 8] rfl
 replace M := M.mask [false] rfl
 refine nm_then ?_
 refine wp_if (T.e 0 rfl) ?_ ?_
 ·intro h3
  refine Zsr ?_
  refine lq T (Zra rfl evc) ?_; clear T ac; intro ac T
  replace T := T.pick [0] rfl
  refine Zln ?_
  refine wp_ret ?_
  refine Zrb ?_
  refine Zrb ?_
  refine Zrt ?_
  refine Zrt ?_
  refine Zrb ?_
  refine Zrt ?_
  refine rt_1 T rfl (T.e 0 rfl) ?_
  refine ⟨ret_int ?_, M.below⟩
  unfold sndE chkR
  (repeat' split) <;> first | rfl | omega | contradiction | (simp_all; done) | (simp_all; omega)
 intro h3
 refine wp_skip ?_
 refine Znb ?_
 refine Znb ?_
 refine nm_then ?_
 refine wp_region_lit ?_
 refine lq (v := (.int .i64 1)) T (rn_ofI (rn_add rfl (T.e 2 rfl) evc (by omega)) (by rfl)) ?_; clear T ac; intro ac T
 refine l_q (v := (.int .i64 1)) (T.pick [0, 1, 2] rfl) rfl rfl rfl rfl (Zrm rfl (T.e 0 rfl)) ?_; clear T ac; intro ac T
 replace T := T.pick [0, 3] rfl
 refine Zln ?_
 refine rounds_S ?_
 refine Zsr ?_
 refine lq (v := (.bool true)) T (Zrq (rn_lss rfl (T.e 0 rfl) evc) (by simp)) ?_; clear T ac; intro ac T
 refine Zln ?_
 refine wp_seq ?_
 refine wp_cond_true (T.e 0 rfl) ?_
 refine Zsk ?_
 refine wp_seq ?_
 refine wp_block ?_
 refine Zsr ?_
 refine Zg2 (v2 := (.agg #[.int .i64 x.s0, .int .i64 x.s1])) T (Zq (Zrm rfl (T.e 1 rfl))) rfl (fun _ T => Zq (rn_index rfl (T.e 3 rfl) (T.e 2 rfl) (fun _ => by kernel_rfl))) rfl ?_; clear T ac; intro ac T
 refine Zl2 ?_
 refine Zoa M T rfl rfl rfl rfl ?_; clear M T; intro g3 wc ac M T
 refine lq T (Zra rfl (T.e 2 rfl)) ?_; clear T ac; intro ac T
 refine Zl2 ?_
 refine Zos M T rfl rfl (T.e 1 rfl) (T.e 2 rfl) rfl .head rfl (by simp) rfl (by kernel_rfl) ?_; clear M T; intro wc ac M T
 replace T := T.pick [0, 1, 5, 6] rfl
 refine Zln ?_
 refine Zsr ?_
 refine lq T (Zra rfl evc) ?_; clear T ac; intro ac T
 refine Zln ?_
 refine wp_seq ?_
 refine Zsr ?_
 refine Zg2 (v2 := (.bool true)) T (Zq (Zrm rfl (T.e 1 rfl))) rfl (fun _ T => Zq (Zrq (rn_eql rfl (T.e 0 rfl) evc) (by simp))) rfl ?_; clear T ac; intro ac T
 replace T := T.pick [0, 2, 4, 5, 6] rfl
 refine Zln ?_
 refine wp_cond_true (T.e 0 rfl) ?_
 refine wp_region_lit ?_
 refine l_q (v := (.int .i64 3)) (T.pick [0, 2, 3, 4] rfl) rfl rfl rfl rfl (Zra rfl evc) ?_; clear T ac; intro ac T
 replace T := T.pick [0, 2, 3, 4] rfl
 refine Zln ?_
 refine wp_block ?_
 refine cut_seq (fun ac wc => Tm ac 41 [(4, .pointer (some ⟨g3, 0, none⟩)), (10, .agg #[.int .i64 x.t0, .int .i64 x.t1, .int .i64 x.s0, .int .i64 x.s1]), (11, .int .i64 1), (17, .bool ((!(withinB x.s0 (-3) 3)) || (!(withinB x.s1 (-3) 3))))] ∧ Mem w noEx wc [(g3, .cells [.int .i64 x.s0, .int .i64 x.s1])]) ?_ ?_
 ·refine wp_region_lit ?_
  refine Zg5 (v1 := (.pointer (some ⟨g3, 0, none⟩))) T (Zq (Zrf (off := 0) rfl (T.e 1 rfl) (fun _ _ _ => by kernel_rfl))) rfl (Zo M 0 0 rfl rfl rfl rfl) rfl (Zm 2 rfl rfl) rfl (fun _ T => Zq (rn_neg rfl (T.e 0 rfl) (by omega))) rfl (Zm 4 rfl rfl) rfl ?_; clear T ac; intro ac T
  refine Zl2 ?_
  refine Zoc (first := []) (cap := []) T rfl rfl rfl rfl evf (.cons (T.e 3 rfl) (.cons (T.e 1 rfl) (.cons (T.e 0 rfl) .nil))) Try.func30 rfl rfl ?_
  refine Calls.mono (vwithin_any x.s0 (-3) 3 _) ?_
  clear T; rintro e wc ⟨rfl, hb⟩ ac T
  replace M := M.call hb; clear hb
  refine Zg2 T (Zq (rn_not rfl (T.e 0 rfl))) rfl (Zm 0 rfl rfl) rfl ?_; clear T ac; intro ac T
  rcases Bool.eq_false_or_eq_true (!(withinB x.s0 (-3) 3)) with h4 | h4
  ·refine Zg8 T (Zp (Zwn rfl rfl (T.e 0 rfl) h4)) rfl (fun _ T => Zp (Zwn rfl rfl (T.e 1 rfl) h4)) rfl (fun _ T => Zp (Zwn rfl rfl (T.e 2 rfl) h4)) rfl (fun _ T => Zp (Zwn rfl rfl (T.e 3 rfl) h4)) rfl (fun _ T => Zp (Zwn rfl rfl (T.e 4 rfl) h4)) rfl (fun _ T => Zp (Zwn rfl rfl (T.e 5 rfl) h4)) rfl (fun _ T => Zp (Zwn rfl rfl (T.e 6 rfl) h4)) rfl (fun _ T => Zq (Zr1 rfl (T.e 7 rfl) h4 evc)) rfl ?_; clear T ac; intro ac T
   refine lq T (Zra rfl (T.e 0 rfl)) ?_; clear T ac; intro ac T
   refine wpList_nil ?_
   replace T := T.pick [0, 2, 3, 4, 5, 6, 7, 8, 18, 19, 20] rfl
   exact ⟨(T.pick (E' := [(4, .pointer (some ⟨g3, 0, none⟩)), (10, .agg #[.int .i64 x.t0, .int .i64 x.t1, .int .i64 x.s0, .int .i64 x.s1]), (11, .int .i64 1), (17, .bool true)]) [8, 10, 9, 0] rfl).as (by (try rw [show (!(withinB x.s0 (-3) 3)) = true from h4]); (try rfl)), M.mask [true] rfl⟩
  refine Zg5 (v1 := (.pointer (some ⟨g3, 1, none⟩))) T (Zw (Zwy rfl rfl (T.e 0 rfl) h4) (Zrf (off := 1) rfl (T.e 9 rfl) (fun _ _ _ => by kernel_rfl))) rfl (fun _ T => Zw (Zwy rfl rfl (T.e 1 rfl) h4) (Zro (Mem.nth M 0 rfl) rfl (T.e 0 rfl) rfl)) rfl (fun _ T => Zw (Zwy rfl rfl (T.e 2 rfl) h4) (Zrm rfl (T.e 10 rfl))) rfl (fun _ T => Zw (Zwy rfl rfl (T.e 3 rfl) h4) (rn_neg rfl (T.e 0 rfl) (by omega))) rfl (fun _ T => Zw (Zwy rfl rfl (T.e 4 rfl) h4) (Zrm rfl (T.e 12 rfl))) rfl ?_; clear T ac; intro ac T
  refine l_w (Zwy rfl rfl (T.e 5 rfl) h4) ?_; intro K hK
  refine Zoc (first := []) (cap := []) T rfl rfl rfl rfl evf (.cons (T.e 3 rfl) (.cons (T.e 1 rfl) (.cons (T.e 0 rfl) .nil))) Try.func30 rfl rfl ?_
  refine Calls.mono (vwithin_any x.s1 (-3) 3 _) ?_
  clear T; rintro e wc ⟨rfl, hb⟩ ac T
  replace M := M.call hb; clear hb
  refine Zso hK _ _ ?_; clear hK K
  refine Zg3 T (Zw (Zwy rfl rfl (T.e 6 rfl) h4) (rn_not rfl (T.e 0 rfl))) rfl (fun _ T => Zq (Zr0 rfl (T.e 7 rfl) h4 (T.e 0 rfl))) rfl (Za 0 rfl rfl) rfl ?_; clear T ac; intro ac T
  refine wpList_nil ?_
  replace T := T.pick [0, 2, 3, 4, 5, 6, 7, 8, 18, 19, 20] rfl
  exact ⟨(T.pick (E' := [(4, .pointer (some ⟨g3, 0, none⟩)), (10, .agg #[.int .i64 x.t0, .int .i64 x.t1, .int .i64 x.s0, .int .i64 x.s1]), (11, .int .i64 1), (17, .bool (!(withinB x.s1 (-3) 3)))]) [8, 10, 9, 0] rfl).as (by (try rw [show (!(withinB x.s0 (-3) 3)) = false from h4]); (try rfl)), M.mask [true] rfl⟩
 clear T M
 rintro ac wc ⟨T, M⟩
 refine wp_cond_split (T.e 3 rfl) ?_ ?_
 ·intro h5
  (have h5' := h5; try simp only [Zb1, Zb2, Zb3, Zb4, Zb5, Zb6, Zb7] at h5')
  refine Zsr ?_
  refine lq T (Zra rfl evc) ?_; clear T ac; intro ac T
  refine wpList_nil ?_
  replace T := T.pick [0] rfl
  replace M := M.mask [false] rfl
  refine Znr ?_
  refine Zrb ?_
  refine Zrb ?_
  refine Zrt ?_
  refine Zrt ?_
  refine Zrb ?_
  refine Zrt ?_
  refine rt_1 T rfl (T.e 0 rfl) ?_
  refine ⟨ret_int ?_, M.below⟩
  unfold sndE chkR
  (repeat' split) <;> first | rfl | omega | contradiction | (simp_all; done) | (simp_all; omega)
 intro h5
 (have h5' := h5; try simp only [Zb1, Zb2, Zb3, Zb4, Zb5, Zb6, Zb7] at h5')
 refine Zsr ?_
 refine Zg6 (v1 := (.pointer (some ⟨g3, 0, none⟩))) (v3 := (.pointer (some ⟨g3, 1, none⟩))) T (Zq (Zrf (off := 0) rfl (T.e 0 rfl) (fun _ _ _ => by kernel_rfl))) rfl (Zo M 0 0 rfl rfl rfl rfl) rfl (Zf 1 2 rfl rfl) rfl (Zo M 0 0 rfl rfl rfl rfl) rfl (fun _ T => Zq (rn_gtr rfl (T.e 2 rfl) (T.e 0 rfl))) rfl (Za 0 rfl rfl) rfl ?_; clear T ac; intro ac T
 refine wpList_nil ?_
 replace T := T.pick [0, 7, 8] rfl
 replace M := M.mask [false] rfl
 refine nm_then ?_
 refine wp_if (T.e 0 rfl) ?_ ?_
 ·intro h6
  refine Zsr ?_
  refine lq T (Zra rfl evc) ?_; clear T ac; intro ac T
  replace T := T.pick [0] rfl
  refine Zln ?_
  refine wp_ret ?_
  refine Zrb ?_
  refine Zrb ?_
  refine Zrt ?_
  refine Zrt ?_
  refine Zrb ?_
  refine Zrt ?_
  refine rt_1 T rfl (T.e 0 rfl) ?_
  refine ⟨ret_int ?_, M.below⟩
  unfold sndE chkR
  (repeat' split) <;> first | rfl | omega | contradiction | (simp_all; done) | (simp_all; omega)
 intro h6
 refine wp_skip ?_
 refine Znb ?_
 refine Znb ?_
 refine nm_then ?_
 refine wp_region_lit ?_
 refine lq (v := (.int .i64 2)) T (rn_ofI (rn_add rfl (T.e 2 rfl) evc (by omega)) (by rfl)) ?_; clear T ac; intro ac T
 refine l_q (v := (.int .i64 2)) (T.pick [0, 1, 2] rfl) rfl rfl rfl rfl (Zrm rfl (T.e 0 rfl)) ?_; clear T ac; intro ac T
 replace T := T.pick [0, 3] rfl
 refine Zln ?_
 refine rounds_S ?_
 refine Zsr ?_
 refine lq (v := (.bool false)) T (Zrq (rn_lss rfl (T.e 0 rfl) evc) (by simp)) ?_; clear T ac; intro ac T
 refine Zln ?_
 refine wp_seq ?_
 refine wp_cond_false (T.e 0 rfl) ?_
 refine wp_exit ?_
 refine Zet ?_
 refine Zet ?_
 refine ex_hit ?_
 refine nm_then ?_
 refine Zsr ?_
 refine lq T (Zra rfl evc) ?_; clear T ac; intro ac T
 replace T := T.pick [0] rfl
 refine Zln ?_
 refine wp_ret ?_
 refine rt_1 T rfl (T.e 0 rfl) ?_
 refine ⟨ret_int ?_, M.below⟩
 unfold sndE chkR
 (repeat' split) <;> first | rfl | omega | contradiction | (simp_all; done) | (simp_all; omega)
theorem checkSounds_any (A : Option Addr) (n c : Nat) (l : List Snd) (most : Int) (w : World) (hr : Rd w w.heap.size 4 A n (sc l)) (hn : n ≤ 1000000) :
   Calls Try.prog 37 #[.slice A n c, .int .i64 most] w fun e w' => e = .returned (.int .i64 (sndsE l most)) ∧ Below w.heap.size w w' := by
 have hl := hr.len4
 obtain ⟨bJ, oJ, SJ⟩ := Sp.old hr
 refine Zpx noEx Try.func37 rfl 24 rfl [.slice A n c, .int .i64 most] rfl rfl (Mem.init w _) ?_
 intro ac wc T M
 refine Zsr ?_
 refine lq T (Zra rfl evc) ?_; clear T ac; intro ac T
 replace T := T.pick [1, 2] rfl
 refine Zln ?_
 refine wp_seq ?_
 refine Zsr ?_
 refine Zg4 T (Zq (Zrm rfl (T.e 0 rfl))) rfl (Zl Try.underlying27 0 rfl rfl) rfl (Zm 3 rfl rfl) rfl (fun _ T => Zq (rn_gtr rfl (T.e 1 rfl) (T.e 0 rfl))) rfl ?_; clear T ac; intro ac T
 replace T := T.pick [0, 4] rfl
 refine Zln ?_
 refine wp_if (T.e 0 rfl) ?_ ?_
 ·intro h1
  refine Zsr ?_
  refine lq T (Zra rfl evc) ?_; clear T ac; intro ac T
  replace T := T.pick [0] rfl
  refine Zln ?_
  refine wp_ret ?_
  refine Zrt ?_
  refine rt_1 T rfl (T.e 0 rfl) ?_
  refine ⟨ret_int ?_, M.below⟩
  unfold sndsE
  rw [if_pos (by omega)]
 intro h1
 refine Zsk ?_
 refine wp_seq ?_
 refine Zsr ?_
 refine Zg3 T (Zq (Zrm rfl (T.e 1 rfl))) rfl (Zl Try.underlying27 0 rfl rfl) rfl (fun _ T => Zq (Zrm rfl evc)) rfl ?_; clear T ac; intro ac T
 replace T := T.pick [0, 1, 2] rfl
 refine Zln ?_
 refine wp_block ?_
 refine wp_loop_n (fun mz ac wc => ∃ (k : Nat), mz = n - k ∧ (k ≤ n) ∧ (sndsL l = sndsL (l.drop k)) ∧ Tm ac 24 [(12, .slice A n c), (13, .int .i64 ((n : Nat) : Int)), (14, .int .i64 (k : Int))] ∧ Mem w noEx wc []) ?_ ?_
 ·exact ⟨_, 0, rfl, (by omega), rfl, T.pick [2, 1, 0] rfl, M.mask [] rfl⟩
 clear T M
 rintro mz ac wc ⟨k, hmm1, hk, H, T, M⟩
 refine Zsr ?_
 refine lq T (rn_lss rfl (T.e 2 rfl) (T.e 1 rfl)) ?_; clear T ac; intro ac T
 refine Zln ?_
 refine wp_seq ?_
 refine wp_if (T.e 0 rfl) ?_ ?_
 ·intro h2
  obtain ⟨x, hk1, hd⟩ := sc_next (l := l) (k := k) (by omega)
  rw [hd, sndsL] at H
  refine Zsk ?_
  refine wp_seq ?_
  refine wp_block ?_
  refine Zsr ?_
  refine Zg2 (v2 := (.agg #[.int .i64 x.t0, .int .i64 x.t1, .int .i64 x.s0, .int .i64 x.s1])) T (Zq (Zri (size := 4) k rfl (T.e 1 rfl) (T.e 3 rfl) ⟨_, Try.underlying27, by kernel_rfl⟩ rfl (by omega) (SJ.at0 (by omega)))) rfl (fun _ T => Zq (rn_rowat (Sp.scR4 SJ M (Zz9 _) hk1) rfl (T.e 0 rfl) rfl)) rfl ?_; clear T ac; intro ac T
  refine Zl2 ?_
  refine Zoa M T rfl rfl rfl rfl ?_; clear M T; intro g1 wc ac M T
  refine Zl2 ?_
  refine Zos M T rfl rfl (T.e 0 rfl) (T.e 1 rfl) rfl .head rfl (by simp) rfl (by kernel_rfl) ?_; clear M T; intro wc ac M T
  replace T := T.pick [0, 4, 5, 6] rfl
  refine Zln ?_
  refine Zsr ?_
  refine lq T (Zrr (Mem.nth M 0 rfl) rfl (T.e 0 rfl) rfl) ?_; clear T ac; intro ac T
  refine Zl2 ?_
  refine Zoc (first := []) (cap := []) T rfl rfl rfl rfl evf (.cons (T.e 0 rfl) .nil) Try.func45 rfl rfl ?_
  refine Calls.mono (checkSound_any x _) ?_
  clear T; rintro e wc ⟨rfl, hb⟩ ac T
  replace M := M.call hb; clear hb
  refine lq T (Zra rfl (T.e 0 rfl)) ?_; clear T ac; intro ac T
  refine wpList_nil ?_
  replace T := T.pick [0, 4, 5, 6] rfl
  replace M := M.mask [false] rfl
  refine nm_then ?_
  refine Zsr ?_
  refine Zg2 T (Zq (Zrm rfl (T.e 0 rfl))) rfl (fun _ T => Zq (rn_neq rfl (T.e 0 rfl) evc)) rfl ?_; clear T ac; intro ac T
  replace T := T.pick [0, 2, 3, 4, 5] rfl
  refine Zln ?_
  refine wp_ifn (T.e 0 rfl) ?_ ?_
  ·intro h3
   refine Zsr ?_
   refine Zg2 T (Zq (Zrm rfl (T.e 1 rfl))) rfl (Za 0 rfl rfl) rfl ?_; clear T ac; intro ac T
   replace T := T.pick [0] rfl
   refine Zln ?_
   refine wp_ret ?_
   refine Zrb ?_
   refine Zrt ?_
   refine Zrt ?_
   refine Zrb ?_
   refine Zrt ?_
   refine rt_1 T rfl (T.e 0 rfl) ?_
   refine ⟨ret_int ?_, M.below⟩
   unfold sndsE
   rw [if_neg (by omega), H]
   rw [if_neg (by simp_all)]
  intro h3
  refine wp_skip ?_
  refine Znb ?_
  refine nm_then ?_
  refine wp_region_lit ?_
  refine lq T (rn_add rfl (T.e 4 rfl) evc (by omega)) ?_; clear T ac; intro ac T
  refine l_q (v := (.int .i64 ((k : Int) + 1))) (T.pick [0, 1, 2, 3, 4] rfl) rfl rfl rfl rfl (Zrm rfl (T.e 0 rfl)) ?_; clear T ac; intro ac T
  replace T := T.pick [0, 4, 5] rfl
  refine Zln ?_
  rw [if_pos (by simp_all)] at H
  exact ⟨_, by omega, k + 1, rfl, (by omega), H, T.pick [1, 2, 0] rfl, M.mask [] rfl⟩
 intro h2
 rw [List.drop_of_length_le (by omega), sndsL] at H
 refine wp_exit ?_
 refine Zet ?_
 refine Zet ?_
 refine ex_hit ?_
 refine nm_then ?_
 refine Zsr ?_
 refine lq T (Zra rfl evc) ?_; clear T ac; intro ac T
 replace T := T.pick [0] rfl
 refine Zln ?_
 refine wp_ret ?_
 refine rt_1 T rfl (T.e 0 rfl) ?_
 refine ⟨ret_int ?_, M.below⟩
 unfold sndsE
 rw [if_neg (by omega), H]
theorem vdue_any (l : Lw) (n : Int) (w : World) (h0 : -1000 ≤ l.first ∧ l.first ≤ 1000) (h1 : -1000 ≤ l.step ∧ l.step ≤ 1000) (h2 : -1000 ≤ n ∧ n ≤ 1000) :
  Calls Try.prog 36 #[.agg #[.int .i64 l.first, .int .i64 l.step, .int .i64 l.span, .int .i64 l.press], .int .i64 n] w fun e w' => e = .returned (.int .i64 (l.first + l.step * n)) ∧ Below w.heap.size w w' := by
 have hm := mulB h1 h2
 refine Zpx noEx Try.func36 rfl 12 rfl [.agg #[.int .i64 l.first, .int .i64 l.step, .int .i64 l.span, .int .i64 l.press], .int .i64 n] rfl rfl (Mem.init w _) ?_
 intro ac wc T M
 refine Zsr ?_
 refine Zl2 ?_
 refine Zob M T rfl rfl rfl rfl (T.e 0 rfl) rfl ?_; clear M T; intro g1 wc ac M T
 refine lq T (Zra rfl evc) ?_; clear T ac; intro ac T
 replace T := T.pick [1, 3] rfl
 refine Zln ?_
 refine Zsr ?_
 refine Zg8 (v1 := (.pointer (some ⟨g1, 0, none⟩))) (v3 := (.pointer (some ⟨g1, 1, none⟩))) T (Zq (Zrf (off := 0) rfl (T.e 0 rfl) (fun _ _ _ => by kernel_rfl))) rfl (Zo M 0 0 rfl rfl rfl rfl) rfl (Zf 1 2 rfl rfl) rfl (Zo M 0 0 rfl rfl rfl rfl) rfl (Zm 5 rfl rfl) rfl (fun _ T => Zq (rn_mul rfl (T.e 1 rfl) (T.e 0 rfl) (by omega))) rfl (fun _ T => Zq (rn_add rfl (T.e 4 rfl) (T.e 0 rfl) (by omega))) rfl (Za 0 rfl rfl) rfl ?_; clear T ac; intro ac T
 refine wpList_nil ?_
 replace T := T.pick [0] rfl
 replace M := M.mask [false] rfl
 refine Znr ?_
 refine rt_1 T rfl (T.e 0 rfl) ?_
 exact ⟨rfl, M.below⟩
theorem times_any (x0 x1 n : Int) (w : World) (h0 : -1000 ≤ x0 ∧ x0 ≤ 1000) (h1 : -1000 ≤ x1 ∧ x1 ≤ 1000) (h2 : -1000 ≤ n ∧ n ≤ 1000) :
  Calls Try.prog 41 #[.agg #[.int .i64 x0, .int .i64 x1], .int .i64 n] w fun e w' => e = .returned (.agg #[.int .i64 (n * x0), .int .i64 (n * x1)]) ∧ Below w.heap.size w w' := by
 have hm := mulB h2 h0
 have hm2 := mulB h2 h1
 refine Zpx noEx Try.func41 rfl 14 rfl [.agg #[.int .i64 x0, .int .i64 x1], .int .i64 n] rfl rfl (Mem.init w _) ?_
 intro ac wc T M
 refine Zsr ?_
 refine Zl2 ?_
 refine Zob M T rfl rfl rfl rfl (T.e 0 rfl) rfl ?_; clear M T; intro g1 wc ac M T
 refine Zl2 ?_
 refine Zoa M T rfl rfl rfl rfl ?_; clear M T; intro g2 wc ac M T
 replace T := T.pick [0, 1, 3] rfl
 refine Zln ?_
 refine Zsr ?_
 refine Zg8 (v2 := (.pointer (some ⟨g1, 0, none⟩))) (v6 := (.pointer (some ⟨g1, 1, none⟩))) T (Zq (Zrm rfl (T.e 2 rfl))) rfl (Zf 0 2 rfl rfl) rfl (Zo M 1 0 rfl rfl rfl rfl) rfl (fun _ T => Zq (rn_mul rfl (T.e 2 rfl) (T.e 0 rfl) (by omega))) rfl (Zm 6 rfl rfl) rfl (Zf 1 6 rfl rfl) rfl (Zo M 1 0 rfl rfl rfl rfl) rfl (fun _ T => Zq (rn_mul rfl (T.e 2 rfl) (T.e 0 rfl) (by omega))) rfl ?_; clear T ac; intro ac T
 refine lq (v := (.agg #[.int .i64 (n * x0), .int .i64 (n * x1)])) T (rn_build rfl (.cons (T.e 4 rfl) (.cons (T.e 0 rfl) .nil)) (fun _ => by kernel_rfl)) ?_; clear T ac; intro ac T
 refine Zl2 ?_
 refine Zos M T rfl rfl (T.e 9 rfl) (T.e 0 rfl) rfl .head rfl (by simp) rfl (by kernel_rfl) ?_; clear M T; intro wc ac M T
 refine wpList_nil ?_
 replace T := T.pick [9] rfl
 replace M := M.mask [true, false] rfl
 refine Znr ?_
 refine rt_c M T rfl (T.e 0 rfl) (Zne (i := 0) rfl) rfl ?_
 exact ⟨rfl, M.below⟩
theorem vplus_any (x0 x1 y0 y1 : Int) (w : World) (hx0 : -1000000000 ≤ x0 ∧ x0 ≤ 1000000000) (hx1 : -1000000000 ≤ x1 ∧ x1 ≤ 1000000000) (hy0 : -1000000000 ≤ y0 ∧ y0 ≤ 1000000000) (hy1 : -1000000000 ≤ y1 ∧ y1 ≤ 1000000000) :
  Calls Try.prog 31 #[.agg #[.int .i64 x0, .int .i64 x1], .agg #[.int .i64 y0, .int .i64 y1]] w fun e w' => e = .returned (.agg #[.int .i64 (x0 + y0), .int .i64 (x1 + y1)]) ∧ Below w.heap.size w w' := by
 refine Zpx noEx Try.func31 rfl 16 rfl [.agg #[.int .i64 x0, .int .i64 x1], .agg #[.int .i64 y0, .int .i64 y1]] rfl rfl (Mem.init w _) ?_
 intro ac wc T M
 refine Zsr ?_
 refine Zl2 ?_
 refine Zob M T rfl rfl rfl rfl (T.e 0 rfl) rfl ?_; clear M T; intro g1 wc ac M T
 refine Zl2 ?_
 refine Zob M T rfl rfl rfl rfl (T.e 2 rfl) rfl ?_; clear M T; intro g2 wc ac M T
 refine Zl2 ?_
 refine Zoa M T rfl rfl rfl rfl ?_; clear M T; intro g3 wc ac M T
 replace T := T.pick [0, 1, 2] rfl
 refine Zln ?_
 refine Zsr ?_
 refine Zg8 (v1 := (.pointer (some ⟨g1, 0, none⟩))) (v3 := (.pointer (some ⟨g2, 0, none⟩))) (v6 := (.pointer (some ⟨g1, 1, none⟩))) (v8 := (.pointer (some ⟨g2, 1, none⟩))) T (Zq (Zrf (off := 0) rfl (T.e 2 rfl) (fun _ _ _ => by kernel_rfl))) rfl (Zo M 2 0 rfl rfl rfl rfl) rfl (Zf 0 3 rfl rfl) rfl (Zo M 1 0 rfl rfl rfl rfl) rfl (fun _ T => Zq (rn_add rfl (T.e 2 rfl) (T.e 0 rfl) (by omega))) rfl (Zf 1 7 rfl rfl) rfl (Zo M 2 0 rfl rfl rfl rfl) rfl (Zf 1 8 rfl rfl) rfl ?_; clear T ac; intro ac T
 refine Zg3 (v3 := (.agg #[.int .i64 (x0 + y0), .int .i64 (x1 + y1)])) T (Zq (Zro (Mem.nth M 1 rfl) rfl (T.e 0 rfl) rfl)) rfl (fun _ T => Zq (rn_add rfl (T.e 2 rfl) (T.e 0 rfl) (by omega))) rfl (fun _ T => Zq (rn_build rfl (.cons (T.e 5 rfl) (.cons (T.e 0 rfl) .nil)) (fun _ => by kernel_rfl))) rfl ?_; clear T ac; intro ac T
 refine Zl2 ?_
 refine Zos M T rfl rfl (T.e 11 rfl) (T.e 0 rfl) rfl .head rfl (by simp) rfl (by kernel_rfl) ?_; clear M T; intro wc ac M T
 refine wpList_nil ?_
 replace T := T.pick [11] rfl
 replace M := M.mask [true, false, false] rfl
 refine Znr ?_
 refine rt_c M T rfl (T.e 0 rfl) (Zne (i := 0) rfl) rfl ?_
 exact ⟨rfl, M.below⟩
theorem vless_any (x0 x1 y0 y1 : Int) (w : World) (hx0 : -1000000000 ≤ x0 ∧ x0 ≤ 1000000000) (hx1 : -1000000000 ≤ x1 ∧ x1 ≤ 1000000000) (hy0 : -1000000000 ≤ y0 ∧ y0 ≤ 1000000000) (hy1 : -1000000000 ≤ y1 ∧ y1 ≤ 1000000000) :
  Calls Try.prog 40 #[.agg #[.int .i64 x0, .int .i64 x1], .agg #[.int .i64 y0, .int .i64 y1]] w fun e w' => e = .returned (.agg #[.int .i64 (x0 - y1), .int .i64 (x1 - y0)]) ∧ Below w.heap.size w w' := by
 refine Zpx noEx Try.func40 rfl 16 rfl [.agg #[.int .i64 x0, .int .i64 x1], .agg #[.int .i64 y0, .int .i64 y1]] rfl rfl (Mem.init w _) ?_
 intro ac wc T M
 refine Zsr ?_
 refine Zl2 ?_
 refine Zob M T rfl rfl rfl rfl (T.e 0 rfl) rfl ?_; clear M T; intro g1 wc ac M T
 refine Zl2 ?_
 refine Zob M T rfl rfl rfl rfl (T.e 2 rfl) rfl ?_; clear M T; intro g2 wc ac M T
 refine Zl2 ?_
 refine Zoa M T rfl rfl rfl rfl ?_; clear M T; intro g3 wc ac M T
 replace T := T.pick [0, 1, 2] rfl
 refine Zln ?_
 refine Zsr ?_
 refine Zg8 (v1 := (.pointer (some ⟨g1, 0, none⟩))) (v3 := (.pointer (some ⟨g2, 1, none⟩))) (v6 := (.pointer (some ⟨g1, 1, none⟩))) (v8 := (.pointer (some ⟨g2, 0, none⟩))) T (Zq (Zrf (off := 0) rfl (T.e 2 rfl) (fun _ _ _ => by kernel_rfl))) rfl (Zo M 2 0 rfl rfl rfl rfl) rfl (Zf 1 3 rfl rfl) rfl (Zo M 1 0 rfl rfl rfl rfl) rfl (fun _ T => Zq (rn_sub rfl (T.e 2 rfl) (T.e 0 rfl) (by omega))) rfl (Zf 1 7 rfl rfl) rfl (Zo M 2 0 rfl rfl rfl rfl) rfl (Zf 0 8 rfl rfl) rfl ?_; clear T ac; intro ac T
 refine Zg3 (v3 := (.agg #[.int .i64 (x0 - y1), .int .i64 (x1 - y0)])) T (Zq (Zro (Mem.nth M 1 rfl) rfl (T.e 0 rfl) rfl)) rfl (fun _ T => Zq (rn_sub rfl (T.e 2 rfl) (T.e 0 rfl) (by omega))) rfl (fun _ T => Zq (rn_build rfl (.cons (T.e 5 rfl) (.cons (T.e 0 rfl) .nil)) (fun _ => by kernel_rfl))) rfl ?_; clear T ac; intro ac T
 refine Zl2 ?_
 refine Zos M T rfl rfl (T.e 11 rfl) (T.e 0 rfl) rfl .head rfl (by simp) rfl (by kernel_rfl) ?_; clear M T; intro wc ac M T
 refine wpList_nil ?_
 replace T := T.pick [11] rfl
 replace M := M.mask [true, false, false] rfl
 refine Znr ?_
 refine rt_c M T rfl (T.e 0 rfl) (Zne (i := 0) rfl) rfl ?_
 exact ⟨rfl, M.below⟩
theorem rise_any (lo hi : Snd) (p : Int) (w : World) (gl : lo.good) (gh : hi.good) (hp : 0 ≤ p ∧ p ≤ 3) :
  Calls Try.prog 32 #[.agg #[.int .i64 lo.t0, .int .i64 lo.t1, .int .i64 lo.s0, .int .i64 lo.s1], .agg #[.int .i64 hi.t0, .int .i64 hi.t1, .int .i64 hi.s0, .int .i64 hi.s1], .int .i64 p] w fun e w' => e = .returned (.agg #[.int .i64 ((riseP lo hi p).1), .int .i64 ((riseP lo hi p).2)]) ∧ Below w.heap.size w w' := by
 obtain ⟨g1, g2⟩ := gl
 obtain ⟨g3, g4⟩ := gh
 have m1 := mulB (a := p) (b := hi.s0) (by omega) (by omega)
 have m2 := mulB (a := p) (b := hi.s1) (by omega) (by omega)
 have m3 := mulB (a := p) (b := lo.s0) (by omega) (by omega)
 have m4 := mulB (a := p) (b := lo.s1) (by omega) (by omega)
 refine Zpx noEx Try.func32 rfl 19 rfl [.agg #[.int .i64 lo.t0, .int .i64 lo.t1, .int .i64 lo.s0, .int .i64 lo.s1], .agg #[.int .i64 hi.t0, .int .i64 hi.t1, .int .i64 hi.s0, .int .i64 hi.s1], .int .i64 p] rfl rfl (Mem.init w _) ?_
 intro ac wc T M
 refine Zsr ?_
 refine Zl2 ?_
 refine Zob M T rfl rfl rfl rfl (T.e 0 rfl) rfl ?_; clear M T; intro g1 wc ac M T
 refine Zl2 ?_
 refine Zob M T rfl rfl rfl rfl (T.e 2 rfl) rfl ?_; clear M T; intro g2 wc ac M T
 refine Zl2 ?_
 refine Zoa M T rfl rfl rfl rfl ?_; clear M T; intro g3 wc ac M T
 replace T := T.pick [0, 1, 2, 5] rfl
 refine Zln ?_
 refine wp_seq ?_
 refine Zgs M (M.perm [1, 2] rfl rfl) 13 (by kernel_rfl) rfl (by kernel_rfl) ?_
 clear M; intro wc M
 refine g_addG 12 M ?_
 refine gq (v := (.pointer (some ⟨g2, 2, none⟩))) T 0 1 rfl (fun _ _ _ _ _ => (Zrf (off := 2) rfl (T.e 1 rfl) (fun _ _ _ => by kernel_rfl))) ?_; clear T ac; intro ac T
 refine gq T 1 3 rfl (fun B w' hD hl hS => (Zrr (Mem.nth (show Mem w noEx w' _ from ((MA.lft hS) (hD.wait (i := 1) (m := 12) (by kernel_rfl) hl))) 1 rfl) rfl (T.e 0 rfl) rfl)) ?_; clear T ac; intro ac T
 refine gq T 2 7 rfl (fun _ _ _ _ _ => (Zrm rfl (T.e 5 rfl))) ?_; clear T ac; intro ac T
 refine gq (v := (.pointer (some ⟨g1, 0, none⟩))) T 4 23 rfl (fun _ _ _ _ _ => (Zrf (off := 0) rfl (T.e 5 rfl) (fun _ _ _ => by kernel_rfl))) ?_; clear T ac; intro ac T
 refine gq T 5 55 rfl (fun B w' hD hl hS => (Zrr (Mem.nth (show Mem w noEx w' _ from ((MA.lft hS) (hD.wait (i := 5) (m := 12) (by kernel_rfl) hl))) 2 rfl) rfl (T.e 0 rfl) rfl)) ?_; clear T ac; intro ac T
 refine gq (v := (.pointer (some ⟨g1, 2, none⟩))) T 6 119 rfl (fun _ _ _ _ _ => (Zrf (off := 2) rfl (T.e 7 rfl) (fun _ _ _ => by kernel_rfl))) ?_; clear T ac; intro ac T
 refine gq T 7 247 rfl (fun B w' hD hl hS => (Zrr (Mem.nth (show Mem w noEx w' _ from ((MA.lft hS) (hD.wait (i := 7) (m := 12) (by kernel_rfl) hl))) 2 rfl) rfl (T.e 0 rfl) rfl)) ?_; clear T ac; intro ac T
 refine gq T 8 503 rfl (fun _ _ _ _ _ => (Zrm rfl (T.e 10 rfl))) ?_; clear T ac; intro ac T
 refine gw 3 511 ?_; intro K hK
 refine Zoc (first := []) (cap := []) T rfl rfl rfl rfl evf (.cons (T.e 6 rfl) (.cons (T.e 5 rfl) .nil)) Try.func41 rfl rfl ?_
 refine Calls.mono (times_any hi.s0 hi.s1 p _ (by (try dsimp only); omega) (by (try dsimp only); omega) (by (try dsimp only); omega)) ?_
 clear T; rintro e wc ⟨rfl, hb⟩ ac T
 replace M := M.call hb; clear hb
 refine Zso hK _ _ (MA.mk (fun _ => M.mask [true, true, true] rfl) (M.mask [false, true, true] rfl)) ?_; clear hK K
 refine gw 9 1023 ?_; intro K hK
 refine Zoc (first := []) (cap := []) T rfl rfl rfl rfl evf (.cons (T.e 2 rfl) (.cons (T.e 1 rfl) .nil)) Try.func41 rfl rfl ?_
 refine Calls.mono (times_any lo.s0 lo.s1 p _ (by (try dsimp only); omega) (by (try dsimp only); omega) (by (try dsimp only); omega)) ?_
 clear T; rintro e wc ⟨rfl, hb⟩ ac T
 replace M := M.call hb; clear hb
 refine Zso hK _ _ (MA.mk (fun _ => M.mask [true, true, true] rfl) (M.mask [false, true, true] rfl)) ?_; clear hK K
 refine gw 10 2047 ?_; intro K hK
 refine Zoc (first := []) (cap := []) T rfl rfl rfl rfl evf (.cons (T.e 5 rfl) (.cons (T.e 0 rfl) .nil)) Try.func31 rfl rfl ?_
 refine Calls.mono (vplus_any lo.t0 lo.t1 (p * lo.s0) (p * lo.s1) _ (by omega) (by omega) (by omega) (by omega)) ?_
 clear T; rintro e wc ⟨rfl, hb⟩ ac T
 replace M := M.call hb; clear hb
 refine Zso hK _ _ (MA.mk (fun _ => M.mask [true, true, true] rfl) (M.mask [false, true, true] rfl)) ?_; clear hK K
 refine gw 11 4095 ?_; intro K hK
 refine Zoc (first := []) (cap := []) T rfl rfl rfl rfl evf (.cons (T.e 2 rfl) (.cons (T.e 0 rfl) .nil)) Try.func40 rfl rfl ?_
 refine Calls.mono (vless_any (p * hi.s0) (p * hi.s1) (lo.t0 + (p * lo.s0)) (lo.t1 + (p * lo.s1)) _ (by omega) (by omega) (by omega) (by omega)) ?_
 clear T; rintro e wc ⟨rfl, hb⟩ ac T
 replace M := M.call hb; clear hb
 refine Zso hK _ _ (MA.mk (fun _ => M.mask [true, true, true] rfl) (M.mask [false, true, true] rfl)) ?_; clear hK K
 refine gw 12 8191 ?_; intro K hK
 refine Zos M T rfl rfl (T.e 12 rfl) (T.e 0 rfl) rfl .head rfl (by simp) rfl (by kernel_rfl) ?_; clear M T; intro wc ac M T
 refine Zso hK _ _ (MA.mk (fun h => (no_of (by kernel_rfl) h).elim) (M.mask [false, true, true] rfl)) ?_; clear hK K
 refine Zgd (by kernel_rfl) ?_
 replace T := T.pick [12] rfl
 replace M := M.mask [true, false, false] rfl
 refine Znr ?_
 refine rt_c M T rfl (T.e 0 rfl) (Zne (i := 0) rfl) rfl ?_
 exact ⟨rfl, M.below⟩
theorem beats_any (l : Lw) (lo hi : Snd) (w : World) (hp : 0 ≤ l.press ∧ l.press ≤ 3) (gl : lo.good) (gh : hi.good)  :
   Calls Try.prog 16 #[.agg #[.int .i64 l.first, .int .i64 l.step, .int .i64 l.span, .int .i64 l.press], .agg #[.int .i64 lo.t0, .int .i64 lo.t1, .int .i64 lo.s0, .int .i64 lo.s1], .agg #[.int .i64 hi.t0, .int .i64 hi.t1, .int .i64 hi.s0, .int .i64 hi.s1]] w (BeatsPost l lo hi w) := by
 obtain ⟨⟨gl1, gl2⟩, gh1, gh2⟩ := And.intro gl gh
 refine Zpx noEx Try.func16 rfl 27 rfl [.agg #[.int .i64 l.first, .int .i64 l.step, .int .i64 l.span, .int .i64 l.press], .agg #[.int .i64 lo.t0, .int .i64 lo.t1, .int .i64 lo.s0, .int .i64 lo.s1], .agg #[.int .i64 hi.t0, .int .i64 hi.t1, .int .i64 hi.s0, .int .i64 hi.s1]] rfl rfl (Mem.init w _) ?_
 intro ac wc T M
 refine Zsr ?_
 refine Zl2 ?_
 refine Zob M T rfl rfl rfl rfl (T.e 0 rfl) rfl ?_; clear M T; intro g1 wc ac M T
 refine Zl2 ?_
 refine Zob M T rfl rfl rfl rfl (T.e 2 rfl) rfl ?_; clear M T; intro g2 wc ac M T
 refine Zl2 ?_
 refine Zob M T rfl rfl rfl rfl (T.e 4 rfl) rfl ?_; clear M T; intro g3 wc ac M T
 refine lq T (Zra rfl evc) ?_; clear T ac; intro ac T
 replace T := T.pick [1, 2, 3] rfl
 refine Zln ?_
 refine Zsr ?_
 refine lq T (Zra rfl evc) ?_; clear T ac; intro ac T
 refine Zln ?_
 refine wp_seq ?_
 refine Zsr ?_
 refine Zg4 (v1 := (.pointer (some ⟨g1, 3, none⟩))) T (Zq (Zrf (off := 3) rfl (T.e 3 rfl) (fun _ _ _ => by kernel_rfl))) rfl (Zo M 2 0 rfl rfl rfl rfl) rfl (fun _ T => Zq (rn_add rfl (T.e 0 rfl) evc (by omega))) rfl (fun _ T => Zq (Zrm rfl evc)) rfl ?_; clear T ac; intro ac T
 refine wpList_nil ?_
 replace T := T.pick [0, 1, 4, 5, 6] rfl
 replace M := M.mask [true, true, false] rfl
 refine nm_then ?_
 refine wp_block ?_
 refine wp_loop_n (fun mz ac wc => ∃ (k : Nat) (A : Option Addr) (c : Nat) (I : List (Nat × BA)), mz = (l.press + 1 - k).toNat ∧ ((k : Int) ≤ l.press + 1) ∧ (((beatsL l lo hi).take k).length ≤ 4) ∧ (Sl 29 2 (.slice A ((beatsL l lo hi).take k).length c) ((beatsL l lo hi).take k).length (rc ((beatsL l lo hi).take k)) I) ∧ Tm ac 27 [(4, .pointer (some ⟨g2, 0, none⟩)), (5, .pointer (some ⟨g3, 0, none⟩)), (7, .slice A (((beatsL l lo hi).take k).length) c), (11, .int .i64 (l.press + 1)), (12, .int .i64 (k : Int))] ∧ Mem w noEx wc ((g3, .cells [.int .i64 hi.t0, .int .i64 hi.t1, .int .i64 hi.s0, .int .i64 hi.s1]) :: (g2, .cells [.int .i64 lo.t0, .int .i64 lo.t1, .int .i64 lo.s0, .int .i64 lo.s1]) :: I)) ?_ ?_
 ·exact ⟨_, 0, none, 0, [], rfl, (by omega), (by simp), (Sl.nil _ _), T.pick [4, 3, 2, 1, 0] rfl, M.mask [true, true] rfl⟩
 clear T M
 rintro mz ac wc ⟨k, A, c, I, hmm1, hk, hlk, hsl, T, M⟩
 refine Zsr ?_
 refine lq T (rn_lss rfl (T.e 4 rfl) (T.e 3 rfl)) ?_; clear T ac; intro ac T
 refine Zln ?_
 refine wp_seq ?_
 refine wp_if (T.e 0 rfl) ?_ ?_
 ·intro h1
  have hb := beatP_bd gl gh (p := (k : Int)) (by omega)
  have hb2 : (beatP lo hi (k : Int)).1 = hi.t0 + (riseP lo hi (k : Int)).1 ∧ (beatP lo hi (k : Int)).2 = hi.t1 + (riseP lo hi (k : Int)).2 := ⟨rfl, rfl⟩
  refine Zsk ?_
  refine wp_seq ?_
  refine wp_block ?_
  refine Zsr ?_
  refine Zg2 T (Zq (Zrm rfl (T.e 5 rfl))) rfl (Za 0 rfl rfl) rfl ?_; clear T ac; intro ac T
  replace T := T.pick [0, 3, 4, 5, 6, 7] rfl
  refine Zln ?_
  refine Zgs M (M.perm [0, 1] rfl rfl) 11 (by kernel_rfl) rfl (by kernel_rfl) ?_
  clear M; intro wc M
  refine gq T 0 1 rfl (fun _ _ _ _ _ => (Zrm rfl (T.e 3 rfl))) ?_; clear T ac; intro ac T
  refine gq (v := (.pointer (some ⟨g3, 0, none⟩))) T 1 3 rfl (fun _ _ _ _ _ => (Zrf (off := 0) rfl (T.e 3 rfl) (fun _ _ _ => by kernel_rfl))) ?_; clear T ac; intro ac T
  refine gq T 2 7 rfl (fun B w' hD hl hS => (Zrr (Mem.nth (show Mem w noEx w' _ from hS) 0 rfl) rfl (T.e 0 rfl) rfl)) ?_; clear T ac; intro ac T
  refine gq T 3 15 rfl (fun B w' hD hl hS => (Zrr (Mem.nth (show Mem w noEx w' _ from hS) 1 rfl) rfl (T.e 4 rfl) rfl)) ?_; clear T ac; intro ac T
  refine gq T 4 31 rfl (fun B w' hD hl hS => (Zrr (Mem.nth (show Mem w noEx w' _ from hS) 0 rfl) rfl (T.e 6 rfl) rfl)) ?_; clear T ac; intro ac T
  refine gq T 5 63 rfl (fun _ _ _ _ _ => (Zrm rfl (T.e 5 rfl))) ?_; clear T ac; intro ac T
  refine gw 6 127 ?_; intro K hK
  refine Zoc (first := []) (cap := []) T rfl rfl rfl rfl evf (.cons (T.e 2 rfl) (.cons (T.e 1 rfl) (.cons (T.e 0 rfl) .nil))) Try.func32 rfl rfl ?_
  refine Calls.mono (rise_any lo hi (k : Int) _ gl gh (by (try dsimp only); omega)) ?_
  clear T; rintro e wc ⟨rfl, hb⟩ ac T
  replace M := M.call hb; clear hb
  refine Zso hK _ _ (M.perm [0, 1] rfl rfl) ?_; clear hK K
  refine gw 7 255 ?_; intro K hK
  refine Zoc (first := []) (cap := []) T rfl rfl rfl rfl evf (.cons (T.e 4 rfl) (.cons (T.e 0 rfl) .nil)) Try.func31 rfl rfl ?_
  refine Calls.mono (vplus_any hi.t0 hi.t1 ((riseP lo hi (k : Int)).1) ((riseP lo hi (k : Int)).2) _ (by omega) (by omega) (by omega) (by omega)) ?_
  clear T; rintro e wc ⟨rfl, hb⟩ ac T
  replace M := M.call hb; clear hb
  refine Zso hK _ _ (M.perm [0, 1] rfl rfl) ?_; clear hK K
  refine gw 8 511 ?_; intro K hK
  refine ow_bs (e := 29) [.int .i64 (hi.t0 + ((riseP lo hi (k : Int)).1)), .int .i64 (hi.t1 + ((riseP lo hi (k : Int)).2))] M T rfl rfl rfl rfl (.cons (T.e 0 rfl) .nil) (fun _ => by kernel_rfl) ?_; clear M T; intro g4 wc ac M T
  refine Zso hK _ _ (M.perm [1, 2] rfl rfl) ?_; clear hK K
  refine gw 9 1023 ?_; intro K hK
  refine ow_app ([(g4, .cells [.int .i64 (hi.t0 + ((riseP lo hi (k : Int)).1)), .int .i64 (hi.t1 + ((riseP lo hi (k : Int)).2))]), (g3, .cells [.int .i64 hi.t0, .int .i64 hi.t1, .int .i64 hi.s0, .int .i64 hi.s1]), (g2, .cells [.int .i64 lo.t0, .int .i64 lo.t1, .int .i64 lo.s0, .int .i64 lo.s1])]) Try.info29 hsl M (by first | rfl | simp) T rfl rfl rfl rfl Try.underlying36 rfl rfl rfl (by omega) (T.e 8 rfl) (T.e 0 rfl) (Zne (i := 0) rfl) rfl rfl ?_; clear M T; intro ga1 cga1 wc ac M T
  refine Zso hK _ _ (M.mask [false, false, true, true] rfl) ?_; clear hK K
  refine g_q (v := (.slice (some ⟨ga1, 0, none⟩) (((beatsL l lo hi).take k).length + 1) cga1)) (T := T.pick [0, 1, 2, 3, 4, 5, 6, 7, 8, 9, 10, 11, 12, 14, 15] rfl) (i := 10) rfl (by kernel_rfl) (by kernel_rfl : (Zpb 11 1023).setIfInBounds 10 true = Zpb 11 2047) si_U (fun _ _ _ h => h) rfl rfl rfl rfl (fun _ _ _ _ _ => (Zra rfl (T.e 0 rfl))) ?_; clear T ac; intro ac T
  refine Zgd (by kernel_rfl) ?_
  replace T := T.pick [0, 12, 13, 14, 15] rfl
  replace M := M.mask [true, false, true, true] rfl
  refine Znb ?_
  refine nm_then ?_
  refine wp_region_lit ?_
  refine lq T (rn_add rfl (T.e 4 rfl) evc (by omega)) ?_; clear T ac; intro ac T
  refine l_q (v := (.int .i64 ((k : Int) + 1))) (T.pick [0, 1, 2, 3, 4] rfl) rfl rfl rfl rfl (Zrm rfl (T.e 0 rfl)) ?_; clear T ac; intro ac T
  replace T := T.pick [0, 2, 3, 4, 5] rfl
  refine Zln ?_
  have e9 : ((beatsL l lo hi).take k).length + 1 = ((beatsL l lo hi).take (k + 1)).length := by rw [beatsL_take (by omega), List.length_append]; rfl
  have e8 : ((rc ((beatsL l lo hi).take k)) ++ [.int .i64 (hi.t0 + ((riseP lo hi (k : Int)).1)), .int .i64 (hi.t1 + ((riseP lo hi (k : Int)).2))]) = rc ((beatsL l lo hi).take (k + 1)) := by rw [beatsL_take (by omega), ← rc_snoc]; rfl
  rw [e9, e8] at M
  rw [e9] at T
  clear e9 e8
  exact ⟨_, by omega, k + 1, _, cga1, [(ga1, .row 29 2 ((beatsL l lo hi).take (k + 1)).length (rc ((beatsL l lo hi).take (k + 1))) cga1)], rfl, (by omega), (by rw [List.length_take, beatsL_length]; omega), (Sl.row _ _ _ _ _ _), T.pick [2, 3, 1, 4, 0] rfl, M.perm [1, 2, 0] rfl rfl⟩
 intro h1
 refine wp_exit ?_
 refine Zet ?_
 refine Zet ?_
 refine ex_hit ?_
 refine nm_then ?_
 refine Zsr ?_
 refine Zg2 T (Zq (Zrm rfl (T.e 3 rfl))) rfl (Za 0 rfl rfl) rfl ?_; clear T ac; intro ac T
 refine wpList_nil ?_
 replace T := T.pick [0] rfl
 replace M := M.mask [false, false] rfl
 refine Znr ?_
 refine rt_1 T rfl (T.e 0 rfl) ?_
 have e9 : (beatsL l lo hi).take k = beatsL l lo hi := List.take_of_length_le (by rw [beatsL_length]; omega)
 rw [e9] at hsl ⊢
 exact ⟨A, c, I, rfl, hsl, M.mask [] rfl⟩
theorem Sl.spV {e n c size : Nat} {A : Option Addr} {xs : List Value} {I : List (Nat × BA)} (h : Sl e size (.slice A n c) n xs I) (hl : xs.length = n * size) : ∃ b o, ∀ (w : World) (ex : Nat → Prop), Sp w ex I A n size b o xs := by
 rcases h with ⟨h1, rfl, rfl, rfl⟩ | ⟨g, cap, h1, rfl⟩
 ·exact ⟨0, 0, fun w ex => Sp.nil⟩
 ·injection h1 with h1 _ h2
  subst h1
  exact ⟨g, 0, fun w ex => Sp.row (by omega)⟩
structure Bx where
 first : Int
 step : Int
 span : Int
 press : Int
 note : Int
 lows : List Snd
 highs : List Snd
 t0 : Int
 t1 : Int
 r0 : Int
 r1 : Int
 u0 : Int
 u1 : Int
 d0 : Int
 d1 : Int
 a0 : Int
 a1 : Int
 b0 : Int
 b1 : Int
 le : Int
 me : Int
abbrev Bx.law (b : Bx) : Lw := ⟨b.first, b.step, b.span, b.press⟩
def Bx.due (b : Bx) : Int := b.first + b.step * b.note
abbrev bxV (b : Bx) (A : Option Addr) (c : Nat) (B : Option Addr) (d : Nat) : Value := .agg #[.int .i64 b.first, .int .i64 b.step, .int .i64 b.span, .int .i64 b.press, .int .i64 b.note, .slice A b.lows.length c, .slice B b.highs.length d, .int .i64 b.t0, .int .i64 b.t1, .int .i64 b.r0, .int .i64 b.r1, .int .i64 b.u0, .int .i64 b.u1, .int .i64 b.d0, .int .i64 b.d1, .int .i64 b.a0, .int .i64 b.a1, .int .i64 b.b0, .int .i64 b.b1, .int .i64 b.le, .int .i64 b.me]
def blankJ (b : Bx) : Jb := { p0 := 0, p1 := 0, t0 := b.t0, t1 := b.t1, r0 := b.r0, r1 := b.r1, u0 := b.u0, u1 := b.u1, d0 := b.d0, d1 := b.d1, a0 := b.a0, a1 := b.a1, b0 := b.b0, b1 := b.b1, le := b.le, sh := [], wi := b.span, me := b.me }
def checkB (b : Bx) : Int :=
 if lawE b.law ≠ 0 then lawE b.law else if ¬ ((0 ≤ b.note ∧ b.note ≤ 11) ∧ 0 ≤ b.due ∧ b.due ≤ 30) then 1 else if sndsE b.lows 4 ≠ 0 then sndsE b.lows 4 else if sndsE b.highs 5 ≠ 0 then sndsE b.highs 5 else checkJ (blankJ b)
structure Bx.good (b : Bx) : Prop where
 law : b.law.good
 note : 0 ≤ b.note ∧ b.note ≤ 11
 due : 0 ≤ b.due ∧ b.due ≤ 30
 lows : b.lows.length ≤ 4 ∧ ∀ x ∈ b.lows, x.good
 highs : b.highs.length ≤ 5 ∧ ∀ x ∈ b.highs, x.good
 job : checkJ (blankJ b) = 0
theorem checkB_good {b : Bx} : checkB b = 0 ↔ b.good := by
 unfold checkB
 constructor
 ·intro h
  split at h
  ·contradiction
  ·split at h
   ·omega
   ·split at h
    ·contradiction
    ·split at h
     ·contradiction
     ·rename_i h1 h2 h3 h4
      simp only [ne_eq, Decidable.not_not] at h1 h2 h3 h4
      have k3 := sndsE_good h3
      have k4 := sndsE_good h4
      exact ⟨lawE_good h1, h2.1, h2.2, ⟨by omega, k3.2⟩, ⟨by omega, k4.2⟩, h⟩
 ·rintro ⟨h1, h2, h3, h4, h5, h6⟩
  have k1 := good_lawE h1
  rw [if_neg (by simp [k1]), if_neg (by simp [h2, h3]), if_neg (by simp [good_sndsE (most := 4) (by omega) h4.2]), if_neg (by simp [good_sndsE (most := 5) (by omega) h5.2])]
  exact h6
def checkPB (b : Bx) (i k : Int) : Int := if checkB b ≠ 0 then checkB b else if ¬ ((0 ≤ i ∧ i < b.lows.length) ∧ 0 ≤ k ∧ k < b.highs.length) then 3 else 0
theorem checkPB_good {b : Bx} {i k : Int} (h : checkPB b i k = 0) : b.good ∧ (0 ≤ i ∧ i < b.lows.length) ∧ 0 ≤ k ∧ k < b.highs.length := by
 unfold checkPB at h
 split at h
 ·contradiction
 ·split at h
  ·omega
  ·rename_i h1 h2
   exact ⟨checkB_good.1 (by simpa using h1), by omega, by omega⟩
def Bx.low (b : Bx) (i : Int) : Snd := b.lows.getD i.toNat ⟨0, 0, 0, 0⟩
def Bx.high (b : Bx) (i : Int) : Snd := b.highs.getD i.toNat ⟨0, 0, 0, 0⟩
theorem Bx.low_get {b : Bx} {i : Int} (h : 0 ≤ i ∧ i < b.lows.length) : b.lows[i.toNat]? = some (b.low i) := by
 unfold Bx.low
 rw [List.getD_eq_getElem?_getD, List.getElem?_eq_getElem (by omega)]
 rfl
theorem Bx.high_get {b : Bx} {i : Int} (h : 0 ≤ i ∧ i < b.highs.length) : b.highs[i.toNat]? = some (b.high i) := by
 unfold Bx.high
 rw [List.getD_eq_getElem?_getD, List.getElem?_eq_getElem (by omega)]
 rfl
def beatE (b : Bx) (i k : Int) : List (Int × Int) := if checkPB b i k = 0 then beatsL b.law (b.low i) (b.high k) else []
theorem blank_any (b : Bx) (A : Option Addr) (c : Nat) (B : Option Addr) (d : Nat) (w : World)  :
  Calls Try.prog 39 #[bxV b A c B d] w fun e w' => e = .returned (jobV (blankJ b) none 0) ∧ Below w.heap.size w w' := by
 refine Zpx noEx Try.func39 rfl 23 rfl [.agg #[.int .i64 b.first, .int .i64 b.step, .int .i64 b.span, .int .i64 b.press, .int .i64 b.note, .slice A b.lows.length c, .slice B b.highs.length d, .int .i64 b.t0, .int .i64 b.t1, .int .i64 b.r0, .int .i64 b.r1, .int .i64 b.u0, .int .i64 b.u1, .int .i64 b.d0, .int .i64 b.d1, .int .i64 b.a0, .int .i64 b.a1, .int .i64 b.b0, .int .i64 b.b1, .int .i64 b.le, .int .i64 b.me]] rfl rfl (Mem.init w _) ?_
 intro ac wc T M
 refine Zsr ?_
 refine Zl2 ?_
 refine Zob M T rfl rfl rfl rfl (T.e 0 rfl) rfl ?_; clear M T; intro g1 wc ac M T
 refine Zl2 ?_
 refine Zoa M T rfl rfl rfl rfl ?_; clear M T; intro g2 wc ac M T
 replace T := T.pick [0, 1] rfl
 refine Zln ?_
 refine Zsr ?_
 refine Zl2 ?_
 refine Zoa M T rfl rfl rfl rfl ?_; clear M T; intro g3 wc ac M T
 refine Zln ?_
 refine wp_seq ?_
 refine Zgs M (M.perm [1, 2] rfl rfl) 23 (by kernel_rfl) rfl (by kernel_rfl) ?_
 clear M; intro wc M
 refine g_addG 13 M ?_
 refine gq (v := (.pointer (some ⟨g1, 7, none⟩))) T 0 1 rfl (fun _ _ _ _ _ => (Zrf (off := 7) rfl (T.e 2 rfl) (fun _ _ _ => by kernel_rfl))) ?_; clear T ac; intro ac T
 refine gq T 1 3 rfl (fun B w' hD hl hS => (Zrr (Mem.nth (show Mem w noEx w' _ from ((MA.lft hS) (hD.wait (i := 1) (m := 13) (by kernel_rfl) hl))) 2 rfl) rfl (T.e 0 rfl) rfl)) ?_; clear T ac; intro ac T
 refine gq (v := (.pointer (some ⟨g1, 9, none⟩))) T 2 7 rfl (fun _ _ _ _ _ => (Zrf (off := 9) rfl (T.e 4 rfl) (fun _ _ _ => by kernel_rfl))) ?_; clear T ac; intro ac T
 refine gq T 3 15 rfl (fun B w' hD hl hS => (Zrr (Mem.nth (show Mem w noEx w' _ from (MA.rgt hS)) 1 rfl) rfl (T.e 0 rfl) rfl)) ?_; clear T ac; intro ac T
 refine gq (v := (.pointer (some ⟨g1, 11, none⟩))) T 4 31 rfl (fun _ _ _ _ _ => (Zrf (off := 11) rfl (T.e 6 rfl) (fun _ _ _ => by kernel_rfl))) ?_; clear T ac; intro ac T
 refine gq T 5 63 rfl (fun B w' hD hl hS => (Zrr (Mem.nth (show Mem w noEx w' _ from (MA.rgt hS)) 1 rfl) rfl (T.e 0 rfl) rfl)) ?_; clear T ac; intro ac T
 refine gq (v := (.pointer (some ⟨g1, 20, none⟩))) T 6 127 rfl (fun _ _ _ _ _ => (Zrf (off := 20) rfl (T.e 8 rfl) (fun _ _ _ => by kernel_rfl))) ?_; clear T ac; intro ac T
 refine gq T 7 255 rfl (fun B w' hD hl hS => (Zro (Mem.nth (show Mem w noEx w' _ from (MA.rgt hS)) 1 rfl) rfl (T.e 0 rfl) rfl)) ?_; clear T ac; intro ac T
 refine gq (v := (.pointer (some ⟨g1, 0, none⟩))) T 8 511 rfl (fun _ _ _ _ _ => (Zrf (off := 0) rfl (T.e 10 rfl) (fun _ _ _ => by kernel_rfl))) ?_; clear T ac; intro ac T
 refine gq (v := (.pointer (some ⟨g1, 2, none⟩))) T 9 1023 rfl (fun _ _ _ _ _ => (Zrf (off := 2) rfl (T.e 0 rfl) (fun _ _ _ => by kernel_rfl))) ?_; clear T ac; intro ac T
 refine gq T 10 2047 rfl (fun B w' hD hl hS => (Zro (Mem.nth (show Mem w noEx w' _ from (MA.rgt hS)) 1 rfl) rfl (T.e 0 rfl) rfl)) ?_; clear T ac; intro ac T
 refine gq (v := (.pointer (some ⟨g3, 0, none⟩))) T 11 4095 rfl (fun _ _ _ _ _ => (Zrf (off := 0) rfl (T.e 11 rfl) (fun _ _ _ => by kernel_rfl))) ?_; clear T ac; intro ac T
 refine gq (v := (.pointer (some ⟨g3, 2, none⟩))) T 12 8191 rfl (fun _ _ _ _ _ => (Zrf (off := 2) rfl (T.e 0 rfl) (fun _ _ _ => by kernel_rfl))) ?_; clear T ac; intro ac T
 refine gw 13 16383 ?_; intro K hK
 refine Zos M T rfl rfl (T.e 0 rfl) (T.e 11 rfl) rfl .head rfl (by simp) rfl (by kernel_rfl) ?_; clear M T; intro wc ac M T
 refine Zso hK _ _ (MA.mk (fun h => (no_of (by kernel_rfl) h).elim) (M.mask [false, true, true] rfl)) ?_; clear hK K
 refine gq (v := (.pointer (some ⟨g3, 0, none⟩))) T 14 32767 rfl (fun _ _ _ _ _ => (Zrf (off := 0) rfl (T.e 13 rfl) (fun _ _ _ => by kernel_rfl))) ?_; clear T ac; intro ac T
 refine gq (v := (.pointer (some ⟨g3, 4, none⟩))) T 15 65535 rfl (fun _ _ _ _ _ => (Zrf (off := 4) rfl (T.e 0 rfl) (fun _ _ _ => by kernel_rfl))) ?_; clear T ac; intro ac T
 refine gw 16 131071 ?_; intro K hK
 refine Zos M T rfl rfl (T.e 0 rfl) (T.e 11 rfl) rfl .head rfl (by simp) rfl (by kernel_rfl) ?_; clear M T; intro wc ac M T
 refine Zso hK _ _ (MA.mk (fun h => (no_of (by kernel_rfl) h).elim) (M.mask [false, true, true] rfl)) ?_; clear hK K
 refine gq (v := (.pointer (some ⟨g3, 6, none⟩))) T 17 262143 rfl (fun _ _ _ _ _ => (Zrf (off := 6) rfl (T.e 15 rfl) (fun _ _ _ => by kernel_rfl))) ?_; clear T ac; intro ac T
 refine gw 18 524287 ?_; intro K hK
 refine Zos M T rfl rfl (T.e 0 rfl) (T.e 10 rfl) rfl .head rfl (by simp) rfl (by kernel_rfl) ?_; clear M T; intro wc ac M T
 refine Zso hK _ _ (MA.mk (fun h => (no_of (by kernel_rfl) h).elim) (M.mask [false, true, true] rfl)) ?_; clear hK K
 refine gq (v := (.pointer (some ⟨g3, 17, none⟩))) T 19 1048575 rfl (fun _ _ _ _ _ => (Zrf (off := 17) rfl (T.e 16 rfl) (fun _ _ _ => by kernel_rfl))) ?_; clear T ac; intro ac T
 refine gw 20 2097151 ?_; intro K hK
 refine Zos M T rfl rfl (T.e 0 rfl) (T.e 9 rfl) rfl .head rfl (by simp) rfl (by kernel_rfl) ?_; clear M T; intro wc ac M T
 refine Zso hK _ _ (MA.mk (fun h => (no_of (by kernel_rfl) h).elim) (M.mask [false, true, true] rfl)) ?_; clear hK K
 refine gq (v := (.pointer (some ⟨g3, 16, none⟩))) T 21 4194303 rfl (fun _ _ _ _ _ => (Zrf (off := 16) rfl (T.e 17 rfl) (fun _ _ _ => by kernel_rfl))) ?_; clear T ac; intro ac T
 refine gw 22 8388607 ?_; intro K hK
 refine Zos M T rfl rfl (T.e 0 rfl) (T.e 7 rfl) rfl .head rfl (by simp) rfl (by kernel_rfl) ?_; clear M T; intro wc ac M T
 refine Zso hK _ _ (MA.mk (fun h => (no_of (by kernel_rfl) h).elim) (M.mask [false, true, true] rfl)) ?_; clear hK K
 refine Zgd (by kernel_rfl) ?_
 replace T := T.pick [18, 19] rfl
 replace M := M.mask [true, true, false] rfl
 refine nm_then ?_
 refine Zsr ?_
 refine lq T (Zrr (Mem.nth M 0 rfl) rfl (T.e 0 rfl) rfl) ?_; clear T ac; intro ac T
 refine Zl2 ?_
 refine Zos M T rfl rfl (T.e 2 rfl) (T.e 0 rfl) rfl (.tail .head) rfl (by simp) rfl (by kernel_rfl) ?_; clear M T; intro wc ac M T
 refine wpList_nil ?_
 replace T := T.pick [2] rfl
 replace M := M.mask [false, true] rfl
 refine Znr ?_
 refine rt_c M T rfl (T.e 0 rfl) (Zne (i := 0) rfl) rfl ?_
 exact ⟨rfl, M.below⟩
theorem vCheck_any (b : Bx) (A : Option Addr) (c : Nat) (B : Option Addr) (d : Nat) (w : World) (hA : Rd w w.heap.size 4 A b.lows.length (sc b.lows)) (hB : Rd w w.heap.size 4 B b.highs.length (sc b.highs)) (nA : b.lows.length ≤ 1000000) (nB : b.highs.length ≤ 1000000)  :
   Calls Try.prog 29 #[bxV b A c B d] w fun e w' => e = .returned (.int .i64 (checkB b)) ∧ Below w.heap.size w w' := by
 have hlA := hA.len4
 have hlB := hB.len4
 obtain ⟨bA, oA, SA⟩ := Sp.old hA
 obtain ⟨bB, oB, SB⟩ := Sp.old hB
 refine Zpx noEx Try.func29 rfl 40 rfl [.agg #[.int .i64 b.first, .int .i64 b.step, .int .i64 b.span, .int .i64 b.press, .int .i64 b.note, .slice A b.lows.length c, .slice B b.highs.length d, .int .i64 b.t0, .int .i64 b.t1, .int .i64 b.r0, .int .i64 b.r1, .int .i64 b.u0, .int .i64 b.u1, .int .i64 b.d0, .int .i64 b.d1, .int .i64 b.a0, .int .i64 b.a1, .int .i64 b.b0, .int .i64 b.b1, .int .i64 b.le, .int .i64 b.me]] rfl rfl (Mem.init w _) ?_
 intro ac wc T M
 refine Zsr ?_
 refine Zl2 ?_
 refine Zob M T rfl rfl rfl rfl (T.e 0 rfl) rfl ?_; clear M T; intro g1 wc ac M T
 refine lq T (Zra rfl evc) ?_; clear T ac; intro ac T
 replace T := T.pick [1] rfl
 refine Zln ?_
 refine wp_seq ?_
 refine Zsr ?_
 refine Zg2 (v1 := (.pointer (some ⟨g1, 0, none⟩))) T (Zq (Zrf (off := 0) rfl (T.e 0 rfl) (fun _ _ _ => by kernel_rfl))) rfl (Zr M 0 0 rfl rfl rfl rfl) rfl ?_; clear T ac; intro ac T
 refine Zl2 ?_
 refine Zoc (first := []) (cap := []) T rfl rfl rfl rfl evf (.cons (T.e 0 rfl) .nil) Try.func35 rfl rfl ?_
 refine Calls.mono (checkLaw_any b.law _) ?_
 clear T; rintro e wc ⟨rfl, hb⟩ ac T
 replace M := M.call hb; clear hb
 refine lq T (Zra rfl (T.e 0 rfl)) ?_; clear T ac; intro ac T
 replace T := T.pick [0, 4] rfl
 refine Zln ?_
 refine Zsr ?_
 refine Zg2 T (Zq (Zrm rfl (T.e 0 rfl))) rfl (fun _ T => Zq (rn_neq rfl (T.e 0 rfl) evc)) rfl ?_; clear T ac; intro ac T
 replace T := T.pick [0, 2, 3] rfl
 refine Zln ?_
 refine wp_ifn (T.e 0 rfl) ?_ ?_
 ·intro h1
  refine Zsr ?_
  refine Zg2 T (Zq (Zrm rfl (T.e 1 rfl))) rfl (Za 0 rfl rfl) rfl ?_; clear T ac; intro ac T
  refine wpList_nil ?_
  replace T := T.pick [0] rfl
  replace M := M.mask [false] rfl
  refine Znr ?_
  refine Zrt ?_
  refine rt_1 T rfl (T.e 0 rfl) ?_
  refine ⟨ret_int ?_, M.below⟩
  unfold checkB
  first | (simp_all [withinB, Bx.due]; done) | (simp_all [withinB, Bx.due]; omega)
 intro h1
 have gl := lawE_good (l := b.law) (by simpa using h1)
 obtain ⟨gl1, gl2, gl3, gl4⟩ := gl
 dsimp only at gl1 gl2 gl3 gl4
 refine Zsk ?_
 refine wp_seq ?_
 refine cut_seq (fun ac wc => Tm ac 40 [(1, .pointer (some ⟨g1, 0, none⟩)), (24, .bool ((!(withinB b.note 0 11)) || (!(withinB (b.first + b.step * b.note) 0 30))))] ∧ Mem w noEx wc [(g1, .cells [.int .i64 b.first, .int .i64 b.step, .int .i64 b.span, .int .i64 b.press, .int .i64 b.note, .slice A b.lows.length c, .slice B b.highs.length d, .int .i64 b.t0, .int .i64 b.t1, .int .i64 b.r0, .int .i64 b.r1, .int .i64 b.u0, .int .i64 b.u1, .int .i64 b.d0, .int .i64 b.d1, .int .i64 b.a0, .int .i64 b.a1, .int .i64 b.b0, .int .i64 b.b1, .int .i64 b.le, .int .i64 b.me])]) ?_ ?_
 ·refine wp_region_lit ?_
  refine Zg2 (v1 := (.pointer (some ⟨g1, 4, none⟩))) T (Zq (Zrf (off := 4) rfl (T.e 2 rfl) (fun _ _ _ => by kernel_rfl))) rfl (Zo M 0 0 rfl rfl rfl rfl) rfl ?_; clear T ac; intro ac T
  refine Zl2 ?_
  refine Zoc (first := []) (cap := []) T rfl rfl rfl rfl evf (.cons (T.e 0 rfl) (.cons evc (.cons evc .nil))) Try.func30 rfl rfl ?_
  refine Calls.mono (vwithin_any b.note 0 11 _) ?_
  clear T; rintro e wc ⟨rfl, hb⟩ ac T
  replace M := M.call hb; clear hb
  refine Zg2 T (Zq (rn_not rfl (T.e 0 rfl))) rfl (Zm 0 rfl rfl) rfl ?_; clear T ac; intro ac T
  rcases Bool.eq_false_or_eq_true (!(withinB b.note 0 11)) with h2 | h2
  ·have hn9 := h2
   refine Zg8 T (Zp (Zwn rfl rfl (T.e 0 rfl) h2)) rfl (fun _ T => Zp (Zwn rfl rfl (T.e 1 rfl) h2)) rfl (fun _ T => Zp (Zwn rfl rfl (T.e 2 rfl) h2)) rfl (fun _ T => Zp (Zwn rfl rfl (T.e 3 rfl) h2)) rfl (fun _ T => Zp (Zwn rfl rfl (T.e 4 rfl) h2)) rfl (fun _ T => Zp (Zwn rfl rfl (T.e 5 rfl) h2)) rfl (fun _ T => Zp (Zwn rfl rfl (T.e 6 rfl) h2)) rfl (fun _ T => Zq (Zr1 rfl (T.e 7 rfl) h2 evc)) rfl ?_; clear T ac; intro ac T
   refine wpList_nil ?_
   replace T := T.pick [0, 15] rfl
   exact ⟨(T.pick (E' := [(1, .pointer (some ⟨g1, 0, none⟩)), (24, .bool true)]) [1, 0] rfl).as (by (try rw [show (!(withinB b.note 0 11)) = true from h2]); (try rfl)), M.mask [true] rfl⟩
  have hn9 : 0 ≤ b.note ∧ b.note ≤ 11 := by unfold withinB at h2; simpa using h2
  refine Zg4 (v1 := (.pointer (some ⟨g1, 0, none⟩))) (v3 := (.pointer (some ⟨g1, 4, none⟩))) T (Zw (Zwy rfl rfl (T.e 0 rfl) h2) (Zrf (off := 0) rfl (T.e 7 rfl) (fun _ _ _ => by kernel_rfl))) rfl (fun _ T => Zw (Zwy rfl rfl (T.e 1 rfl) h2) (Zrr (Mem.nth M 0 rfl) rfl (T.e 0 rfl) rfl)) rfl (fun _ T => Zw (Zwy rfl rfl (T.e 2 rfl) h2) (Zrf (off := 4) rfl (T.e 9 rfl) (fun _ _ _ => by kernel_rfl))) rfl (fun _ T => Zw (Zwy rfl rfl (T.e 3 rfl) h2) (Zro (Mem.nth M 0 rfl) rfl (T.e 0 rfl) rfl)) rfl ?_; clear T ac; intro ac T
  refine l_w (Zwy rfl rfl (T.e 4 rfl) h2) ?_; intro K hK
  refine Zoc (first := []) (cap := []) T rfl rfl rfl rfl evf (.cons (T.e 2 rfl) (.cons (T.e 0 rfl) .nil)) Try.func36 rfl rfl ?_
  refine Calls.mono (vdue_any b.law b.note _ (by (try dsimp only); omega) (by (try dsimp only); omega) (by (try dsimp only); omega)) ?_
  clear T; rintro e wc ⟨rfl, hb⟩ ac T
  replace M := M.call hb; clear hb
  refine Zso hK _ _ ?_; clear hK K
  refine l_w (Zwy rfl rfl (T.e 5 rfl) h2) ?_; intro K hK
  refine Zoc (first := []) (cap := []) T rfl rfl rfl rfl evf (.cons (T.e 0 rfl) (.cons evc (.cons evc .nil))) Try.func30 rfl rfl ?_
  refine Calls.mono (vwithin_any (b.first + b.step * b.note) 0 30 _) ?_
  clear T; rintro e wc ⟨rfl, hb⟩ ac T
  replace M := M.call hb; clear hb
  refine Zso hK _ _ ?_; clear hK K
  refine Zg2 T (Zw (Zwy rfl rfl (T.e 6 rfl) h2) (rn_not rfl (T.e 0 rfl))) rfl (fun _ T => Zq (Zr0 rfl (T.e 7 rfl) h2 (T.e 0 rfl))) rfl ?_; clear T ac; intro ac T
  refine wpList_nil ?_
  replace T := T.pick [0, 15] rfl
  exact ⟨(T.pick (E' := [(1, .pointer (some ⟨g1, 0, none⟩)), (24, .bool (!(withinB (b.first + b.step * b.note) 0 30)))]) [1, 0] rfl).as (by (try rw [show (!(withinB b.note 0 11)) = false from h2]); (try rfl)), M.mask [true] rfl⟩
 clear T M
 rintro ac wc ⟨T, M⟩
 refine wp_cond_split (T.e 1 rfl) ?_ ?_
 ·intro h3
  (have h3' := h3; try simp only [Zb1, Zb2, Zb3, Zb4, Zb5, Zb6, Zb7] at h3')
  refine Zsr ?_
  refine lq T (Zra rfl evc) ?_; clear T ac; intro ac T
  refine wpList_nil ?_
  replace T := T.pick [0] rfl
  replace M := M.mask [false] rfl
  refine Znr ?_
  refine Zrt ?_
  refine rt_1 T rfl (T.e 0 rfl) ?_
  refine ⟨ret_int ?_, M.below⟩
  unfold checkB
  first | (simp_all [withinB, Bx.due]; done) | (simp_all [withinB, Bx.due]; omega)
 intro h3
 (have h3' := h3; try simp only [Zb1, Zb2, Zb3, Zb4, Zb5, Zb6, Zb7] at h3')
 refine Zsk ?_
 refine wp_seq ?_
 refine Zsr ?_
 refine Zg2 (v1 := (.pointer (some ⟨g1, 5, none⟩))) T (Zq (Zrf (off := 5) rfl (T.e 0 rfl) (fun _ _ _ => by kernel_rfl))) rfl (Zo M 0 0 rfl rfl rfl rfl) rfl ?_; clear T ac; intro ac T
 refine Zl2 ?_
 refine Zoc (first := []) (cap := []) T rfl rfl rfl rfl evf (.cons (T.e 0 rfl) (.cons evc .nil)) Try.func37 rfl rfl ?_
 refine Calls.mono (checkSounds_any _ _ _ b.lows 4 _ (SA.rd M (Zz9 _)) (by first | omega | (simp only [List.length_cons, List.length_nil]; omega))) ?_
 clear T; rintro e wc ⟨rfl, hb⟩ ac T
 replace M := M.call hb; clear hb
 refine lq T (Zra rfl (T.e 0 rfl)) ?_; clear T ac; intro ac T
 replace T := T.pick [0, 4] rfl
 refine Zln ?_
 refine Zsr ?_
 refine Zg2 T (Zq (Zrm rfl (T.e 0 rfl))) rfl (fun _ T => Zq (rn_neq rfl (T.e 0 rfl) evc)) rfl ?_; clear T ac; intro ac T
 replace T := T.pick [0, 2, 3] rfl
 refine Zln ?_
 refine wp_ifn (T.e 0 rfl) ?_ ?_
 ·intro h4
  refine Zsr ?_
  refine Zg2 T (Zq (Zrm rfl (T.e 1 rfl))) rfl (Za 0 rfl rfl) rfl ?_; clear T ac; intro ac T
  refine wpList_nil ?_
  replace T := T.pick [0] rfl
  replace M := M.mask [false] rfl
  refine Znr ?_
  refine Zrt ?_
  refine rt_1 T rfl (T.e 0 rfl) ?_
  refine ⟨ret_int ?_, M.below⟩
  unfold checkB
  first | (simp_all [withinB, Bx.due]; done) | (simp_all [withinB, Bx.due]; omega)
 intro h4
 refine Zsk ?_
 refine wp_seq ?_
 refine Zsr ?_
 refine Zg2 (v1 := (.pointer (some ⟨g1, 6, none⟩))) T (Zq (Zrf (off := 6) rfl (T.e 2 rfl) (fun _ _ _ => by kernel_rfl))) rfl (Zo M 0 0 rfl rfl rfl rfl) rfl ?_; clear T ac; intro ac T
 refine Zl2 ?_
 refine Zoc (first := []) (cap := []) T rfl rfl rfl rfl evf (.cons (T.e 0 rfl) (.cons evc .nil)) Try.func37 rfl rfl ?_
 refine Calls.mono (checkSounds_any _ _ _ b.highs 5 _ (SB.rd M (Zz9 _)) (by first | omega | (simp only [List.length_cons, List.length_nil]; omega))) ?_
 clear T; rintro e wc ⟨rfl, hb⟩ ac T
 replace M := M.call hb; clear hb
 refine lq T (Zra rfl (T.e 0 rfl)) ?_; clear T ac; intro ac T
 replace T := T.pick [0, 6] rfl
 refine Zln ?_
 refine Zsr ?_
 refine Zg2 T (Zq (Zrm rfl (T.e 0 rfl))) rfl (fun _ T => Zq (rn_neq rfl (T.e 0 rfl) evc)) rfl ?_; clear T ac; intro ac T
 replace T := T.pick [0, 2, 3] rfl
 refine Zln ?_
 refine wp_ifn (T.e 0 rfl) ?_ ?_
 ·intro h5
  refine Zsr ?_
  refine Zg2 T (Zq (Zrm rfl (T.e 1 rfl))) rfl (Za 0 rfl rfl) rfl ?_; clear T ac; intro ac T
  refine wpList_nil ?_
  replace T := T.pick [0] rfl
  replace M := M.mask [false] rfl
  refine Znr ?_
  refine Zrt ?_
  refine rt_1 T rfl (T.e 0 rfl) ?_
  refine ⟨ret_int ?_, M.below⟩
  unfold checkB
  first | (simp_all [withinB, Bx.due]; done) | (simp_all [withinB, Bx.due]; omega)
 intro h5
 refine Zsk ?_
 refine Zsr ?_
 refine lq T (Zrr (Mem.nth M 0 rfl) rfl (T.e 2 rfl) rfl) ?_; clear T ac; intro ac T
 refine Zl2 ?_
 refine Zoc (first := []) (cap := []) T rfl rfl rfl rfl evf (.cons (T.e 0 rfl) .nil) Try.func39 rfl rfl ?_
 refine Calls.mono (blank_any b A c B d _) ?_
 clear T; rintro e wc ⟨rfl, hb⟩ ac T
 replace M := M.call hb; clear hb
 refine Zl2 ?_
 refine Zoc (first := []) (cap := []) T rfl rfl rfl rfl evf (.cons (T.e 0 rfl) .nil) Try.func38 rfl rfl ?_
 refine Calls.mono (check_any (blankJ b) none 0 _ Rd.empty (by show (0 : Nat) ≤ _; omega)) ?_
 clear T; rintro e wc ⟨rfl, hb⟩ ac T
 replace M := M.call hb; clear hb
 refine lq T (Zra rfl (T.e 0 rfl)) ?_; clear T ac; intro ac T
 refine wpList_nil ?_
 replace T := T.pick [0] rfl
 replace M := M.mask [false] rfl
 refine Znr ?_
 refine rt_1 T rfl (T.e 0 rfl) ?_
 refine ⟨ret_int ?_, M.below⟩
 unfold checkB
 first | (simp_all [withinB, Bx.due]; done) | (simp_all [withinB, Bx.due]; omega)
theorem vcheckPair_any (b : Bx) (A : Option Addr) (c : Nat) (B : Option Addr) (d : Nat) (i k : Int) (w : World) (hA : Rd w w.heap.size 4 A b.lows.length (sc b.lows)) (hB : Rd w w.heap.size 4 B b.highs.length (sc b.highs)) (nA : b.lows.length ≤ 1000000) (nB : b.highs.length ≤ 1000000)  :
   Calls Try.prog 15 #[bxV b A c B d, .int .i64 i, .int .i64 k] w fun e w' => e = .returned (.int .i64 (checkPB b i k)) ∧ Below w.heap.size w w' := by
 have hlA := hA.len4
 have hlB := hB.len4
 obtain ⟨bA, oA, SA⟩ := Sp.old hA
 obtain ⟨bB, oB, SB⟩ := Sp.old hB
 refine Zpx noEx Try.func15 rfl 29 rfl [.agg #[.int .i64 b.first, .int .i64 b.step, .int .i64 b.span, .int .i64 b.press, .int .i64 b.note, .slice A b.lows.length c, .slice B b.highs.length d, .int .i64 b.t0, .int .i64 b.t1, .int .i64 b.r0, .int .i64 b.r1, .int .i64 b.u0, .int .i64 b.u1, .int .i64 b.d0, .int .i64 b.d1, .int .i64 b.a0, .int .i64 b.a1, .int .i64 b.b0, .int .i64 b.b1, .int .i64 b.le, .int .i64 b.me], .int .i64 i, .int .i64 k] rfl rfl (Mem.init w _) ?_
 intro ac wc T M
 refine Zsr ?_
 refine Zl2 ?_
 refine Zob M T rfl rfl rfl rfl (T.e 0 rfl) rfl ?_; clear M T; intro g1 wc ac M T
 refine lq T (Zra rfl evc) ?_; clear T ac; intro ac T
 replace T := T.pick [1, 3, 4] rfl
 refine Zln ?_
 refine wp_seq ?_
 refine Zsr ?_
 refine lq T (Zrr (Mem.nth M 0 rfl) rfl (T.e 0 rfl) rfl) ?_; clear T ac; intro ac T
 refine Zl2 ?_
 refine Zoc (first := []) (cap := []) T rfl rfl rfl rfl evf (.cons (T.e 0 rfl) .nil) Try.func29 rfl rfl ?_
 refine Calls.mono (vCheck_any b _ _ _ _ _ (SA.rd M (Zz9 _)) (SB.rd M (Zz9 _)) (by omega) (by omega)) ?_
 clear T; rintro e wc ⟨rfl, hb⟩ ac T
 replace M := M.call hb; clear hb
 refine lq T (Zra rfl (T.e 0 rfl)) ?_; clear T ac; intro ac T
 replace T := T.pick [0, 3, 4, 5] rfl
 refine Zln ?_
 refine Zsr ?_
 refine Zg2 T (Zq (Zrm rfl (T.e 0 rfl))) rfl (fun _ T => Zq (rn_neq rfl (T.e 0 rfl) evc)) rfl ?_; clear T ac; intro ac T
 replace T := T.pick [0, 2, 3, 4, 5] rfl
 refine Zln ?_
 refine wp_ifn (T.e 0 rfl) ?_ ?_
 ·intro h1
  refine Zsr ?_
  refine Zg2 T (Zq (Zrm rfl (T.e 1 rfl))) rfl (Za 0 rfl rfl) rfl ?_; clear T ac; intro ac T
  refine wpList_nil ?_
  replace T := T.pick [0] rfl
  replace M := M.mask [false] rfl
  refine Znr ?_
  refine Zrt ?_
  refine rt_1 T rfl (T.e 0 rfl) ?_
  refine ⟨ret_int ?_, M.below⟩
  unfold checkPB
  first | (simp_all [withinB]; done) | (simp_all [withinB]; omega)
 intro h1
 refine Zsk ?_
 refine wp_seq ?_
 refine cut_seq (fun ac wc => Tm ac 29 [(28, .bool ((!(withinB i 0 (((b.lows.length : Nat) : Int) - 1))) || (!(withinB k 0 (((b.highs.length : Nat) : Int) - 1)))))] ∧ Mem w noEx wc []) ?_ ?_
 ·refine wp_region_lit ?_
  refine Zg5 (v2 := (.pointer (some ⟨g1, 5, none⟩))) T (Zq (Zrm rfl (T.e 3 rfl))) rfl (Zf 5 3 rfl rfl) rfl (Zo M 0 0 rfl rfl rfl rfl) rfl (Zl Try.underlying27 0 rfl rfl) rfl (fun _ T => Zq (rn_sub rfl (T.e 0 rfl) evc (by omega))) rfl ?_; clear T ac; intro ac T
  refine Zl2 ?_
  refine Zoc (first := []) (cap := []) T rfl rfl rfl rfl evf (.cons (T.e 4 rfl) (.cons evc (.cons (T.e 0 rfl) .nil))) Try.func30 rfl rfl ?_
  refine Calls.mono (vwithin_any i 0 (((b.lows.length : Nat) : Int) - 1) _) ?_
  clear T; rintro e wc ⟨rfl, hb⟩ ac T
  replace M := M.call hb; clear hb
  refine Zg2 T (Zq (rn_not rfl (T.e 0 rfl))) rfl (Zm 0 rfl rfl) rfl ?_; clear T ac; intro ac T
  rcases Bool.eq_false_or_eq_true (!(withinB i 0 (((b.lows.length : Nat) : Int) - 1))) with h2 | h2
  ·refine Zg8 T (Zp (Zwn rfl rfl (T.e 0 rfl) h2)) rfl (fun _ T => Zp (Zwn rfl rfl (T.e 1 rfl) h2)) rfl (fun _ T => Zp (Zwn rfl rfl (T.e 2 rfl) h2)) rfl (fun _ T => Zp (Zwn rfl rfl (T.e 3 rfl) h2)) rfl (fun _ T => Zp (Zwn rfl rfl (T.e 4 rfl) h2)) rfl (fun _ T => Zp (Zwn rfl rfl (T.e 5 rfl) h2)) rfl (fun _ T => Zp (Zwn rfl rfl (T.e 6 rfl) h2)) rfl (fun _ T => Zq (Zr1 rfl (T.e 7 rfl) h2 evc)) rfl ?_; clear T ac; intro ac T
   refine wpList_nil ?_
   replace T := T.pick [0] rfl
   replace M := M.mask [false] rfl
   exact ⟨(T.pick (E' := [(28, .bool true)]) [0] rfl).as (by (try rw [show (!(withinB i 0 (((b.lows.length : Nat) : Int) - 1))) = true from h2]); (try rfl)), M.mask [] rfl⟩
  refine Zg5 (v2 := (.pointer (some ⟨g1, 6, none⟩))) T (Zw (Zwy rfl rfl (T.e 0 rfl) h2) (Zrm rfl (T.e 12 rfl))) rfl (fun _ T => Zw (Zwy rfl rfl (T.e 1 rfl) h2) (Zrf (off := 6) rfl (T.e 11 rfl) (fun _ _ _ => by kernel_rfl))) rfl (fun _ T => Zw (Zwy rfl rfl (T.e 2 rfl) h2) (Zro (Mem.nth M 0 rfl) rfl (T.e 0 rfl) rfl)) rfl (fun _ T => Zw (Zwy rfl rfl (T.e 3 rfl) h2) (Zrl rfl Try.underlying27 (T.e 0 rfl))) rfl (fun _ T => Zw (Zwy rfl rfl (T.e 4 rfl) h2) (rn_sub rfl (T.e 0 rfl) evc (by omega))) rfl ?_; clear T ac; intro ac T
  refine l_w (Zwy rfl rfl (T.e 5 rfl) h2) ?_; intro K hK
  refine Zoc (first := []) (cap := []) T rfl rfl rfl rfl evf (.cons (T.e 4 rfl) (.cons evc (.cons (T.e 0 rfl) .nil))) Try.func30 rfl rfl ?_
  refine Calls.mono (vwithin_any k 0 (((b.highs.length : Nat) : Int) - 1) _) ?_
  clear T; rintro e wc ⟨rfl, hb⟩ ac T
  replace M := M.call hb; clear hb
  refine Zso hK _ _ ?_; clear hK K
  refine Zg2 T (Zw (Zwy rfl rfl (T.e 6 rfl) h2) (rn_not rfl (T.e 0 rfl))) rfl (fun _ T => Zq (Zr0 rfl (T.e 7 rfl) h2 (T.e 0 rfl))) rfl ?_; clear T ac; intro ac T
  refine wpList_nil ?_
  replace T := T.pick [0] rfl
  replace M := M.mask [false] rfl
  exact ⟨(T.pick (E' := [(28, .bool (!(withinB k 0 (((b.highs.length : Nat) : Int) - 1))))]) [0] rfl).as (by (try rw [show (!(withinB i 0 (((b.lows.length : Nat) : Int) - 1))) = false from h2]); (try rfl)), M.mask [] rfl⟩
 clear T M
 rintro ac wc ⟨T, M⟩
 refine wp_cond_split (T.e 0 rfl) ?_ ?_
 ·intro h3
  (have h3' := h3; try simp only [Zb1, Zb2, Zb3, Zb4, Zb5, Zb6, Zb7] at h3')
  refine Zsr ?_
  refine lq T (Zra rfl evc) ?_; clear T ac; intro ac T
  replace T := T.pick [0] rfl
  refine Zln ?_
  refine wp_ret ?_
  refine Zrt ?_
  refine rt_1 T rfl (T.e 0 rfl) ?_
  refine ⟨ret_int ?_, M.below⟩
  unfold checkPB
  first | (simp_all [withinB]; done) | (simp_all [withinB]; omega)
 intro h3
 (have h3' := h3; try simp only [Zb1, Zb2, Zb3, Zb4, Zb5, Zb6, Zb7] at h3')
 refine Zsk ?_
 refine Zsr ?_
 refine lq T (Zra rfl evc) ?_; clear T ac; intro ac T
 replace T := T.pick [0] rfl
 refine Zln ?_
 refine wp_ret ?_
 refine rt_1 T rfl (T.e 0 rfl) ?_
 refine ⟨ret_int ?_, M.below⟩
 unfold checkPB
 first | (simp_all [withinB]; done) | (simp_all [withinB]; omega)
def BeatPost (b : Bx) (i k : Int) (w : World) (e : Ending) (w' : World) : Prop :=
 ∃ (A : Option Addr) (c : Nat) (I : List (Nat × BA)), e = .returned (.tuple #[.slice A (beatE b i k).length c, .int .i64 (checkPB b i k)]) ∧ Sl 29 2 (.slice A (beatE b i k).length c) (beatE b i k).length (rc (beatE b i k)) I ∧ Mem w noEx w' I
theorem Beat_any (b : Bx) (A : Option Addr) (c : Nat) (B : Option Addr) (d : Nat) (i k : Int) (w : World) (hA : Rd w w.heap.size 4 A b.lows.length (sc b.lows)) (hB : Rd w w.heap.size 4 B b.highs.length (sc b.highs)) (nA : b.lows.length ≤ 1000000) (nB : b.highs.length ≤ 1000000)  :
   Calls Try.prog 7 #[bxV b A c B d, .int .i64 i, .int .i64 k] w (BeatPost b i k w) := by
 have hlA := hA.len4
 have hlB := hB.len4
 obtain ⟨bA, oA, SA⟩ := Sp.old hA
 obtain ⟨bB, oB, SB⟩ := Sp.old hB
 refine Zpx noEx Try.func7 rfl 29 rfl [.agg #[.int .i64 b.first, .int .i64 b.step, .int .i64 b.span, .int .i64 b.press, .int .i64 b.note, .slice A b.lows.length c, .slice B b.highs.length d, .int .i64 b.t0, .int .i64 b.t1, .int .i64 b.r0, .int .i64 b.r1, .int .i64 b.u0, .int .i64 b.u1, .int .i64 b.d0, .int .i64 b.d1, .int .i64 b.a0, .int .i64 b.a1, .int .i64 b.b0, .int .i64 b.b1, .int .i64 b.le, .int .i64 b.me], .int .i64 i, .int .i64 k] rfl rfl (Mem.init w _) ?_
 intro ac wc T M
 refine Zsr ?_
 refine Zl2 ?_
 refine Zob M T rfl rfl rfl rfl (T.e 0 rfl) rfl ?_; clear M T; intro g1 wc ac M T
 refine Zg2 T (Zq (Zra rfl evc)) rfl (Zc rfl) rfl ?_; clear T ac; intro ac T
 replace T := T.pick [2, 4, 5] rfl
 refine Zln ?_
 refine wp_seq ?_
 refine Zsr ?_
 refine Zg3 T (Zq (Zrr (Mem.nth M 0 rfl) rfl (T.e 0 rfl) rfl)) rfl (Zm 2 rfl rfl) rfl (Zm 4 rfl rfl) rfl ?_; clear T ac; intro ac T
 refine Zl2 ?_
 refine Zoc (first := []) (cap := []) T rfl rfl rfl rfl evf (.cons (T.e 2 rfl) (.cons (T.e 1 rfl) (.cons (T.e 0 rfl) .nil))) Try.func15 rfl rfl ?_
 refine Calls.mono (vcheckPair_any b _ _ _ _ i k _ (SA.rd M (Zz9 _)) (SB.rd M (Zz9 _)) (by omega) (by omega)) ?_
 clear T; rintro e wc ⟨rfl, hb⟩ ac T
 replace M := M.call hb; clear hb
 refine lq T (Zra rfl (T.e 0 rfl)) ?_; clear T ac; intro ac T
 replace T := T.pick [0, 5, 6, 7] rfl
 refine Zln ?_
 refine Zsr ?_
 refine Zg2 T (Zq (Zrm rfl (T.e 0 rfl))) rfl (fun _ T => Zq (rn_neq rfl (T.e 0 rfl) evc)) rfl ?_; clear T ac; intro ac T
 replace T := T.pick [0, 2, 3, 4, 5] rfl
 refine Zln ?_
 refine wp_ifn (T.e 0 rfl) ?_ ?_
 ·intro h1
  refine Zsr ?_
  refine Zg3 T (Zq (Zrm rfl (T.e 1 rfl))) rfl (Zc rfl) rfl (Za 1 rfl rfl) rfl ?_; clear T ac; intro ac T
  refine wpList_nil ?_
  replace T := T.pick [0, 1] rfl
  replace M := M.mask [false] rfl
  refine Znr ?_
  refine Zrt ?_
  refine rt_2 T rfl (T.e 1 rfl) (T.e 0 rfl) ?_
  unfold BeatPost
  have e9 : beatE b i k = [] := by unfold beatE; rw [if_neg (by assumption)]
  rw [e9]
  exact ⟨none, 0, [], rfl, Sl.nil _ _, M.mask [] rfl⟩
 intro h1
 obtain ⟨gb, ⟨i0, i1⟩, k0, k1⟩ := checkPB_good (b := b) (i := i) (k := k) (by simpa using h1)
 obtain ⟨il, hil⟩ : ∃ q : Nat, i = (q : Int) := ⟨i.toNat, by omega⟩
 obtain ⟨kl, hkl⟩ : ∃ q : Nat, k = (q : Int) := ⟨k.toNat, by omega⟩
 have gl3 := gb.law.span
 have gl4 := gb.law.press
 have gn := gb.note
 have gf := gb.law.first
 have gs := gb.law.step
 have gd := gb.due
 unfold Bx.due at gd
 dsimp only at gl3 gl4 gf gs
 obtain ⟨x, hx9⟩ : ∃ q, q = b.low i := ⟨_, rfl⟩
 obtain ⟨y, hy9⟩ : ∃ q, q = b.high k := ⟨_, rfl⟩
 have hkx : b.lows[il]? = some x := by rw [hx9, ← Bx.low_get ⟨i0, i1⟩, hil]; rfl
 have hky : b.highs[kl]? = some y := by rw [hy9, ← Bx.high_get ⟨k0, k1⟩, hkl]; rfl
 have gx := gb.lows.2 x (List.mem_of_getElem? hkx)
 have gy := gb.highs.2 y (List.mem_of_getElem? hky)
 refine Zsk ?_
 refine wp_seq ?_
 refine Zgs M (M.mask [true] rfl) 15 (by kernel_rfl) rfl (by kernel_rfl) ?_
 clear M; intro wc M
 refine gq (v := (.pointer (some ⟨g1, 0, none⟩))) T 0 1 rfl (fun _ _ _ _ _ => (Zrf (off := 0) rfl (T.e 2 rfl) (fun _ _ _ => by kernel_rfl))) ?_; clear T ac; intro ac T
 refine gq T 1 3 rfl (fun B w' hD hl hS => (Zrr (Mem.nth (show Mem w noEx w' _ from hS) 0 rfl) rfl (T.e 0 rfl) rfl)) ?_; clear T ac; intro ac T
 refine gq (v := (.pointer (some ⟨g1, 5, none⟩))) T 2 7 rfl (fun _ _ _ _ _ => (Zrf (off := 5) rfl (T.e 4 rfl) (fun _ _ _ => by kernel_rfl))) ?_; clear T ac; intro ac T
 refine gq T 3 15 rfl (fun B w' hD hl hS => (Zro (Mem.nth (show Mem w noEx w' _ from hS) 0 rfl) rfl (T.e 0 rfl) rfl)) ?_; clear T ac; intro ac T
 refine gq T 4 31 rfl (fun _ _ _ _ _ => (Zrm rfl (T.e 7 rfl))) ?_; clear T ac; intro ac T
 refine gq T 5 63 rfl (fun _ _ _ _ _ => (Zri (size := 4) il rfl (T.e 1 rfl) (T.e 0 rfl) ⟨_, Try.underlying27, by kernel_rfl⟩ hil (by omega) (SA.at0 (by omega)))) ?_; clear T ac; intro ac T
 refine gq (v := (.agg #[.int .i64 x.t0, .int .i64 x.t1, .int .i64 x.s0, .int .i64 x.s1])) T 6 127 rfl (fun B w' hD hl hS => (rn_rowat (Sp.scR4 SA (show Mem w noEx w' _ from hS) (Zz9 _) hkx) rfl (T.e 0 rfl) rfl)) ?_; clear T ac; intro ac T
 refine gq (v := (.pointer (some ⟨g1, 6, none⟩))) T 7 255 rfl (fun _ _ _ _ _ => (Zrf (off := 6) rfl (T.e 9 rfl) (fun _ _ _ => by kernel_rfl))) ?_; clear T ac; intro ac T
 refine gq T 8 511 rfl (fun B w' hD hl hS => (Zro (Mem.nth (show Mem w noEx w' _ from hS) 0 rfl) rfl (T.e 0 rfl) rfl)) ?_; clear T ac; intro ac T
 refine gq T 9 1023 rfl (fun _ _ _ _ _ => (Zrm rfl (T.e 13 rfl))) ?_; clear T ac; intro ac T
 refine gq T 10 2047 rfl (fun _ _ _ _ _ => (Zri (size := 4) kl rfl (T.e 1 rfl) (T.e 0 rfl) ⟨_, Try.underlying27, by kernel_rfl⟩ hkl (by omega) (SB.at0 (by omega)))) ?_; clear T ac; intro ac T
 refine gq (v := (.agg #[.int .i64 y.t0, .int .i64 y.t1, .int .i64 y.s0, .int .i64 y.s1])) T 11 4095 rfl (fun B w' hD hl hS => (rn_rowat (Sp.scR4 SB (show Mem w noEx w' _ from hS) (Zz9 _) hky) rfl (T.e 0 rfl) rfl)) ?_; clear T ac; intro ac T
 refine gw 12 8191 ?_; intro K hK
 refine Zoc (first := []) (cap := []) T rfl rfl rfl rfl evf (.cons (T.e 10 rfl) (.cons (T.e 5 rfl) (.cons (T.e 0 rfl) .nil))) Try.func16 rfl rfl ?_
 refine Calls.mono (beats_any b.law x y _ (by (try dsimp only); omega) gx gy) ?_
 clear T; rintro e wc ⟨Au2, cu2, Iu2, rfl, hslu2, N⟩ ac T
 obtain ⟨lbu2, hlbu2⟩ : ∃ q, q = (beatsL b.law x y) := ⟨_, rfl⟩
 rw [← hlbu2] at hslu2
 obtain ⟨bu2, ou2, SVu2⟩ := hslu2.spV (rc_length _)
 have Su2 := SVu2 w noEx
 replace M := (M.join N).swapI
 replace M := M.mask [true] rfl
 clear N
 rw [← hlbu2] at T
 refine Zso hK _ _ (M.perm [0] rfl rfl) ?_; clear hK K
 refine gq T 13 16383 rfl (fun _ _ _ _ _ => (Zra rfl (T.e 0 rfl))) ?_; clear T ac; intro ac T
 refine gq T 14 32767 rfl (fun _ _ _ _ _ => (Zra rfl evc)) ?_; clear T ac; intro ac T
 refine Zgd (by kernel_rfl) ?_
 replace T := T.pick [0, 1] rfl
 replace M := M.mask [false] rfl
 refine Znr ?_
 refine rt_2 T rfl (T.e 1 rfl) (T.e 0 rfl) ?_
 unfold BeatPost
 have e9 : beatE b i k = lbu2 := by unfold beatE; rw [if_pos (by simpa using h1), ← hx9, ← hy9]; exact hlbu2.symm
 rw [e9, show checkPB b i k = 0 by simpa using h1]
 exact ⟨_, _, _, rfl, hslu2, M.mask [] rfl⟩
open Go.RowKit
open Go.RowKit
open Go.RowKit
theorem within_mk {n lo hi : Int} (h : lo ≤ n ∧ n ≤ hi) : withinB n lo hi = true := by unfold withinB; simpa using h
theorem chkR_mk {x0 x1 lo hi : Int} (h : lo ≤ x0 ∧ x0 ≤ x1 ∧ x1 ≤ hi) : chkR x0 x1 lo hi = 0 := by
 unfold chkR
 rw [if_pos ⟨within_mk (by omega), within_mk (by omega)⟩, if_neg (by omega)]
theorem chkAll_mk {lo hi : Int} : ∀ {l : List (Int × Int)}, (∀ p ∈ l, lo ≤ p.1 ∧ p.1 ≤ p.2 ∧ p.2 ≤ hi) → chkAll lo hi l = 0 := by
 intro l
 induction l with
 | nil => intro _; rfl
 | cons q r ih =>
  intro h
  have h0 := chkR_mk (h q (by simp))
  unfold chkAll
  rw [if_neg (by rw [h0]; simp)]
  exact ih fun p hp => h p (Zz1 hp)
theorem check_of_good {j : Jb} (h : j.good) : checkJ j = 0 := by
 have e1 := chkR_mk h.p
 have e2 : chkAll 0 100 [(j.t0, j.t1), (j.r0, j.r1)] = 0 := chkAll_mk (by
  intro p hp
  simp only [List.mem_cons, List.not_mem_nil, or_false] at hp
  rcases hp with rfl | rfl
  ·exact h.t
  ·exact h.r)
 have e3 : chkAll 0 12 [(j.u0, j.u1), (j.d0, j.d1), (j.a0, j.a1), (j.b0, j.b1)] = 0 := chkAll_mk (by
  intro p hp
  simp only [List.mem_cons, List.not_mem_nil, or_false] at hp
  rcases hp with rfl | rfl | rfl | rfl
  ·exact h.u
  ·exact h.d
  ·exact h.a
  ·exact h.b)
 have e4 := within_mk h.le
 have e6 := chkAll_mk h.sh
 have e7 := within_mk h.wi
 have e8 := within_mk h.me
 have e5 := h.few
 unfold checkJ
 rw [if_neg (by rw [e1]; simp), if_neg (by rw [e2]; simp), if_neg (by rw [e3]; simp), if_neg (by rw [e4]; simp), if_neg (by omega), if_neg (by rw [e6]; simp), if_neg (by rw [e7, e8]; simp)]
open Go.RowKit
open Go.RowKit
open Go.RowKit
theorem Sp.mono {w : World} {ex : Nat → Prop} {I I' : List (Nat × BA)} {A : Option Addr} {n size b o : Nat} {xs : List Value} (S : Sp w ex I A n size b o xs) (h : I.Sublist I') : Sp w ex I' A n size b o xs :=
 ⟨S.at0, S.len, fun w' L M hI hn => S.lt w' L M (h.trans hI) hn, fun w' L M hI => S.cell w' L M (h.trans hI)⟩
abbrev JE := Jb × Option Addr × Nat
abbrev LE := List Int × Option Addr × Nat
section
variable {w w' : World} {ex : Nat → Prop} {I L : List (Nat × BA)} {n b o k : Nat} {A : Option Addr} {l : List JE} {r : List LE}
end
section
variable {P : Program} {op : Oper} {a : Act} {K : Act → World → Prop} {Q : Exit → Act → World → Prop} {w0 w : World} {ex : Nat → Prop} {L0 L : List (Nat × BA)} {E : List (Nat × Value)} {t n : Nat}
end
theorem ic_snoc (l : List Int) (x : Int) : ic l ++ [.int .i64 x] = ic (l ++ [x]) := by simp [ic]
section
variable {P : Program} {op : Oper} {a : Act} {K : Act → World → Prop} {Q : Exit → Act → World → Prop} {w0 w : World} {ex : Nat → Prop} {L0 L : List (Nat × BA)} {E : List (Nat × Value)} {t n : Nat}
end
theorem rn_quo {P : Program} {op : Oper} {a : Act} {w : World} {ty ty' : TypeId} {x y : Operand} {p q : Int} (ho : op.op = .binOp .quo ty x y ty') (hx : a.eval x = .int .i64 p) (hy : a.eval y = .int .i64 q) (hq : q ≠ 0) (hb : -9223372036854775808 ≤ p.tdiv q ∧ p.tdiv q ≤ 9223372036854775807) : Runs P op a (.int .i64 (p.tdiv q)) w := by
 refine rn_bin ho hx hy ?_
 rw [eqGuard_quo, binOp_quo]
 unfold Op.intDiv
 rw [if_neg (by simpa using hq)]
 show Result.ok (Value.int .i64 (IntKind.i64.wrap (p.tdiv q))) w = _
 rw [IntWalk.i64_in _ hb]
def mostD (notes : Int) : Int := min 5 ((5 : Int).tdiv (max 1 notes))
theorem tdiv_bd {q : Int} (h : 1 ≤ q) : 0 ≤ (5 : Int).tdiv q ∧ (5 : Int).tdiv q ≤ 5 ∧ (5 : Int).tdiv q * q ≤ 5 := by
 rw [Int.tdiv_eq_ediv_of_nonneg (by omega)]
 refine ⟨Int.ediv_nonneg (by omega) (by omega), ?_, Int.ediv_mul_le 5 (by omega)⟩
 have h1 := Int.ediv_mul_le 5 (show q ≠ 0 by omega)
 have h2 : 0 ≤ 5 / q := Int.ediv_nonneg (by omega) (by omega)
 have h3 : 5 / q * 1 ≤ 5 / q * q := Int.mul_le_mul_of_nonneg_left h h2
 omega
theorem mostD_bd (notes : Int) : 0 ≤ mostD notes ∧ mostD notes ≤ 5 ∧ ∀ k : Int, 0 ≤ k ∧ k ≤ notes → mostD notes * k ≤ 5 := by
 have h := tdiv_bd (q := max 1 notes) (by omega)
 unfold mostD
 refine ⟨by omega, by omega, fun k hk => ?_⟩
 have e : min 5 ((5 : Int).tdiv (max 1 notes)) = (5 : Int).tdiv (max 1 notes) := by omega
 rw [e]
 exact Int.le_trans (Int.mul_le_mul_of_nonneg_left (by omega) h.1) h.2.2
theorem step_bd {notes st k : Int} (hs : -mostD notes ≤ st ∧ st ≤ mostD notes) (hk : 0 ≤ k ∧ k ≤ notes) : -5 ≤ st * k ∧ st * k ≤ 5 := by
 have h := (mostD_bd notes).2.2 k hk
 have h1 : st * k ≤ mostD notes * k := Int.mul_le_mul_of_nonneg_right hs.2 hk.1
 have h2 : -mostD notes * k ≤ st * k := Int.mul_le_mul_of_nonneg_right hs.1 hk.1
 rw [Int.neg_mul] at h2
 omega
structure Lw.made (l : Lw) (notes : Int) : Prop where
 first : 5 ≤ l.first ∧ l.first ≤ 25
 step : -mostD notes ≤ l.step ∧ l.step ≤ mostD notes
 span : 1 ≤ l.span ∧ l.span ≤ 8
 press : 0 ≤ l.press ∧ l.press ≤ 3
def LawPost (bp : Nat) (notes : Int) (w : World) (e : Ending) (w' : World) : Prop := ∃ (l : Lw) (s' : Int), l.made notes ∧ u64ok s' ∧ e = .returned (.agg #[.int .i64 l.first, .int .i64 l.step, .int .i64 l.span, .int .i64 l.press]) ∧ w.grownBy w' (some bp) ∧ Bk w' bp #[.int .u64 s']
def SoundPost (bp : Nat) (wide : Int) (w : World) (e : Ending) (w' : World) : Prop := ∃ (x : Snd) (s' : Int), (x.good ∧ x.t1 - x.t0 ≤ 2 * wide) ∧ u64ok s' ∧ e = .returned (.agg #[.int .i64 x.t0, .int .i64 x.t1, .int .i64 x.s0, .int .i64 x.s1]) ∧ w.grownBy w' (some bp) ∧ Bk w' bp #[.int .u64 s']
theorem lawOf_any (s : Int) (bp : Nat) (notes : Int) (w : World) (hn : 0 ≤ notes ∧ notes ≤ 1000) (hp : Bk w bp #[.int .u64 s]) (hs : u64ok s) :
   Calls Try.prog 11 #[.pointer (some ⟨bp, 0, none⟩), .int .i64 notes] w (LawPost bp notes w) := by
 have hq := tdiv_bd (q := max 1 notes) (by omega)
 refine Zpx (fun b => b = bp) Try.func11 rfl 27 rfl [.pointer (some ⟨bp, 0, none⟩), .int .i64 notes] rfl rfl (Mem.initEx (p := .cells [.int .u64 s]) hp) ?_
 intro ac wc T M
 refine Zsr ?_
 refine Zl2 ?_
 refine Zoa M T rfl rfl rfl rfl ?_; clear M T; intro g1 wc ac M T
 refine Zln ?_
 refine Zsr ?_
 refine lq T (Zrm rfl (T.e 1 rfl)) ?_; clear T ac; intro ac T
 refine Zl2 ?_
 refine Zoc (first := []) (cap := []) T rfl rfl rfl rfl evf (.cons (T.e 0 rfl) (.cons evc (.cons evc .nil))) Try.func6 rfl rfl ?_
 refine Calls.mono (within_pot _ bp 5 25 _ (by omega) (by omega) (by omega) (M.nth 1 rfl) hs) ?_
 clear T; rintro e wc ⟨xu1, su1, hxu1, hsu1, rfl, hgr, hbk⟩ ac T
 replace M := M.callC (cs' := [.int .u64 su1]) (.tail .head) hgr hbk
 clear hgr hbk
 refine lq T (Zrm rfl (T.e 3 rfl)) ?_; clear T ac; intro ac T
 refine Zl2 ?_
 refine Zoc (first := []) (cap := []) T rfl rfl rfl rfl evf (.cons (T.e 0 rfl) (.cons evc (.cons evc .nil))) Try.func6 rfl rfl ?_
 refine Calls.mono (within_pot _ bp 1 8 _ (by omega) (by omega) (by omega) (M.nth 1 rfl) hsu1) ?_
 clear T; rintro e wc ⟨xu2, su2, hxu2, hsu2, rfl, hgr, hbk⟩ ac T
 replace M := M.callC (cs' := [.int .u64 su2]) (.tail .head) hgr hbk
 clear hgr hbk
 refine lq T (Zrm rfl (T.e 5 rfl)) ?_; clear T ac; intro ac T
 refine Zl2 ?_
 refine Zoc (first := []) (cap := []) T rfl rfl rfl rfl evf (.cons (T.e 0 rfl) (.cons evc .nil)) Try.func12 rfl rfl ?_
 refine Calls.mono (upto_any _ bp 3 _ (by omega) (by omega) (M.nth 1 rfl) hsu2) ?_
 clear T; rintro e wc ⟨xu3, su3, hxu3, hsu3, rfl, hgr, hbk⟩ ac T
 replace M := M.callC (cs' := [.int .u64 su3]) (.tail .head) hgr hbk
 clear hgr hbk
 refine lq (v := (.agg #[.int .i64 xu1, .int .i64 0, .int .i64 xu2, .int .i64 xu3])) T (rn_build rfl (.cons (T.e 4 rfl) (.cons (T.e 2 rfl) (.cons (T.e 0 rfl) .nil))) (fun _ => by kernel_rfl)) ?_; clear T ac; intro ac T
 refine Zl2 ?_
 refine Zoa M T rfl rfl rfl rfl ?_; clear M T; intro g2 wc ac M T
 refine Zl2 ?_
 refine Zos M T rfl rfl (T.e 0 rfl) (T.e 1 rfl) rfl .head rfl (by simp) rfl (by kernel_rfl) ?_; clear M T; intro wc ac M T
 replace T := T.pick [0, 8, 9, 10] rfl
 refine Zln ?_
 refine wp_seq ?_
 refine Zsr ?_
 refine Zg5 T (Zq (Zrm rfl (T.e 3 rfl))) rfl (fun _ T => Zq (rn_max2 rfl evc (T.e 0 rfl))) rfl (fun _ T => Zq (rn_quo rfl evc (T.e 0 rfl) (by omega) (by omega))) rfl (fun _ T => Zq (rn_min2 rfl evc (T.e 0 rfl))) rfl (Za 0 rfl rfl) rfl ?_; clear T ac; intro ac T
 replace T := T.pick [0, 5, 6, 7] rfl
 refine Zln ?_
 refine Zsr ?_
 refine Zg2 T (Zq (Zrm rfl (T.e 0 rfl))) rfl (fun _ T => Zq (rn_gtr rfl (T.e 0 rfl) evc)) rfl ?_; clear T ac; intro ac T
 replace T := T.pick [0, 2, 3, 4, 5] rfl
 refine Zln ?_
 refine wp_if (T.e 0 rfl) ?_ ?_
 ·intro h1
  refine wp_region_lit ?_
  refine Zg4 T (Zq (Zrm rfl (T.e 4 rfl))) rfl (Zm 2 rfl rfl) rfl (fun _ T => Zq (rn_neg rfl (T.e 0 rfl) (by omega))) rfl (Zm 4 rfl rfl) rfl ?_; clear T ac; intro ac T
  refine Zl2 ?_
  refine Zoc (first := []) (cap := []) T rfl rfl rfl rfl evf (.cons (T.e 3 rfl) (.cons (T.e 1 rfl) (.cons (T.e 0 rfl) .nil))) Try.func6 rfl rfl ?_
  refine Calls.mono (within_pot _ bp (-(min 5 (Int.tdiv 5 (max 1 notes)))) (min 5 (Int.tdiv 5 (max 1 notes))) _ (by omega) (by omega) (by omega) (M.nth 2 rfl) hsu3) ?_
  clear T; rintro e wc ⟨xu4, su4, hxu4, hsu4, rfl, hgr, hbk⟩ ac T
  replace M := M.callC (cs' := [.int .u64 su4]) (.tail (.tail .head)) hgr hbk
  clear hgr hbk
  refine lq (v := (.pointer (some ⟨g2, 1, none⟩))) T (Zrf (off := 1) rfl (T.e 7 rfl) (fun _ _ _ => by kernel_rfl)) ?_; clear T ac; intro ac T
  refine Zl2 ?_
  refine Zos M T rfl rfl (T.e 0 rfl) (T.e 1 rfl) rfl .head rfl (by simp) rfl (by kernel_rfl) ?_; clear M T; intro wc ac M T
  replace T := T.pick [8, 9] rfl
  refine Zln ?_
  refine Zsr ?_
  refine lq T (Zrr (Mem.nth M 0 rfl) rfl (T.e 0 rfl) rfl) ?_; clear T ac; intro ac T
  refine Zl2 ?_
  refine Zos M T rfl rfl (T.e 2 rfl) (T.e 0 rfl) rfl (.tail .head) rfl (by simp) rfl (by kernel_rfl) ?_; clear M T; intro wc ac M T
  refine wpList_nil ?_
  replace T := T.pick [2] rfl
  replace M := M.mask [false, true, true] rfl
  refine Znr ?_
  refine rt_c M T rfl (T.e 0 rfl) (Zne (i := 0) rfl) rfl ?_
  exact ⟨⟨xu1, xu4, xu2, xu3⟩, _, ⟨by (try dsimp only); omega, by (try dsimp only); unfold mostD; omega, by (try dsimp only); omega, by (try dsimp only); omega⟩, hsu4, rfl, M.grown, M.nth 1 rfl⟩
 intro h1
 refine Zsk ?_
 refine Zsr ?_
 refine lq T (Zrr (Mem.nth M 0 rfl) rfl (T.e 2 rfl) rfl) ?_; clear T ac; intro ac T
 refine Zl2 ?_
 refine Zos M T rfl rfl (T.e 4 rfl) (T.e 0 rfl) rfl (.tail .head) rfl (by simp) rfl (by kernel_rfl) ?_; clear M T; intro wc ac M T
 refine wpList_nil ?_
 replace T := T.pick [4] rfl
 replace M := M.mask [false, true, true] rfl
 refine Znr ?_
 refine rt_c M T rfl (T.e 0 rfl) (Zne (i := 0) rfl) rfl ?_
 exact ⟨⟨xu1, 0, xu2, xu3⟩, _, ⟨by (try dsimp only); omega, by (try dsimp only); unfold mostD; omega, by (try dsimp only); omega, by (try dsimp only); omega⟩, hsu3, rfl, M.grown, M.nth 1 rfl⟩
theorem soundOf_any (s : Int) (bp : Nat) (tone wide : Int) (w : World) (ht : -1000 ≤ tone ∧ tone ≤ 1000) (hw : 0 ≤ wide ∧ wide ≤ 40) (hp : Bk w bp #[.int .u64 s]) (hs : u64ok s) :
  Calls Try.prog 13 #[.pointer (some ⟨bp, 0, none⟩), .int .i64 tone, .int .i64 wide] w (SoundPost bp wide w) := by
 refine Zpx (fun b => b = bp) Try.func13 rfl 24 rfl [.pointer (some ⟨bp, 0, none⟩), .int .i64 tone, .int .i64 wide] rfl rfl (Mem.initEx (p := .cells [.int .u64 s]) hp) ?_
 intro ac wc T M
 refine Zsr ?_
 refine Zl2 ?_
 refine Zoa M T rfl rfl rfl rfl ?_; clear M T; intro g1 wc ac M T
 refine Zln ?_
 refine Zsr ?_
 refine Zg3 T (Zq (Zrm rfl (T.e 2 rfl))) rfl (fun _ T => Zq (rn_min2 rfl evc (T.e 0 rfl))) rfl (fun _ T => Zq (rn_max2 rfl evc (T.e 0 rfl))) rfl ?_; clear T ac; intro ac T
 refine l_q (v := (.int .i64 (max (-30) (min 30 tone)))) (T.pick [0, 1, 2, 3, 4, 6] rfl) rfl rfl rfl rfl (Zra rfl (T.e 0 rfl)) ?_; clear T ac; intro ac T
 replace T := T.pick [0, 4, 5, 6] rfl
 refine Zln ?_
 refine Zsr ?_
 refine Zg3 T (Zq (Zrm rfl (T.e 2 rfl))) rfl (Zm 1 rfl rfl) rfl (Zm 5 rfl rfl) rfl ?_; clear T ac; intro ac T
 refine Zl2 ?_
 refine Zoc (first := []) (cap := []) T rfl rfl rfl rfl evf (.cons (T.e 2 rfl) (.cons (T.e 1 rfl) (.cons evc (.cons evc (.cons (T.e 0 rfl) .nil))))) Try.func27 rfl rfl ?_
 refine Calls.mono (near_pot _ bp (max (-30) (min 30 tone)) (-30) 30 wide _ (by omega) (by omega) (by omega) (by omega) (by omega) (by omega) (M.nth 1 rfl) hs) ?_
 clear T; rintro e wc ⟨xu1, yu1, su1, hxu1, hsu1, rfl, hgr, hbk⟩ ac T
 replace M := M.callC (cs' := [.int .u64 su1]) (.tail .head) hgr hbk
 clear hgr hbk
 refine Zg3 T (Zq (Zrm rfl (T.e 6 rfl))) rfl (Zm 7 rfl rfl) rfl (Zm 8 rfl rfl) rfl ?_; clear T ac; intro ac T
 refine Zl2 ?_
 refine Zoc (first := []) (cap := []) T rfl rfl rfl rfl evf (.cons (T.e 0 rfl) (.cons evc (.cons evc .nil))) Try.func6 rfl rfl ?_
 refine Calls.mono (within_pot _ bp (-2) 2 _ (by omega) (by omega) (by omega) (M.nth 1 rfl) hsu1) ?_
 clear T; rintro e wc ⟨xu2, su2, hxu2, hsu2, rfl, hgr, hbk⟩ ac T
 replace M := M.callC (cs' := [.int .u64 su2]) (.tail .head) hgr hbk
 clear hgr hbk
 refine Zl2 ?_
 refine ow_bs (e := 3) [.int .i64 0, .int .i64 0, .int .i64 xu2] M T rfl rfl rfl rfl (.cons evc (.cons evc (.cons (T.e 0 rfl) .nil))) (fun _ => by kernel_rfl) ?_; clear M T; intro g2 wc ac M T
 refine Zl2 ?_
 refine Zoc (first := []) (cap := []) T rfl rfl rfl rfl evf (.cons (T.e 3 rfl) (.cons (T.e 0 rfl) .nil)) Try.func28 rfl rfl ?_
 refine Calls.mono (of_any _ bp _ 3 3 [0, 0, xu2] _ (M.rdOwn (Zne (i := 0) rfl) rfl rfl) (M.nee 0 2 rfl rfl rfl) (by decide) (by decide) (M.nth 2 rfl) hsu2) ?_
 clear T; rintro e wc ⟨xu3, su3, hxu3, hsu3, rfl, hgr, hbk⟩ ac T
 replace M := M.callC (cs' := [.int .u64 su3]) (.tail (.tail .head)) hgr hbk
 clear hgr hbk
 simp only [List.mem_cons, List.not_mem_nil, or_false] at hxu3
 refine Zg2 T (Zq (Zrm rfl (T.e 13 rfl))) rfl (fun _ T => Zq (rn_min2 rfl (T.e 0 rfl) evc)) rfl ?_; clear T ac; intro ac T
 refine Zl2 ?_
 refine Zoc (first := []) (cap := []) T rfl rfl rfl rfl evf (.cons (T.e 7 rfl) (.cons (T.e 2 rfl) (.cons evc (.cons evc (.cons (T.e 0 rfl) .nil))))) Try.func27 rfl rfl ?_
 refine Calls.mono (near_pot _ bp xu3 (-3) 3 (min wide 1) _ (by omega) (by omega) (by omega) (by omega) (by omega) (by omega) (M.nth 2 rfl) hsu3) ?_
 clear T; rintro e wc ⟨xu4, yu4, su4, hxu4, hsu4, rfl, hgr, hbk⟩ ac T
 replace M := M.callC (cs' := [.int .u64 su4]) (.tail (.tail .head)) hgr hbk
 clear hgr hbk
 refine lq (v := (.agg #[.int .i64 xu1, .int .i64 yu1, .int .i64 xu4, .int .i64 yu4])) T (rn_build rfl (.cons (T.e 9 rfl) (.cons (T.e 0 rfl) .nil)) (fun _ => by kernel_rfl)) ?_; clear T ac; intro ac T
 refine Zl2 ?_
 refine Zos M T rfl rfl (T.e 15 rfl) (T.e 0 rfl) rfl (.tail .head) rfl (by simp) rfl (by kernel_rfl) ?_; clear M T; intro wc ac M T
 refine wpList_nil ?_
 replace T := T.pick [15] rfl
 replace M := M.mask [false, true, true] rfl
 refine Znr ?_
 refine rt_c M T rfl (T.e 0 rfl) (Zne (i := 0) rfl) rfl ?_
 exact ⟨⟨xu1, yu1, xu4, yu4⟩, _, ⟨⟨by (try dsimp only); omega, by (try dsimp only); omega⟩, by (try dsimp only); omega⟩, hsu4, rfl, M.grown, M.nth 1 rfl⟩
theorem Try.info41 : (Try.prog.info? 41).map (fun i => (i.zero, i.size, i.bytes)) = some (some (.agg #[.int .i64 0, .int .i64 0, .int .i64 0, .int .i64 0]), 4, 32) := by kernel_rfl
theorem Mem.spin {w0 w : World} {ex : Nat → Prop} (X Y Z : List (Nat × BA)) (M : Mem w0 ex w (X ++ (Y ++ Z))) : Mem w0 ex w (X ++ (Z ++ Y)) :=
 have hp : (X ++ (Y ++ Z)).Perm (X ++ (Z ++ Y)) := List.Perm.append_left X List.perm_append_comm
 ⟨M.os, M.tape, M.output, M.size, M.block, fun p h => M.blk p (hp.mem_iff.2 h), (hp.map _).nodup_iff.1 M.nd⟩
theorem Mem.joinW {w0 w w' : World} {ex : Nat → Prop} {L L' I : List (Nat × BA)} {g : Nat} {p p' : BA} (M : Mem w0 ex w L) (hu : Upd L g p p' L') (N : Mem w (fun b => b = g) w' (I ++ [(g, p')])) : Mem w0 ex w' (I ++ L') := by
 have hg := M.blk _ hu.mem
 have hgl := BA.lt hg.2
 have hnd := N.nd
 rw [List.map_append] at hnd
 obtain ⟨n1, n2, n3⟩ := List.nodup_append.1 hnd
 have hI : ∀ q ∈ I, w.heap.size ≤ q.1 := fun q hq => by
  rcases (N.blk q (List.mem_append_left _ hq)).1 with h | h
  ·exact h
  ·exact absurd h (n3 q.1 (List.mem_map.2 ⟨q, hq, rfl⟩) g (by simp))
 refine ⟨N.os.trans M.os, N.tape.trans M.tape, N.output.trans M.output, Nat.le_trans M.size N.size, fun b hb hx => ?_, fun q hq => ?_, ?_⟩
 ·refine (N.block b (Nat.lt_of_lt_of_le hb M.size) fun e => ?_).trans (M.block b hb hx)
  have e : b = g := e
  subst e
  rcases hg.1 with h | h
  ·have h : w0.heap.size ≤ b := h
   omega
  ·exact hx h
 ·rcases List.mem_append.1 hq with hq | hq
  ·exact ⟨.inl (Nat.le_trans M.size (hI q hq)), (N.blk q (List.mem_append_left _ hq)).2⟩
  ·rcases hu.all M.nd q hq with rfl | ⟨h1, h2⟩
   ·exact ⟨hg.1, (N.blk _ (List.mem_append_right _ Zz2)).2⟩
   ·have h3 := M.blk q h1
    exact ⟨h3.1, BA.same h3.2 N.size (N.block _ (BA.lt h3.2) h2)⟩
 ·rw [List.map_append, hu.keys]
  refine List.nodup_append.2 ⟨n1, M.nd, fun a ha b hb e => ?_⟩
  obtain ⟨q, hq, rfl⟩ := List.mem_map.1 ha
  obtain ⟨r, hr, rfl⟩ := List.mem_map.1 hb
  have h1 := hI q hq
  have h2 := BA.lt (M.blk r hr).2
  omega
structure Bx.made (b : Bx) (lo hi : Int) : Prop where
 law : b.law.made 3
 note : 0 ≤ b.note ∧ b.note ≤ 3
 nlo : (b.lows.length : Int) ≤ lo
 nhi : (b.highs.length : Int) ≤ hi
 good : b.good
theorem boxMade {b : Bx} {j : Jb} {lo hi : Int} (hl : b.law.made 3) (hn : 0 ≤ b.note ∧ b.note ≤ 3) (hlo : (b.lows.length : Int) ≤ lo ∧ b.lows.length ≤ 4) (hhi : (b.highs.length : Int) ≤ hi ∧ b.highs.length ≤ 5) (gl : ∀ x ∈ b.lows, x.good) (gh : ∀ x ∈ b.highs, x.good) (hme : 0 ≤ b.me ∧ b.me ≤ 1)
  (hj : j.made 0 1) (e : b.t0 = j.t0 ∧ b.t1 = j.t1 ∧ b.r0 = j.r0 ∧ b.r1 = j.r1 ∧ b.u0 = j.u0 ∧ b.u1 = j.u1 ∧ b.d0 = j.d0 ∧ b.d1 = j.d1 ∧ b.a0 = j.a0 ∧ b.a1 = j.a1 ∧ b.b0 = j.b0 ∧ b.b1 = j.b1 ∧ b.le = j.le) : b.made lo hi := by
 have gj := hj.good
 have hs := step_bd (notes := 3) hl.step hn
 have h1 := hl.first
 have h2 := hl.step
 have h3 := hl.span
 have h4 := hl.press
 have h5 := mostD_bd 3
 dsimp only at h1 h2 h3 h4 hs
 refine ⟨hl, hn, hlo.1, hhi.1, ⟨⟨by dsimp only; omega, by dsimp only; omega, by dsimp only; omega, by dsimp only; omega⟩, by omega, by unfold Bx.due; omega, ⟨hlo.2, gl⟩, ⟨hhi.2, gh⟩, check_of_good ?_⟩⟩
 obtain ⟨e1, e2, e3, e4, e5, e6, e7, e8, e9, e10, e11, e12, e13⟩ := e
 have k1 := gj.t
 have k2 := gj.r
 have k3 := gj.u
 have k4 := gj.d
 have k5 := gj.a
 have k6 := gj.b
 have k7 := gj.le
 exact ⟨by show (-60 : Int) ≤ 0 ∧ (0 : Int) ≤ 0 ∧ (0 : Int) ≤ 60; omega, by show 0 ≤ b.t0 ∧ b.t0 ≤ b.t1 ∧ b.t1 ≤ 100; omega, by show 0 ≤ b.r0 ∧ b.r0 ≤ b.r1 ∧ b.r1 ≤ 100; omega, by show 0 ≤ b.u0 ∧ b.u0 ≤ b.u1 ∧ b.u1 ≤ 12; omega, by show 0 ≤ b.d0 ∧ b.d0 ≤ b.d1 ∧ b.d1 ≤ 12; omega, by show 0 ≤ b.a0 ∧ b.a0 ≤ b.a1 ∧ b.a1 ≤ 12; omega, by show 0 ≤ b.b0 ∧ b.b0 ≤ b.b1 ∧ b.b1 ≤ 12; omega, by show 0 ≤ b.le ∧ b.le ≤ 100; omega, by show ([] : List (Int × Int)).length ≤ 4; simp, fun p hp => (by cases hp), by show 0 ≤ b.span ∧ b.span ≤ 60; omega, by show 0 ≤ b.me ∧ b.me ≤ 6; omega⟩
def BoxOfPost (bp : Nat) (lo hi wide : Int) (w : World) (e : Ending) (w' : World) : Prop :=
 ∃ (b : Bx) (A : Option Addr) (c : Nat) (B : Option Addr) (d : Nat) (s : Int) (I : List (Nat × BA)), e = .returned (bxV b A c B d) ∧ (b.made lo hi ∧ (∀ z ∈ b.lows, z.t1 - z.t0 ≤ 2 * wide) ∧ ∀ z ∈ b.highs, z.t1 - z.t0 ≤ 2 * wide) ∧ u64ok s ∧ (∃ b1 o1, ∀ (w : World) (ex : Nat → Prop), Sp w ex I A b.lows.length 4 b1 o1 (sc b.lows)) ∧ (∃ b1 o1, ∀ (w : World) (ex : Nat → Prop), Sp w ex I B b.highs.length 4 b1 o1 (sc b.highs)) ∧ Mem w (fun b => b = bp) w' (I ++ [(bp, .cells [.int .u64 s])])
theorem boxOf_any (s : Int) (bp : Nat) (nlo nhi wide : Int) (w : World) (hlo : 0 ≤ nlo ∧ nlo ≤ 40) (hhi : 0 ≤ nhi ∧ nhi ≤ 40) (hw : 0 ≤ wide ∧ wide ≤ 40) (hp : Bk w bp #[.int .u64 s]) (hs : u64ok s) :
   Calls Try.prog 5 #[.pointer (some ⟨bp, 0, none⟩), .int .i64 nlo, .int .i64 nhi, .int .i64 wide] w (BoxOfPost bp nlo nhi wide w) := by
 refine Zpx (fun b => b = bp) Try.func5 rfl 115 rfl [.pointer (some ⟨bp, 0, none⟩), .int .i64 nlo, .int .i64 nhi, .int .i64 wide] rfl rfl (Mem.initEx (p := .cells [.int .u64 s]) hp) ?_
 intro ac wc T M
 refine Zsr ?_
 refine Zl2 ?_
 refine Zoa M T rfl rfl rfl rfl ?_; clear M T; intro g1 wc ac M T
 refine Zln ?_
 refine Zsr ?_
 refine lq T (Zrm rfl (T.e 1 rfl)) ?_; clear T ac; intro ac T
 refine Zl2 ?_
 refine Zoc (first := []) (cap := []) T rfl rfl rfl rfl evf (.cons (T.e 0 rfl) (.cons evc .nil)) Try.func11 rfl rfl ?_
 refine Calls.mono (lawOf_any _ bp 3 _ (by omega) (M.nth 1 rfl) hs) ?_
 clear T; rintro e wc ⟨lu1, su1, hlu1, hsu1, rfl, hgr, hbk⟩ ac T
 replace M := M.callC (cs' := [.int .u64 su1]) (.tail .head) hgr hbk
 clear hgr hbk
 have hlfu1 := hlu1.first
 have hlsu1 := hlu1.step
 have hlpu1 := hlu1.span
 have hlqu1 := hlu1.press
 have hmdu1 := mostD_bd 3
 refine lq T (Zrm rfl (T.e 3 rfl)) ?_; clear T ac; intro ac T
 refine Zl2 ?_
 refine Zoc (first := []) (cap := []) T rfl rfl rfl rfl evf (.cons (T.e 0 rfl) (.cons evc .nil)) Try.func12 rfl rfl ?_
 refine Calls.mono (upto_any _ bp 3 _ (by omega) (by omega) (M.nth 1 rfl) hsu1) ?_
 clear T; rintro e wc ⟨xu2, su2, hxu2, hsu2, rfl, hgr, hbk⟩ ac T
 replace M := M.callC (cs' := [.int .u64 su2]) (.tail .head) hgr hbk
 clear hgr hbk
 have hst := step_bd (notes := 3) (k := xu2) hlu1.step (by omega)
 refine lq T (Zrm rfl (T.e 5 rfl)) ?_; clear T ac; intro ac T
 refine Zl2 ?_
 refine Zoc (first := []) (cap := []) T rfl rfl rfl rfl evf (.cons (T.e 0 rfl) (.cons evc .nil)) Try.func12 rfl rfl ?_
 refine Calls.mono (upto_any _ bp 1 _ (by omega) (by omega) (M.nth 1 rfl) hsu2) ?_
 clear T; rintro e wc ⟨xu3, su3, hxu3, hsu3, rfl, hgr, hbk⟩ ac T
 replace M := M.callC (cs' := [.int .u64 su3]) (.tail .head) hgr hbk
 clear hgr hbk
 refine lq (v := (.agg #[.int .i64 lu1.first, .int .i64 lu1.step, .int .i64 lu1.span, .int .i64 lu1.press, .int .i64 xu2, .slice none 0 0, .slice none 0 0, .int .i64 0, .int .i64 0, .int .i64 0, .int .i64 0, .int .i64 0, .int .i64 0, .int .i64 0, .int .i64 0, .int .i64 0, .int .i64 0, .int .i64 0, .int .i64 0, .int .i64 0, .int .i64 xu3])) T (rn_build rfl (.cons (T.e 4 rfl) (.cons (T.e 2 rfl) (.cons (T.e 0 rfl) .nil))) (fun _ => by kernel_rfl)) ?_; clear T ac; intro ac T
 refine Zl2 ?_
 refine Zoa M T rfl rfl rfl rfl ?_; clear M T; intro g2 wc ac M T
 refine Zl2 ?_
 refine Zos M T rfl rfl (T.e 0 rfl) (T.e 1 rfl) rfl .head rfl (by simp) rfl (by kernel_rfl) ?_; clear M T; intro wc ac M T
 replace T := T.pick [0, 8, 9, 10, 11, 12] rfl
 refine Zln ?_
 refine Zsr ?_
 refine Zg8 (v1 := (.pointer (some ⟨g2, 0, none⟩))) (v2 := (.pointer (some ⟨g2, 0, none⟩))) (v4 := (.pointer (some ⟨g2, 0, none⟩))) (v5 := (.pointer (some ⟨g2, 1, none⟩))) (v7 := (.pointer (some ⟨g2, 4, none⟩))) T (Zq (Zrf (off := 0) rfl (T.e 0 rfl) (fun _ _ _ => by kernel_rfl))) rfl (Zf 0 0 rfl rfl) rfl (Zo M 0 0 rfl rfl rfl rfl) rfl (Zf 0 3 rfl rfl) rfl (Zf 1 0 rfl rfl) rfl (Zo M 0 0 rfl rfl rfl rfl) rfl (Zf 4 6 rfl rfl) rfl (Zo M 0 0 rfl rfl rfl rfl) rfl ?_; clear T ac; intro ac T
 refine Zg3 T (Zq (rn_mul rfl (T.e 2 rfl) (T.e 0 rfl) (by omega))) rfl (fun _ T => Zq (rn_add rfl (T.e 6 rfl) (T.e 0 rfl) (by omega))) rfl (Za 0 rfl rfl) rfl ?_; clear T ac; intro ac T
 replace T := T.pick [0, 11, 12, 13, 14, 15, 16] rfl
 refine Zln ?_
 refine Zsr ?_
 refine lq T (Zra rfl evc) ?_; clear T ac; intro ac T
 refine Zln ?_
 refine wp_seq ?_
 refine Zsr ?_
 refine Zg3 T (Zq (Zrm rfl (T.e 4 rfl))) rfl (Zm 6 rfl rfl) rfl (fun _ T => Zq (rn_min2 rfl (T.e 0 rfl) evc)) rfl ?_; clear T ac; intro ac T
 refine Zl2 ?_
 refine Zoc (first := []) (cap := []) T rfl rfl rfl rfl evf (.cons (T.e 2 rfl) (.cons (T.e 0 rfl) .nil)) Try.func12 rfl rfl ?_
 refine Calls.mono (upto_any _ bp (min nlo 4) _ (by omega) (by omega) (M.nth 2 rfl) hsu3) ?_
 clear T; rintro e wc ⟨xu4, su4, hxu4, hsu4, rfl, hgr, hbk⟩ ac T
 replace M := M.callC (cs' := [.int .u64 su4]) (.tail (.tail .head)) hgr hbk
 clear hgr hbk
 refine lq T (Zra rfl (T.e 0 rfl)) ?_; clear T ac; intro ac T
 replace T := T.pick [0, 5, 6, 7, 8, 9, 11, 12] rfl
 refine Zln ?_
 refine wp_block ?_
 refine wp_loop_n (fun mz ac wc => ∃ (i : Int) (ol : List Snd) (A3 : Option Addr) (c3 : Nat) (tn : List Int) (A4 : Option Addr) (c4 : Nat) (s : Int) (Ii Io : List (Nat × BA)), mz = i.toNat ∧ (0 ≤ i) ∧ ((ol.length : Int) + i = xu4) ∧ (tn.length = ol.length) ∧ (∀ z ∈ ol, z.good ∧ z.t1 - z.t0 ≤ 2 * wide) ∧ (∀ z ∈ tn, -6 ≤ z ∧ z ≤ 6) ∧ (u64ok s) ∧ (Sl 41 4 (.slice A3 ol.length c3) ol.length (sc ol) Io) ∧ (Sl 3 1 (.slice A4 tn.length c4) tn.length (ic tn) Ii) ∧ Tm ac 115 [(0, .pointer (some ⟨bp, 0, none⟩)), (2, .int .i64 nhi), (3, .int .i64 wide), (8, .pointer (some ⟨g1, 0, none⟩)), (9, .pointer (some ⟨g2, 0, none⟩)), (10, .int .i64 (lu1.first + (lu1.step * xu2))), (11, .slice A4 tn.length c4), (12, .int .i64 i)] ∧ Mem w (fun b => b = bp) wc ((g2, .cells [.int .i64 lu1.first, .int .i64 lu1.step, .int .i64 lu1.span, .int .i64 lu1.press, .int .i64 xu2, .slice A3 ol.length c3, .slice none 0 0, .int .i64 0, .int .i64 0, .int .i64 0, .int .i64 0, .int .i64 0, .int .i64 0, .int .i64 0, .int .i64 0, .int .i64 0, .int .i64 0, .int .i64 0, .int .i64 0, .int .i64 0, .int .i64 xu3]) :: (g1, .cells [.int .i64 0, .int .i64 0, .int .i64 0, .int .i64 0, .int .i64 0, .slice none 0 0, .slice none 0 0, .int .i64 0, .int .i64 0, .int .i64 0, .int .i64 0, .int .i64 0, .int .i64 0, .int .i64 0, .int .i64 0, .int .i64 0, .int .i64 0, .int .i64 0, .int .i64 0, .int .i64 0, .int .i64 0]) :: (bp, .cells [.int .u64 s]) :: (Ii ++ Io))) ?_ ?_
 ·exact ⟨_, _, [], none, 0, [], none, 0, _, [], [], rfl, (by omega), (by simp), rfl, (fun z hz => by cases hz), (fun z hz => by cases hz), hsu4, (Sl.nil _ _), (Sl.nil _ _), T.pick [5, 6, 7, 4, 3, 2, 1, 0] rfl, M.mask [true, true, true] rfl⟩
 clear T M
 rintro mz ac wc ⟨i, ol, A3, c3, tn, A4, c4, s, Ii, Io, hmm1, hi, hol, htl, hgo, htn, hs, hsl, hsm, T, M⟩
 refine wp_seq ?_
 refine Zsr ?_
 refine Zg2 T (Zq (Zrm rfl (T.e 7 rfl))) rfl (fun _ T => Zq (rn_gtr rfl (T.e 0 rfl) evc)) rfl ?_; clear T ac; intro ac T
 replace T := T.pick [0, 2, 3, 4, 5, 6, 7, 8, 9] rfl
 refine Zln ?_
 refine wp_if (T.e 0 rfl) ?_ ?_
 ·intro h1
  refine Zsk ?_
  refine wp_seq ?_
  refine wp_block ?_
  refine Zsr ?_
  refine lq T (Zrm rfl (T.e 1 rfl)) ?_; clear T ac; intro ac T
  refine Zl2 ?_
  refine Zoc (first := []) (cap := []) T rfl rfl rfl rfl evf (.cons (T.e 0 rfl) (.cons evc (.cons evc .nil))) Try.func6 rfl rfl ?_
  refine Calls.mono (within_pot _ bp (-6) 6 _ (by omega) (by omega) (by omega) (M.nth 2 rfl) hs) ?_
  clear T; rintro e wc ⟨xu5, su5, hxu5, hsu5, rfl, hgr, hbk⟩ ac T
  replace M := M.callC (cs' := [.int .u64 su5]) (.tail (.tail .head)) hgr hbk
  clear hgr hbk
  refine lq T (Zra rfl (T.e 0 rfl)) ?_; clear T ac; intro ac T
  replace T := T.pick [0, 4, 5, 6, 7, 8, 9, 10, 11] rfl
  refine Zln ?_
  refine Zgs M (M.perm [1] rfl rfl) 15 (by kernel_rfl) rfl (by kernel_rfl) ?_
  clear M; intro wc M
  refine g_addG 5 (M.perm [0, 1, 2] rfl rfl) ?_
  refine g_addG 13 (M.perm [0, 1] rfl rfl) ?_
  refine gq (v := (.pointer (some ⟨g2, 5, none⟩))) T 0 1 rfl (fun _ _ _ _ _ => (Zrf (off := 5) rfl (T.e 5 rfl) (fun _ _ _ => by kernel_rfl))) ?_; clear T ac; intro ac T
  refine gq T 1 3 rfl (fun B w' hD hl hS => (Zro (Mem.nth (show Mem w (fun b => b = bp) w' _ from ((MA.lft hS) (hD.wait (i := 1) (m := 13) (by kernel_rfl) hl))) 0 rfl) rfl (T.e 0 rfl) rfl)) ?_; clear T ac; intro ac T
  refine gq T 2 7 rfl (fun _ _ _ _ _ => (Zrm rfl (T.e 3 rfl))) ?_; clear T ac; intro ac T
  refine gq T 3 15 rfl (fun _ _ _ _ _ => (Zrm rfl (T.e 3 rfl))) ?_; clear T ac; intro ac T
  refine gq T 4 31 rfl (fun _ _ _ _ _ => (Zrm rfl (T.e 7 rfl))) ?_; clear T ac; intro ac T
  refine gq T 8 287 rfl (fun _ _ _ _ _ => (Zrm rfl (T.e 12 rfl))) ?_; clear T ac; intro ac T
  refine gq T 9 799 rfl (fun _ _ _ _ _ => (Zrm rfl (T.e 6 rfl))) ?_; clear T ac; intro ac T
  refine g_m2 (i := 5) (j := 10) (by kernel_rfl) ?_ ?_
  ·refine gi 831 ?_; intro K hK
   refine Zoc (first := []) (cap := []) T rfl rfl rfl rfl evf (.cons (T.e 4 rfl) (.cons (T.e 3 rfl) (.cons (T.e 2 rfl) .nil))) Try.func13 rfl rfl ?_
   refine Calls.mono (soundOf_any _ bp xu5 wide _ (by omega) (by omega) (M.nth 2 rfl) hsu5) ?_
   clear T; rintro e wc ⟨xur8_5, sur8_5, hxur8_5, hsur8_5, rfl, hgr, hbk⟩ ac T
   replace M := M.callC (cs' := [.int .u64 sur8_5]) (.tail (.tail .head)) hgr hbk
   clear hgr hbk
   refine Zso hK _ _ (MA.mk (fun _ => M.perm [0, 1] rfl rfl) (MA.mk (fun h => (no_of (by kernel_rfl) h).elim) (M.perm [1] rfl rfl))) ?_; clear hK K
   refine g_m2 (i := 6) (j := 10) (by kernel_rfl) ?_ ?_
   ·refine gi 895 ?_; intro K hK
    refine ow_bs (e := 41) [.int .i64 xur8_5.t0, .int .i64 xur8_5.t1, .int .i64 xur8_5.s0, .int .i64 xur8_5.s1] M T rfl rfl rfl rfl (.cons (T.e 0 rfl) .nil) (fun _ => by kernel_rfl) ?_; clear M T; intro gr8_6 wc ac M T
    refine Zso hK _ _ (MA.mk (fun _ => M.perm [1, 2] rfl rfl) (MA.mk (fun h => (no_of (by kernel_rfl) h).elim) (M.perm [2] rfl rfl))) ?_; clear hK K
    refine g_m2 (i := 7) (j := 10) (by kernel_rfl) ?_ ?_
    ·refine gi 1023 ?_; intro K hK
     refine ow_app (((gr8_6, .cells [.int .i64 xur8_5.t0, .int .i64 xur8_5.t1, .int .i64 xur8_5.s0, .int .i64 xur8_5.s1]) :: (g2, .cells [.int .i64 lu1.first, .int .i64 lu1.step, .int .i64 lu1.span, .int .i64 lu1.press, .int .i64 xu2, .slice A3 ol.length c3, .slice none 0 0, .int .i64 0, .int .i64 0, .int .i64 0, .int .i64 0, .int .i64 0, .int .i64 0, .int .i64 0, .int .i64 0, .int .i64 0, .int .i64 0, .int .i64 0, .int .i64 0, .int .i64 0, .int .i64 xu3]) :: (g1, .cells [.int .i64 0, .int .i64 0, .int .i64 0, .int .i64 0, .int .i64 0, .slice none 0 0, .slice none 0 0, .int .i64 0, .int .i64 0, .int .i64 0, .int .i64 0, .int .i64 0, .int .i64 0, .int .i64 0, .int .i64 0, .int .i64 0, .int .i64 0, .int .i64 0, .int .i64 0, .int .i64 0, .int .i64 0]) :: (bp, .cells [.int .u64 sur8_5]) :: Ii)) Try.info41 hsl M (by first | rfl | simp) T rfl rfl rfl rfl Try.underlying27 rfl rfl rfl (by omega) (T.e 7 rfl) (T.e 0 rfl) (Zne (i := 0) rfl) rfl rfl ?_; clear M T; intro ga1 cga1 wc ac M T
     refine Zso hK _ _ (MA.mk (fun _ => M.perm [2, 3] rfl rfl) (MA.mk (fun h => (no_of (by kernel_rfl) h).elim) (M.perm [3] rfl rfl))) ?_; clear hK K
     refine gq (v := (.pointer (some ⟨g2, 5, none⟩))) T 12 5119 rfl (fun _ _ _ _ _ => (Zrf (off := 5) rfl (T.e 15 rfl) (fun _ _ _ => by kernel_rfl))) ?_; clear T ac; intro ac T
     refine gw 10 6143 ?_; intro K hK
     refine ow_bs (e := 3) [.int .i64 xu5] M T rfl rfl rfl rfl (.cons (T.e 4 rfl) .nil) (fun _ => by kernel_rfl) ?_; clear M T; intro gr8_10 wc ac M T
     refine Zso hK _ _ (MA.mk (fun _ => M.perm [3, 4] rfl rfl) (MA.mk (fun h => (no_of (by kernel_rfl) h).elim) (M.perm [4] rfl rfl))) ?_; clear hK K
     refine gw 11 8191 ?_; intro K hK
     refine ow_app ([(gr8_10, .cells [.int .i64 xu5]), (ga1, .row 41 4 (ol.length + 1) ((sc ol) ++ [.int .i64 xur8_5.t0, .int .i64 xur8_5.t1, .int .i64 xur8_5.s0, .int .i64 xur8_5.s1]) cga1), (gr8_6, .cells [.int .i64 xur8_5.t0, .int .i64 xur8_5.t1, .int .i64 xur8_5.s0, .int .i64 xur8_5.s1]), (g2, .cells [.int .i64 lu1.first, .int .i64 lu1.step, .int .i64 lu1.span, .int .i64 lu1.press, .int .i64 xu2, .slice A3 ol.length c3, .slice none 0 0, .int .i64 0, .int .i64 0, .int .i64 0, .int .i64 0, .int .i64 0, .int .i64 0, .int .i64 0, .int .i64 0, .int .i64 0, .int .i64 0, .int .i64 0, .int .i64 0, .int .i64 0, .int .i64 xu3]), (g1, .cells [.int .i64 0, .int .i64 0, .int .i64 0, .int .i64 0, .int .i64 0, .slice none 0 0, .slice none 0 0, .int .i64 0, .int .i64 0, .int .i64 0, .int .i64 0, .int .i64 0, .int .i64 0, .int .i64 0, .int .i64 0, .int .i64 0, .int .i64 0, .int .i64 0, .int .i64 0, .int .i64 0, .int .i64 0]), (bp, .cells [.int .u64 sur8_5])]) Try.info3 hsm M (by first | rfl | simp) T rfl rfl rfl rfl Try.underlying22 rfl rfl rfl (by omega) (T.e 6 rfl) (T.e 0 rfl) (Zne (i := 0) rfl) rfl rfl ?_; clear M T; intro ga2 cga2 wc ac M T
     refine Zso hK _ _ (MA.mk (fun _ => M.mask [false, false, false, false, true, true, false] rfl) (MA.mk (fun h => (no_of (by kernel_rfl) h).elim) (M.mask [false, false, false, false, false, true, false] rfl))) ?_; clear hK K
     refine gw 13 16383 ?_; intro K hK
     refine Zos M T rfl rfl (T.e 2 rfl) (T.e 3 rfl) rfl (.tail (.tail (.tail (.tail .head)))) rfl (by simp) rfl (by kernel_rfl) ?_; clear M T; intro wc ac M T
     refine Zso hK _ _ (MA.mk (fun h => (no_of (by kernel_rfl) h).elim) (MA.mk (fun h => (no_of (by kernel_rfl) h).elim) (M.mask [false, false, false, false, false, true, false] rfl))) ?_; clear hK K
     refine g_q (v := (.slice (some ⟨ga2, 0, none⟩) (tn.length + 1) cga2)) (T := T.pick [0, 1, 2, 3, 4, 5, 6, 7, 8, 9, 10, 11, 12, 13, 14, 15, 16, 17, 18, 19, 21] rfl) (i := 14) rfl (by kernel_rfl) (by kernel_rfl : (Zpb 15 16383).setIfInBounds 14 true = Zpb 15 32767) (si_and (si_G rfl) (si_and (si_G rfl) si_U)) (fun _ _ _ h => h) rfl rfl rfl rfl (fun _ _ _ _ _ => (Zra rfl (T.e 0 rfl))) ?_; clear T ac; intro ac T
     refine Zgd (by kernel_rfl) ?_
     replace T := T.pick [0, 15, 16, 17, 18, 19, 20, 21] rfl
     replace M := M.mask [true, false, true, false, true, true, true] rfl
     refine Znb ?_
     refine nm_then ?_
     refine wp_region_lit ?_
     refine Zg2 T (Zq (Zrm rfl (T.e 7 rfl))) rfl (fun _ T => Zq (rn_sub rfl (T.e 0 rfl) evc (by omega))) rfl ?_; clear T ac; intro ac T
     refine l_q (v := (.int .i64 (i - 1))) (T.pick [0, 1, 2, 3, 4, 5, 6, 7, 8] rfl) rfl rfl rfl rfl (Zra rfl (T.e 0 rfl)) ?_; clear T ac; intro ac T
     replace T := T.pick [0, 3, 4, 5, 6, 7, 8, 9] rfl
     refine Zln ?_
     have e9a : ol.length + 1 = (ol ++ [xur8_5]).length := by simp
     have e8a : ((sc ol) ++ [.int .i64 xur8_5.t0, .int .i64 xur8_5.t1, .int .i64 xur8_5.s0, .int .i64 xur8_5.s1]) = sc (ol ++ [xur8_5]) := by rw [← sc_snoc]
     rw [e9a, e8a] at M
     (try rw [e9a] at T)
     have e9b : tn.length + 1 = (tn ++ [xu5]).length := by simp
     have e8b : ((ic tn) ++ [.int .i64 xu5]) = ic (tn ++ [xu5]) := by rw [← ic_snoc]
     rw [e9b, e8b] at M
     (try rw [e9b] at T)
     exact ⟨_, by omega, (i - 1), (ol ++ [xur8_5]), _, _, (tn ++ [xu5]), _, _, sur8_5, [(ga2, .row 3 1 (tn ++ [xu5]).length (ic (tn ++ [xu5])) cga2)], [(ga1, .row 41 4 (ol ++ [xur8_5]).length (sc (ol ++ [xur8_5])) cga1)], rfl, (by omega), (by simp only [List.length_append, List.length_cons, List.length_nil]; omega), (by simp only [List.length_append, List.length_cons, List.length_nil]; omega), (fun z hz => by rcases List.mem_append.1 hz with h9 | h9; exact hgo z h9; simp only [List.mem_cons, List.not_mem_nil, or_false] at h9; subst h9; exact hxur8_5), (fun z hz => by rcases List.mem_append.1 hz with h9 | h9; exact htn z h9; simp only [List.mem_cons, List.not_mem_nil, or_false] at h9; subst h9; omega), hsur8_5, (Sl.row _ _ _ _ _ _), (Sl.row _ _ _ _ _ _), T.pick [2, 3, 4, 5, 6, 7, 1, 0] rfl, M.perm [2, 3, 4, 0, 1] rfl rfl⟩
    refine gi 1919 ?_; intro K hK
    refine ow_bs (e := 3) [.int .i64 xu5] M T rfl rfl rfl rfl (.cons (T.e 2 rfl) .nil) (fun _ => by kernel_rfl) ?_; clear M T; intro gr8_10 wc ac M T
    refine Zso hK _ _ (MA.mk (fun _ => M.perm [2, 3] rfl rfl) (MA.mk (fun h => (no_of (by kernel_rfl) h).elim) (M.perm [3] rfl rfl))) ?_; clear hK K
    refine gw 7 2047 ?_; intro K hK
    refine ow_app (((gr8_10, .cells [.int .i64 xu5]) :: (gr8_6, .cells [.int .i64 xur8_5.t0, .int .i64 xur8_5.t1, .int .i64 xur8_5.s0, .int .i64 xur8_5.s1]) :: (g2, .cells [.int .i64 lu1.first, .int .i64 lu1.step, .int .i64 lu1.span, .int .i64 lu1.press, .int .i64 xu2, .slice A3 ol.length c3, .slice none 0 0, .int .i64 0, .int .i64 0, .int .i64 0, .int .i64 0, .int .i64 0, .int .i64 0, .int .i64 0, .int .i64 0, .int .i64 0, .int .i64 0, .int .i64 0, .int .i64 0, .int .i64 0, .int .i64 xu3]) :: (g1, .cells [.int .i64 0, .int .i64 0, .int .i64 0, .int .i64 0, .int .i64 0, .slice none 0 0, .slice none 0 0, .int .i64 0, .int .i64 0, .int .i64 0, .int .i64 0, .int .i64 0, .int .i64 0, .int .i64 0, .int .i64 0, .int .i64 0, .int .i64 0, .int .i64 0, .int .i64 0, .int .i64 0, .int .i64 0]) :: (bp, .cells [.int .u64 sur8_5]) :: Ii)) Try.info41 hsl M (by first | rfl | simp) T rfl rfl rfl rfl Try.underlying27 rfl rfl rfl (by omega) (T.e 8 rfl) (T.e 1 rfl) (Zne (i := 1) rfl) rfl rfl ?_; clear M T; intro ga3 cga3 wc ac M T
    refine Zso hK _ _ (MA.mk (fun _ => M.perm [3, 4] rfl rfl) (MA.mk (fun h => (no_of (by kernel_rfl) h).elim) (M.perm [4] rfl rfl))) ?_; clear hK K
    refine gq (v := (.pointer (some ⟨g2, 5, none⟩))) T 12 6143 rfl (fun _ _ _ _ _ => (Zrf (off := 5) rfl (T.e 16 rfl) (fun _ _ _ => by kernel_rfl))) ?_; clear T ac; intro ac T
    refine gw 11 8191 ?_; intro K hK
    refine ow_app ([(ga3, .row 41 4 (ol.length + 1) ((sc ol) ++ [.int .i64 xur8_5.t0, .int .i64 xur8_5.t1, .int .i64 xur8_5.s0, .int .i64 xur8_5.s1]) cga3), (gr8_10, .cells [.int .i64 xu5]), (gr8_6, .cells [.int .i64 xur8_5.t0, .int .i64 xur8_5.t1, .int .i64 xur8_5.s0, .int .i64 xur8_5.s1]), (g2, .cells [.int .i64 lu1.first, .int .i64 lu1.step, .int .i64 lu1.span, .int .i64 lu1.press, .int .i64 xu2, .slice A3 ol.length c3, .slice none 0 0, .int .i64 0, .int .i64 0, .int .i64 0, .int .i64 0, .int .i64 0, .int .i64 0, .int .i64 0, .int .i64 0, .int .i64 0, .int .i64 0, .int .i64 0, .int .i64 0, .int .i64 0, .int .i64 xu3]), (g1, .cells [.int .i64 0, .int .i64 0, .int .i64 0, .int .i64 0, .int .i64 0, .slice none 0 0, .slice none 0 0, .int .i64 0, .int .i64 0, .int .i64 0, .int .i64 0, .int .i64 0, .int .i64 0, .int .i64 0, .int .i64 0, .int .i64 0, .int .i64 0, .int .i64 0, .int .i64 0, .int .i64 0, .int .i64 0]), (bp, .cells [.int .u64 sur8_5])]) Try.info3 hsm M (by first | rfl | simp) T rfl rfl rfl rfl Try.underlying22 rfl rfl rfl (by omega) (T.e 6 rfl) (T.e 2 rfl) (Zne (i := 1) rfl) rfl rfl ?_; clear M T; intro ga4 cga4 wc ac M T
    refine Zso hK _ _ (MA.mk (fun _ => M.mask [false, false, false, false, true, true, false] rfl) (MA.mk (fun h => (no_of (by kernel_rfl) h).elim) (M.mask [false, false, false, false, false, true, false] rfl))) ?_; clear hK K
    refine gw 13 16383 ?_; intro K hK
    refine Zos M T rfl rfl (T.e 1 rfl) (T.e 2 rfl) rfl (.tail (.tail (.tail (.tail .head)))) rfl (by simp) rfl (by kernel_rfl) ?_; clear M T; intro wc ac M T
    refine Zso hK _ _ (MA.mk (fun h => (no_of (by kernel_rfl) h).elim) (MA.mk (fun h => (no_of (by kernel_rfl) h).elim) (M.mask [false, false, false, false, false, true, false] rfl))) ?_; clear hK K
    refine g_q (v := (.slice (some ⟨ga4, 0, none⟩) (tn.length + 1) cga4)) (T := T.pick [0, 1, 2, 3, 4, 5, 6, 7, 8, 9, 10, 11, 12, 13, 14, 15, 16, 17, 18, 19, 21] rfl) (i := 14) rfl (by kernel_rfl) (by kernel_rfl : (Zpb 15 16383).setIfInBounds 14 true = Zpb 15 32767) (si_and (si_G rfl) (si_and (si_G rfl) si_U)) (fun _ _ _ h => h) rfl rfl rfl rfl (fun _ _ _ _ _ => (Zra rfl (T.e 0 rfl))) ?_; clear T ac; intro ac T
    refine Zgd (by kernel_rfl) ?_
    replace T := T.pick [0, 15, 16, 17, 18, 19, 20, 21] rfl
    replace M := M.mask [true, true, false, false, true, true, true] rfl
    refine Znb ?_
    refine nm_then ?_
    refine wp_region_lit ?_
    refine Zg2 T (Zq (Zrm rfl (T.e 7 rfl))) rfl (fun _ T => Zq (rn_sub rfl (T.e 0 rfl) evc (by omega))) rfl ?_; clear T ac; intro ac T
    refine l_q (v := (.int .i64 (i - 1))) (T.pick [0, 1, 2, 3, 4, 5, 6, 7, 8] rfl) rfl rfl rfl rfl (Zra rfl (T.e 0 rfl)) ?_; clear T ac; intro ac T
    replace T := T.pick [0, 3, 4, 5, 6, 7, 8, 9] rfl
    refine Zln ?_
    have e9a : ol.length + 1 = (ol ++ [xur8_5]).length := by simp
    have e8a : ((sc ol) ++ [.int .i64 xur8_5.t0, .int .i64 xur8_5.t1, .int .i64 xur8_5.s0, .int .i64 xur8_5.s1]) = sc (ol ++ [xur8_5]) := by rw [← sc_snoc]
    rw [e9a, e8a] at M
    (try rw [e9a] at T)
    have e9b : tn.length + 1 = (tn ++ [xu5]).length := by simp
    have e8b : ((ic tn) ++ [.int .i64 xu5]) = ic (tn ++ [xu5]) := by rw [← ic_snoc]
    rw [e9b, e8b] at M
    (try rw [e9b] at T)
    exact ⟨_, by omega, (i - 1), (ol ++ [xur8_5]), _, _, (tn ++ [xu5]), _, _, sur8_5, [(ga4, .row 3 1 (tn ++ [xu5]).length (ic (tn ++ [xu5])) cga4)], [(ga3, .row 41 4 (ol ++ [xur8_5]).length (sc (ol ++ [xur8_5])) cga3)], rfl, (by omega), (by simp only [List.length_append, List.length_cons, List.length_nil]; omega), (by simp only [List.length_append, List.length_cons, List.length_nil]; omega), (fun z hz => by rcases List.mem_append.1 hz with h9 | h9; exact hgo z h9; simp only [List.mem_cons, List.not_mem_nil, or_false] at h9; subst h9; exact hxur8_5), (fun z hz => by rcases List.mem_append.1 hz with h9 | h9; exact htn z h9; simp only [List.mem_cons, List.not_mem_nil, or_false] at h9; subst h9; omega), hsur8_5, (Sl.row _ _ _ _ _ _), (Sl.row _ _ _ _ _ _), T.pick [2, 3, 4, 5, 6, 7, 1, 0] rfl, M.perm [2, 3, 4, 0, 1] rfl rfl⟩
   refine gi 1855 ?_; intro K hK
   refine ow_bs (e := 3) [.int .i64 xu5] M T rfl rfl rfl rfl (.cons (T.e 1 rfl) .nil) (fun _ => by kernel_rfl) ?_; clear M T; intro gr8_10 wc ac M T
   refine Zso hK _ _ (MA.mk (fun _ => M.perm [1, 2] rfl rfl) (MA.mk (fun h => (no_of (by kernel_rfl) h).elim) (M.perm [2] rfl rfl))) ?_; clear hK K
   refine gw 6 1919 ?_; intro K hK
   refine ow_bs (e := 41) [.int .i64 xur8_5.t0, .int .i64 xur8_5.t1, .int .i64 xur8_5.s0, .int .i64 xur8_5.s1] M T rfl rfl rfl rfl (.cons (T.e 1 rfl) .nil) (fun _ => by kernel_rfl) ?_; clear M T; intro gr8_6 wc ac M T
   refine Zso hK _ _ (MA.mk (fun _ => M.perm [2, 3] rfl rfl) (MA.mk (fun h => (no_of (by kernel_rfl) h).elim) (M.perm [3] rfl rfl))) ?_; clear hK K
   refine gw 7 2047 ?_; intro K hK
   refine ow_app (((gr8_6, .cells [.int .i64 xur8_5.t0, .int .i64 xur8_5.t1, .int .i64 xur8_5.s0, .int .i64 xur8_5.s1]) :: (gr8_10, .cells [.int .i64 xu5]) :: (g2, .cells [.int .i64 lu1.first, .int .i64 lu1.step, .int .i64 lu1.span, .int .i64 lu1.press, .int .i64 xu2, .slice A3 ol.length c3, .slice none 0 0, .int .i64 0, .int .i64 0, .int .i64 0, .int .i64 0, .int .i64 0, .int .i64 0, .int .i64 0, .int .i64 0, .int .i64 0, .int .i64 0, .int .i64 0, .int .i64 0, .int .i64 0, .int .i64 xu3]) :: (g1, .cells [.int .i64 0, .int .i64 0, .int .i64 0, .int .i64 0, .int .i64 0, .slice none 0 0, .slice none 0 0, .int .i64 0, .int .i64 0, .int .i64 0, .int .i64 0, .int .i64 0, .int .i64 0, .int .i64 0, .int .i64 0, .int .i64 0, .int .i64 0, .int .i64 0, .int .i64 0, .int .i64 0, .int .i64 0]) :: (bp, .cells [.int .u64 sur8_5]) :: Ii)) Try.info41 hsl M (by first | rfl | simp) T rfl rfl rfl rfl Try.underlying27 rfl rfl rfl (by omega) (T.e 8 rfl) (T.e 0 rfl) (Zne (i := 0) rfl) rfl rfl ?_; clear M T; intro ga5 cga5 wc ac M T
   refine Zso hK _ _ (MA.mk (fun _ => M.perm [3, 4] rfl rfl) (MA.mk (fun h => (no_of (by kernel_rfl) h).elim) (M.perm [4] rfl rfl))) ?_; clear hK K
   refine gq (v := (.pointer (some ⟨g2, 5, none⟩))) T 12 6143 rfl (fun _ _ _ _ _ => (Zrf (off := 5) rfl (T.e 16 rfl) (fun _ _ _ => by kernel_rfl))) ?_; clear T ac; intro ac T
   refine gw 11 8191 ?_; intro K hK
   refine ow_app ([(ga5, .row 41 4 (ol.length + 1) ((sc ol) ++ [.int .i64 xur8_5.t0, .int .i64 xur8_5.t1, .int .i64 xur8_5.s0, .int .i64 xur8_5.s1]) cga5), (gr8_6, .cells [.int .i64 xur8_5.t0, .int .i64 xur8_5.t1, .int .i64 xur8_5.s0, .int .i64 xur8_5.s1]), (gr8_10, .cells [.int .i64 xu5]), (g2, .cells [.int .i64 lu1.first, .int .i64 lu1.step, .int .i64 lu1.span, .int .i64 lu1.press, .int .i64 xu2, .slice A3 ol.length c3, .slice none 0 0, .int .i64 0, .int .i64 0, .int .i64 0, .int .i64 0, .int .i64 0, .int .i64 0, .int .i64 0, .int .i64 0, .int .i64 0, .int .i64 0, .int .i64 0, .int .i64 0, .int .i64 0, .int .i64 xu3]), (g1, .cells [.int .i64 0, .int .i64 0, .int .i64 0, .int .i64 0, .int .i64 0, .slice none 0 0, .slice none 0 0, .int .i64 0, .int .i64 0, .int .i64 0, .int .i64 0, .int .i64 0, .int .i64 0, .int .i64 0, .int .i64 0, .int .i64 0, .int .i64 0, .int .i64 0, .int .i64 0, .int .i64 0, .int .i64 0]), (bp, .cells [.int .u64 sur8_5])]) Try.info3 hsm M (by first | rfl | simp) T rfl rfl rfl rfl Try.underlying22 rfl rfl rfl (by omega) (T.e 6 rfl) (T.e 3 rfl) (Zne (i := 2) rfl) rfl rfl ?_; clear M T; intro ga6 cga6 wc ac M T
   refine Zso hK _ _ (MA.mk (fun _ => M.mask [false, false, false, false, true, true, false] rfl) (MA.mk (fun h => (no_of (by kernel_rfl) h).elim) (M.mask [false, false, false, false, false, true, false] rfl))) ?_; clear hK K
   refine gw 13 16383 ?_; intro K hK
   refine Zos M T rfl rfl (T.e 1 rfl) (T.e 2 rfl) rfl (.tail (.tail (.tail (.tail .head)))) rfl (by simp) rfl (by kernel_rfl) ?_; clear M T; intro wc ac M T
   refine Zso hK _ _ (MA.mk (fun h => (no_of (by kernel_rfl) h).elim) (MA.mk (fun h => (no_of (by kernel_rfl) h).elim) (M.mask [false, false, false, false, false, true, false] rfl))) ?_; clear hK K
   refine g_q (v := (.slice (some ⟨ga6, 0, none⟩) (tn.length + 1) cga6)) (T := T.pick [0, 1, 2, 3, 4, 5, 6, 7, 8, 9, 10, 11, 12, 13, 14, 15, 16, 17, 18, 19, 21] rfl) (i := 14) rfl (by kernel_rfl) (by kernel_rfl : (Zpb 15 16383).setIfInBounds 14 true = Zpb 15 32767) (si_and (si_G rfl) (si_and (si_G rfl) si_U)) (fun _ _ _ h => h) rfl rfl rfl rfl (fun _ _ _ _ _ => (Zra rfl (T.e 0 rfl))) ?_; clear T ac; intro ac T
   refine Zgd (by kernel_rfl) ?_
   replace T := T.pick [0, 15, 16, 17, 18, 19, 20, 21] rfl
   replace M := M.mask [true, true, false, false, true, true, true] rfl
   refine Znb ?_
   refine nm_then ?_
   refine wp_region_lit ?_
   refine Zg2 T (Zq (Zrm rfl (T.e 7 rfl))) rfl (fun _ T => Zq (rn_sub rfl (T.e 0 rfl) evc (by omega))) rfl ?_; clear T ac; intro ac T
   refine l_q (v := (.int .i64 (i - 1))) (T.pick [0, 1, 2, 3, 4, 5, 6, 7, 8] rfl) rfl rfl rfl rfl (Zra rfl (T.e 0 rfl)) ?_; clear T ac; intro ac T
   replace T := T.pick [0, 3, 4, 5, 6, 7, 8, 9] rfl
   refine Zln ?_
   have e9a : ol.length + 1 = (ol ++ [xur8_5]).length := by simp
   have e8a : ((sc ol) ++ [.int .i64 xur8_5.t0, .int .i64 xur8_5.t1, .int .i64 xur8_5.s0, .int .i64 xur8_5.s1]) = sc (ol ++ [xur8_5]) := by rw [← sc_snoc]
   rw [e9a, e8a] at M
   (try rw [e9a] at T)
   have e9b : tn.length + 1 = (tn ++ [xu5]).length := by simp
   have e8b : ((ic tn) ++ [.int .i64 xu5]) = ic (tn ++ [xu5]) := by rw [← ic_snoc]
   rw [e9b, e8b] at M
   (try rw [e9b] at T)
   exact ⟨_, by omega, (i - 1), (ol ++ [xur8_5]), _, _, (tn ++ [xu5]), _, _, sur8_5, [(ga6, .row 3 1 (tn ++ [xu5]).length (ic (tn ++ [xu5])) cga6)], [(ga5, .row 41 4 (ol ++ [xur8_5]).length (sc (ol ++ [xur8_5])) cga5)], rfl, (by omega), (by simp only [List.length_append, List.length_cons, List.length_nil]; omega), (by simp only [List.length_append, List.length_cons, List.length_nil]; omega), (fun z hz => by rcases List.mem_append.1 hz with h9 | h9; exact hgo z h9; simp only [List.mem_cons, List.not_mem_nil, or_false] at h9; subst h9; exact hxur8_5), (fun z hz => by rcases List.mem_append.1 hz with h9 | h9; exact htn z h9; simp only [List.mem_cons, List.not_mem_nil, or_false] at h9; subst h9; omega), hsur8_5, (Sl.row _ _ _ _ _ _), (Sl.row _ _ _ _ _ _), T.pick [2, 3, 4, 5, 6, 7, 1, 0] rfl, M.perm [2, 3, 4, 0, 1] rfl rfl⟩
  refine gi 1823 ?_; intro K hK
  refine ow_bs (e := 3) [.int .i64 xu5] M T rfl rfl rfl rfl (.cons (T.e 0 rfl) .nil) (fun _ => by kernel_rfl) ?_; clear M T; intro gr8_10 wc ac M T
  refine Zso hK _ _ (MA.mk (fun _ => M.perm [1, 2] rfl rfl) (MA.mk (fun _ => M.perm [1, 2, 3] rfl rfl) (M.perm [2] rfl rfl))) ?_; clear hK K
  refine gw 5 1855 ?_; intro K hK
  refine Zoc (first := []) (cap := []) T rfl rfl rfl rfl evf (.cons (T.e 5 rfl) (.cons (T.e 4 rfl) (.cons (T.e 3 rfl) .nil))) Try.func13 rfl rfl ?_
  refine Calls.mono (soundOf_any _ bp xu5 wide _ (by omega) (by omega) (M.nth 3 rfl) hsu5) ?_
  clear T; rintro e wc ⟨xur8_5, sur8_5, hxur8_5, hsur8_5, rfl, hgr, hbk⟩ ac T
  replace M := M.callC (cs' := [.int .u64 sur8_5]) (.tail (.tail (.tail .head))) hgr hbk
  clear hgr hbk
  refine Zso hK _ _ (MA.mk (fun _ => M.perm [1, 2] rfl rfl) (MA.mk (fun h => (no_of (by kernel_rfl) h).elim) (M.perm [2] rfl rfl))) ?_; clear hK K
  refine gw 6 1919 ?_; intro K hK
  refine ow_bs (e := 41) [.int .i64 xur8_5.t0, .int .i64 xur8_5.t1, .int .i64 xur8_5.s0, .int .i64 xur8_5.s1] M T rfl rfl rfl rfl (.cons (T.e 0 rfl) .nil) (fun _ => by kernel_rfl) ?_; clear M T; intro gr8_6 wc ac M T
  refine Zso hK _ _ (MA.mk (fun _ => M.perm [2, 3] rfl rfl) (MA.mk (fun h => (no_of (by kernel_rfl) h).elim) (M.perm [3] rfl rfl))) ?_; clear hK K
  refine gw 7 2047 ?_; intro K hK
  refine ow_app (((gr8_6, .cells [.int .i64 xur8_5.t0, .int .i64 xur8_5.t1, .int .i64 xur8_5.s0, .int .i64 xur8_5.s1]) :: (gr8_10, .cells [.int .i64 xu5]) :: (g2, .cells [.int .i64 lu1.first, .int .i64 lu1.step, .int .i64 lu1.span, .int .i64 lu1.press, .int .i64 xu2, .slice A3 ol.length c3, .slice none 0 0, .int .i64 0, .int .i64 0, .int .i64 0, .int .i64 0, .int .i64 0, .int .i64 0, .int .i64 0, .int .i64 0, .int .i64 0, .int .i64 0, .int .i64 0, .int .i64 0, .int .i64 0, .int .i64 xu3]) :: (g1, .cells [.int .i64 0, .int .i64 0, .int .i64 0, .int .i64 0, .int .i64 0, .slice none 0 0, .slice none 0 0, .int .i64 0, .int .i64 0, .int .i64 0, .int .i64 0, .int .i64 0, .int .i64 0, .int .i64 0, .int .i64 0, .int .i64 0, .int .i64 0, .int .i64 0, .int .i64 0, .int .i64 0, .int .i64 0]) :: (bp, .cells [.int .u64 sur8_5]) :: Ii)) Try.info41 hsl M (by first | rfl | simp) T rfl rfl rfl rfl Try.underlying27 rfl rfl rfl (by omega) (T.e 8 rfl) (T.e 0 rfl) (Zne (i := 0) rfl) rfl rfl ?_; clear M T; intro ga7 cga7 wc ac M T
  refine Zso hK _ _ (MA.mk (fun _ => M.perm [3, 4] rfl rfl) (MA.mk (fun h => (no_of (by kernel_rfl) h).elim) (M.perm [4] rfl rfl))) ?_; clear hK K
  refine gq (v := (.pointer (some ⟨g2, 5, none⟩))) T 12 6143 rfl (fun _ _ _ _ _ => (Zrf (off := 5) rfl (T.e 16 rfl) (fun _ _ _ => by kernel_rfl))) ?_; clear T ac; intro ac T
  refine gw 11 8191 ?_; intro K hK
  refine ow_app ([(ga7, .row 41 4 (ol.length + 1) ((sc ol) ++ [.int .i64 xur8_5.t0, .int .i64 xur8_5.t1, .int .i64 xur8_5.s0, .int .i64 xur8_5.s1]) cga7), (gr8_6, .cells [.int .i64 xur8_5.t0, .int .i64 xur8_5.t1, .int .i64 xur8_5.s0, .int .i64 xur8_5.s1]), (gr8_10, .cells [.int .i64 xu5]), (g2, .cells [.int .i64 lu1.first, .int .i64 lu1.step, .int .i64 lu1.span, .int .i64 lu1.press, .int .i64 xu2, .slice A3 ol.length c3, .slice none 0 0, .int .i64 0, .int .i64 0, .int .i64 0, .int .i64 0, .int .i64 0, .int .i64 0, .int .i64 0, .int .i64 0, .int .i64 0, .int .i64 0, .int .i64 0, .int .i64 0, .int .i64 0, .int .i64 xu3]), (g1, .cells [.int .i64 0, .int .i64 0, .int .i64 0, .int .i64 0, .int .i64 0, .slice none 0 0, .slice none 0 0, .int .i64 0, .int .i64 0, .int .i64 0, .int .i64 0, .int .i64 0, .int .i64 0, .int .i64 0, .int .i64 0, .int .i64 0, .int .i64 0, .int .i64 0, .int .i64 0, .int .i64 0, .int .i64 0]), (bp, .cells [.int .u64 sur8_5])]) Try.info3 hsm M (by first | rfl | simp) T rfl rfl rfl rfl Try.underlying22 rfl rfl rfl (by omega) (T.e 6 rfl) (T.e 4 rfl) (Zne (i := 2) rfl) rfl rfl ?_; clear M T; intro ga8 cga8 wc ac M T
  refine Zso hK _ _ (MA.mk (fun _ => M.mask [false, false, false, false, true, true, false] rfl) (MA.mk (fun h => (no_of (by kernel_rfl) h).elim) (M.mask [false, false, false, false, false, true, false] rfl))) ?_; clear hK K
  refine gw 13 16383 ?_; intro K hK
  refine Zos M T rfl rfl (T.e 1 rfl) (T.e 2 rfl) rfl (.tail (.tail (.tail (.tail .head)))) rfl (by simp) rfl (by kernel_rfl) ?_; clear M T; intro wc ac M T
  refine Zso hK _ _ (MA.mk (fun h => (no_of (by kernel_rfl) h).elim) (MA.mk (fun h => (no_of (by kernel_rfl) h).elim) (M.mask [false, false, false, false, false, true, false] rfl))) ?_; clear hK K
  refine g_q (v := (.slice (some ⟨ga8, 0, none⟩) (tn.length + 1) cga8)) (T := T.pick [0, 1, 2, 3, 4, 5, 6, 7, 8, 9, 10, 11, 12, 13, 14, 15, 16, 17, 18, 19, 21] rfl) (i := 14) rfl (by kernel_rfl) (by kernel_rfl : (Zpb 15 16383).setIfInBounds 14 true = Zpb 15 32767) (si_and (si_G rfl) (si_and (si_G rfl) si_U)) (fun _ _ _ h => h) rfl rfl rfl rfl (fun _ _ _ _ _ => (Zra rfl (T.e 0 rfl))) ?_; clear T ac; intro ac T
  refine Zgd (by kernel_rfl) ?_
  replace T := T.pick [0, 15, 16, 17, 18, 19, 20, 21] rfl
  replace M := M.mask [true, true, false, false, true, true, true] rfl
  refine Znb ?_
  refine nm_then ?_
  refine wp_region_lit ?_
  refine Zg2 T (Zq (Zrm rfl (T.e 7 rfl))) rfl (fun _ T => Zq (rn_sub rfl (T.e 0 rfl) evc (by omega))) rfl ?_; clear T ac; intro ac T
  refine l_q (v := (.int .i64 (i - 1))) (T.pick [0, 1, 2, 3, 4, 5, 6, 7, 8] rfl) rfl rfl rfl rfl (Zra rfl (T.e 0 rfl)) ?_; clear T ac; intro ac T
  replace T := T.pick [0, 3, 4, 5, 6, 7, 8, 9] rfl
  refine Zln ?_
  have e9a : ol.length + 1 = (ol ++ [xur8_5]).length := by simp
  have e8a : ((sc ol) ++ [.int .i64 xur8_5.t0, .int .i64 xur8_5.t1, .int .i64 xur8_5.s0, .int .i64 xur8_5.s1]) = sc (ol ++ [xur8_5]) := by rw [← sc_snoc]
  rw [e9a, e8a] at M
  (try rw [e9a] at T)
  have e9b : tn.length + 1 = (tn ++ [xu5]).length := by simp
  have e8b : ((ic tn) ++ [.int .i64 xu5]) = ic (tn ++ [xu5]) := by rw [← ic_snoc]
  rw [e9b, e8b] at M
  (try rw [e9b] at T)
  exact ⟨_, by omega, (i - 1), (ol ++ [xur8_5]), _, _, (tn ++ [xu5]), _, _, sur8_5, [(ga8, .row 3 1 (tn ++ [xu5]).length (ic (tn ++ [xu5])) cga8)], [(ga7, .row 41 4 (ol ++ [xur8_5]).length (sc (ol ++ [xur8_5])) cga7)], rfl, (by omega), (by simp only [List.length_append, List.length_cons, List.length_nil]; omega), (by simp only [List.length_append, List.length_cons, List.length_nil]; omega), (fun z hz => by rcases List.mem_append.1 hz with h9 | h9; exact hgo z h9; simp only [List.mem_cons, List.not_mem_nil, or_false] at h9; subst h9; exact hxur8_5), (fun z hz => by rcases List.mem_append.1 hz with h9 | h9; exact htn z h9; simp only [List.mem_cons, List.not_mem_nil, or_false] at h9; subst h9; omega), hsur8_5, (Sl.row _ _ _ _ _ _), (Sl.row _ _ _ _ _ _), T.pick [2, 3, 4, 5, 6, 7, 1, 0] rfl, M.perm [2, 3, 4, 0, 1] rfl rfl⟩
 intro h1
 refine wp_exit ?_
 refine Zet ?_
 refine Zet ?_
 refine ex_hit ?_
 refine Zns ?_
 refine Zsr ?_
 refine Zg3 T (Zq (Zrm rfl (T.e 1 rfl))) rfl (Zm 3 rfl rfl) rfl (fun _ T => Zq (rn_min2 rfl (T.e 0 rfl) evc)) rfl ?_; clear T ac; intro ac T
 refine Zl2 ?_
 refine Zoc (first := []) (cap := []) T rfl rfl rfl rfl evf (.cons (T.e 2 rfl) (.cons (T.e 0 rfl) .nil)) Try.func12 rfl rfl ?_
 refine Calls.mono (upto_any _ bp (min nhi 5) _ (by omega) (by omega) (M.nth 2 rfl) hs) ?_
 clear T; rintro e wc ⟨xu6, su6, hxu6, hsu6, rfl, hgr, hbk⟩ ac T
 replace M := M.callC (cs' := [.int .u64 su6]) (.tail (.tail .head)) hgr hbk
 clear hgr hbk
 refine lq T (Zra rfl (T.e 0 rfl)) ?_; clear T ac; intro ac T
 replace T := T.pick [0, 6, 8, 9, 10, 11, 12] rfl
 refine Zln ?_
 refine wp_block ?_
 obtain ⟨bt, ot, St0⟩ := hsm.spV (by rw [ic_length]; omega)
 have St := St0 w (fun b => b = bp)
 refine wp_loop_n (fun mz ac wc => ∃ (q : Int) (oh : List Snd) (A5 : Option Addr) (c5 : Nat) (s : Int) (Ih : List (Nat × BA)), mz = q.toNat ∧ (0 ≤ q) ∧ ((oh.length : Int) + q = xu6) ∧ (∀ z ∈ oh, z.good ∧ z.t1 - z.t0 ≤ 2 * wide) ∧ (u64ok s) ∧ (Sl 41 4 (.slice A5 oh.length c5) oh.length (sc oh) Ih) ∧ Tm ac 115 [(0, .pointer (some ⟨bp, 0, none⟩)), (3, .int .i64 wide), (8, .pointer (some ⟨g1, 0, none⟩)), (9, .pointer (some ⟨g2, 0, none⟩)), (10, .int .i64 (lu1.first + (lu1.step * xu2))), (11, .slice A4 tn.length c4), (14, .int .i64 q)] ∧ Mem w (fun b => b = bp) wc ((g2, .cells [.int .i64 lu1.first, .int .i64 lu1.step, .int .i64 lu1.span, .int .i64 lu1.press, .int .i64 xu2, .slice A3 ol.length c3, .slice A5 oh.length c5, .int .i64 0, .int .i64 0, .int .i64 0, .int .i64 0, .int .i64 0, .int .i64 0, .int .i64 0, .int .i64 0, .int .i64 0, .int .i64 0, .int .i64 0, .int .i64 0, .int .i64 0, .int .i64 xu3]) :: (g1, .cells [.int .i64 0, .int .i64 0, .int .i64 0, .int .i64 0, .int .i64 0, .slice none 0 0, .slice none 0 0, .int .i64 0, .int .i64 0, .int .i64 0, .int .i64 0, .int .i64 0, .int .i64 0, .int .i64 0, .int .i64 0, .int .i64 0, .int .i64 0, .int .i64 0, .int .i64 0, .int .i64 0, .int .i64 0]) :: (bp, .cells [.int .u64 s]) :: (Ii ++ Io ++ Ih))) ?_ ?_
 ·exact ⟨_, _, [], none, 0, _, [], rfl, (by omega), (by simp), (fun z hz => by cases hz), hsu6, (Sl.nil _ _), T.pick [1, 2, 3, 4, 5, 6, 0] rfl, (by simp only [List.append_nil]; exact M)⟩
 clear T M
 rintro mz ac wc ⟨q, oh, A5, c5, s, Ih, hmm2, hi2, hoh, hgh, hs2, hsh, T, M⟩
 refine wp_seq ?_
 refine Zsr ?_
 refine Zg2 T (Zq (Zrm rfl (T.e 6 rfl))) rfl (fun _ T => Zq (rn_gtr rfl (T.e 0 rfl) evc)) rfl ?_; clear T ac; intro ac T
 replace T := T.pick [0, 2, 3, 4, 5, 6, 7, 8] rfl
 refine Zln ?_
 refine wp_if (T.e 0 rfl) ?_ ?_
 ·intro h2
  refine Zsk ?_
  refine wp_seq ?_
  refine wp_block ?_
  refine Zsr ?_
  refine lq T (Zrm rfl (T.e 1 rfl)) ?_; clear T ac; intro ac T
  refine Zl2 ?_
  refine Zoc (first := []) (cap := []) T rfl rfl rfl rfl evf (.cons (T.e 0 rfl) (.cons evc (.cons evc .nil))) Try.func6 rfl rfl ?_
  refine Calls.mono (within_pot _ bp (-5) 5 _ (by omega) (by omega) (by omega) (M.nth 2 rfl) hs2) ?_
  clear T; rintro e wc ⟨xu7, su7, hxu7, hsu7, rfl, hgr, hbk⟩ ac T
  replace M := M.callC (cs' := [.int .u64 su7]) (.tail (.tail .head)) hgr hbk
  clear hgr hbk
  refine lq T (Zra rfl (T.e 0 rfl)) ?_; clear T ac; intro ac T
  replace T := T.pick [0, 4, 5, 6, 7, 8, 9, 10] rfl
  refine Zln ?_
  refine wp_seq ?_
  refine Zsr ?_
  refine Zg3 T (Zq (Zrm rfl (T.e 6 rfl))) rfl (Zl Try.underlying22 0 rfl rfl) rfl (fun _ T => Zq (rn_gtr rfl (T.e 0 rfl) evc)) rfl ?_; clear T ac; intro ac T
  replace T := T.pick [0, 3, 4, 5, 6, 7, 8, 9, 10] rfl
  refine Zln ?_
  refine wp_if (T.e 0 rfl) ?_ ?_
  ·intro h3
   refine Zgs M (M.mask [true, true, false] rfl) 21 (by kernel_rfl) rfl (by kernel_rfl) ?_
   clear M; intro wc M
   refine g_addG 5 M ?_
   refine gq T 0 1 rfl (fun _ _ _ _ _ => (Zrm rfl (T.e 7 rfl))) ?_; clear T ac; intro ac T
   refine gq T 1 3 rfl (fun _ _ _ _ _ => (Zrm rfl (T.e 3 rfl))) ?_; clear T ac; intro ac T
   refine gq T 2 7 rfl (fun _ _ _ _ _ => (Zrm rfl (T.e 9 rfl))) ?_; clear T ac; intro ac T
   refine gq T 3 15 rfl (fun _ _ _ _ _ => (Zrl rfl Try.underlying22 (T.e 0 rfl))) ?_; clear T ac; intro ac T
   refine gq T 4 31 rfl (fun _ _ _ _ _ => (rn_sub rfl (T.e 0 rfl) evc (by omega))) ?_; clear T ac; intro ac T
   refine gq T 8 287 rfl (fun _ _ _ _ _ => (Zrm rfl (T.e 7 rfl))) ?_; clear T ac; intro ac T
   refine gq (v := (.pointer (some ⟨g2, 0, none⟩))) T 9 799 rfl (fun _ _ _ _ _ => (Zrf (off := 0) rfl (T.e 11 rfl) (fun _ _ _ => by kernel_rfl))) ?_; clear T ac; intro ac T
   refine gq (v := (.pointer (some ⟨g2, 2, none⟩))) T 10 1823 rfl (fun _ _ _ _ _ => (Zrf (off := 2) rfl (T.e 0 rfl) (fun _ _ _ => by kernel_rfl))) ?_; clear T ac; intro ac T
   refine gq T 11 3871 rfl (fun B w' hD hl hS => (Zro (Mem.nth (show Mem w (fun b => b = bp) w' _ from (MA.rgt hS)) 0 rfl) rfl (T.e 0 rfl) rfl)) ?_; clear T ac; intro ac T
   refine gq T 12 7967 rfl (fun _ _ _ _ _ => (rn_neg rfl (T.e 0 rfl) (by omega))) ?_; clear T ac; intro ac T
   refine gq T 13 16159 rfl (fun _ _ _ _ _ => (rn_sub rfl (T.e 0 rfl) evc (by omega))) ?_; clear T ac; intro ac T
   refine gq (v := (.pointer (some ⟨g2, 0, none⟩))) T 14 32543 rfl (fun _ _ _ _ _ => (Zrf (off := 0) rfl (T.e 16 rfl) (fun _ _ _ => by kernel_rfl))) ?_; clear T ac; intro ac T
   refine gq (v := (.pointer (some ⟨g2, 2, none⟩))) T 15 65311 rfl (fun _ _ _ _ _ => (Zrf (off := 2) rfl (T.e 0 rfl) (fun _ _ _ => by kernel_rfl))) ?_; clear T ac; intro ac T
   refine gq T 16 130847 rfl (fun B w' hD hl hS => (Zro (Mem.nth (show Mem w (fun b => b = bp) w' _ from (MA.rgt hS)) 0 rfl) rfl (T.e 0 rfl) rfl)) ?_; clear T ac; intro ac T
   refine gq T 17 261919 rfl (fun _ _ _ _ _ => (rn_add rfl (T.e 0 rfl) evc (by omega))) ?_; clear T ac; intro ac T
   refine gw 5 261951 ?_; intro K hK
   refine Zoc (first := []) (cap := []) T rfl rfl rfl rfl evf (.cons (T.e 13 rfl) (.cons (T.e 10 rfl) .nil)) Try.func12 rfl rfl ?_
   refine Calls.mono (upto_any _ bp (((tn.length : Nat) : Int) - 1) _ (by omega) (by omega) (M.nth 2 rfl) hsu7) ?_
   clear T; rintro e wc ⟨xu8, su8, hxu8, hsu8, rfl, hgr, hbk⟩ ac T
   replace M := M.callC (cs' := [.int .u64 su8]) (.tail (.tail .head)) hgr hbk
   clear hgr hbk
   obtain ⟨kuu8, hkuu8⟩ : ∃ k : Nat, xu8 = (k : Int) := ⟨xu8.toNat, by omega⟩
   obtain ⟨ntu8, hntu8, -⟩ := ic_next (l := tn) (k := kuu8) (by omega)
   have hntbu8 := htn _ (List.mem_of_getElem? hntu8)
   refine Zso hK _ _ (MA.mk (fun h => (no_of (by kernel_rfl) h).elim) (M.mask [true, true, false] rfl)) ?_; clear hK K
   refine g_addG 18 M ?_
   refine gq T 6 262015 rfl (fun _ _ _ _ _ => (Zri (size := 1) kuu8 rfl (T.e 15 rfl) (T.e 0 rfl) ⟨_, Try.underlying22, by kernel_rfl⟩ hkuu8 (by omega) (St.at0 (by omega)))) ?_; clear T ac; intro ac T
   refine gq T 7 262143 rfl (fun B w' hD hl hS => (rn_cell (Sp.ic0 St (show Mem w (fun b => b = bp) w' _ from (MA.rgt (MA.rgt hS))) (.cons _ (.cons _ (subL (subL (List.Sublist.refl _))))) hntu8) rfl (T.e 0 rfl))) ?_; clear T ac; intro ac T
   refine gw 18 524287 ?_; intro K hK
   refine Zoc (first := []) (cap := []) T rfl rfl rfl rfl evf (.cons (T.e 12 rfl) (.cons (T.e 7 rfl) (.cons (T.e 3 rfl) .nil))) Try.func6 rfl rfl ?_
   refine Calls.mono (within_pot _ bp ((-lu1.span) - 3) (lu1.span + 3) _ (by omega) (by omega) (by omega) (M.nth 2 rfl) hsu8) ?_
   clear T; rintro e wc ⟨xu9, su9, hxu9, hsu9, rfl, hgr, hbk⟩ ac T
   replace M := M.callC (cs' := [.int .u64 su9]) (.tail (.tail .head)) hgr hbk
   clear hgr hbk
   refine Zso hK _ _ (MA.mk (fun h => (no_of (by kernel_rfl) h).elim) (MA.mk (fun h => (no_of (by kernel_rfl) h).elim) (M.mask [true, true, false] rfl))) ?_; clear hK K
   refine gq T 19 1048575 rfl (fun _ _ _ _ _ => (rn_add rfl (T.e 1 rfl) (T.e 0 rfl) (by omega))) ?_; clear T ac; intro ac T
   refine g_q (v := (.int .i64 (ntu8 + xu9))) (T := T.pick [0, 1, 2, 3, 4, 5, 6, 7, 8, 9, 10, 11, 12, 13, 14, 15, 16, 17, 18, 19, 20, 22, 23, 24, 25, 26, 27, 28] rfl) (i := 20) rfl (by kernel_rfl) (by kernel_rfl : (Zpb 21 1048575).setIfInBounds 20 true = Zpb 21 2097151) (si_and (si_G rfl) (si_and (si_G rfl) si_U)) (fun _ _ _ h => h) rfl rfl rfl rfl (fun _ _ _ _ _ => (Zra rfl (T.e 0 rfl))) ?_; clear T ac; intro ac T
   refine Zgd (by kernel_rfl) ?_
   replace T := T.pick [0, 22, 23, 24, 25, 26, 27, 28] rfl
   refine nm_then ?_
   refine Zgs M (M.perm [1] rfl rfl) 12 (by kernel_rfl) rfl (by kernel_rfl) ?_
   clear M; intro wc M
   refine g_addG 7 (M.perm [0, 1, 2] rfl rfl) ?_
   refine g_addG 11 (M.perm [0, 1] rfl rfl) ?_
   refine gq (v := (.pointer (some ⟨g2, 6, none⟩))) T 0 1 rfl (fun _ _ _ _ _ => (Zrf (off := 6) rfl (T.e 4 rfl) (fun _ _ _ => by kernel_rfl))) ?_; clear T ac; intro ac T
   refine gq T 1 3 rfl (fun B w' hD hl hS => (Zro (Mem.nth (show Mem w (fun b => b = bp) w' _ from ((MA.lft hS) (hD.wait (i := 1) (m := 11) (by kernel_rfl) hl))) 0 rfl) rfl (T.e 0 rfl) rfl)) ?_; clear T ac; intro ac T
   refine gq T 2 7 rfl (fun _ _ _ _ _ => (Zrm rfl (T.e 3 rfl))) ?_; clear T ac; intro ac T
   refine gq T 3 15 rfl (fun _ _ _ _ _ => (Zrm rfl (T.e 3 rfl))) ?_; clear T ac; intro ac T
   refine gq T 4 31 rfl (fun _ _ _ _ _ => (Zrm rfl (T.e 9 rfl))) ?_; clear T ac; intro ac T
   refine gq T 5 63 rfl (fun _ _ _ _ _ => (rn_add rfl (T.e 1 rfl) (T.e 0 rfl) (by omega))) ?_; clear T ac; intro ac T
   refine gq T 6 127 rfl (fun _ _ _ _ _ => (Zrm rfl (T.e 8 rfl))) ?_; clear T ac; intro ac T
   refine gw 7 255 ?_; intro K hK
   refine Zoc (first := []) (cap := []) T rfl rfl rfl rfl evf (.cons (T.e 4 rfl) (.cons (T.e 1 rfl) (.cons (T.e 0 rfl) .nil))) Try.func13 rfl rfl ?_
   refine Calls.mono (soundOf_any _ bp ((ntu8 + xu9) + (lu1.first + (lu1.step * xu2))) wide _ (by omega) (by omega) (M.nth 2 rfl) hsu9) ?_
   clear T; rintro e wc ⟨xu10, su10, hxu10, hsu10, rfl, hgr, hbk⟩ ac T
   replace M := M.callC (cs' := [.int .u64 su10]) (.tail (.tail .head)) hgr hbk
   clear hgr hbk
   refine Zso hK _ _ (MA.mk (fun _ => M.perm [0, 1] rfl rfl) (MA.mk (fun h => (no_of (by kernel_rfl) h).elim) (M.perm [1] rfl rfl))) ?_; clear hK K
   refine gw 8 511 ?_; intro K hK
   refine ow_bs (e := 41) [.int .i64 xu10.t0, .int .i64 xu10.t1, .int .i64 xu10.s0, .int .i64 xu10.s1] M T rfl rfl rfl rfl (.cons (T.e 0 rfl) .nil) (fun _ => by kernel_rfl) ?_; clear M T; intro g3 wc ac M T
   refine Zso hK _ _ (MA.mk (fun _ => M.perm [1, 2] rfl rfl) (MA.mk (fun h => (no_of (by kernel_rfl) h).elim) (M.perm [2] rfl rfl))) ?_; clear hK K
   refine gw 9 1023 ?_; intro K hK
   refine ow_app (((g3, .cells [.int .i64 xu10.t0, .int .i64 xu10.t1, .int .i64 xu10.s0, .int .i64 xu10.s1]) :: (g2, .cells [.int .i64 lu1.first, .int .i64 lu1.step, .int .i64 lu1.span, .int .i64 lu1.press, .int .i64 xu2, .slice A3 ol.length c3, .slice A5 oh.length c5, .int .i64 0, .int .i64 0, .int .i64 0, .int .i64 0, .int .i64 0, .int .i64 0, .int .i64 0, .int .i64 0, .int .i64 0, .int .i64 0, .int .i64 0, .int .i64 0, .int .i64 0, .int .i64 xu3]) :: (g1, .cells [.int .i64 0, .int .i64 0, .int .i64 0, .int .i64 0, .int .i64 0, .slice none 0 0, .slice none 0 0, .int .i64 0, .int .i64 0, .int .i64 0, .int .i64 0, .int .i64 0, .int .i64 0, .int .i64 0, .int .i64 0, .int .i64 0, .int .i64 0, .int .i64 0, .int .i64 0, .int .i64 0, .int .i64 0]) :: (bp, .cells [.int .u64 su10]) :: (Ii ++ Io))) Try.info41 hsh M (by first | rfl | simp) T rfl rfl rfl rfl Try.underlying27 rfl rfl rfl (by omega) (T.e 7 rfl) (T.e 0 rfl) (Zne (i := 0) rfl) rfl rfl ?_; clear M T; intro ga9 cga9 wc ac M T
   refine Zso hK _ _ (MA.mk (fun _ => M.perm [2, 3] rfl rfl) (MA.mk (fun h => (no_of (by kernel_rfl) h).elim) (M.perm [3] rfl rfl))) ?_; clear hK K
   refine gq (v := (.pointer (some ⟨g2, 6, none⟩))) T 10 2047 rfl (fun _ _ _ _ _ => (Zrf (off := 6) rfl (T.e 14 rfl) (fun _ _ _ => by kernel_rfl))) ?_; clear T ac; intro ac T
   refine gw 11 4095 ?_; intro K hK
   refine Zos M T rfl rfl (T.e 0 rfl) (T.e 1 rfl) rfl (.tail (.tail .head)) rfl (by simp) rfl (by kernel_rfl) ?_; clear M T; intro wc ac M T
   refine Zso hK _ _ (MA.mk (fun h => (no_of (by kernel_rfl) h).elim) (MA.mk (fun h => (no_of (by kernel_rfl) h).elim) (M.perm [3] rfl rfl))) ?_; clear hK K
   refine Zgd (by kernel_rfl) ?_
   replace T := T.pick [12, 13, 14, 15, 16, 17, 18] rfl
   replace M := M.mask [true, false, true, true, true] rfl
   refine Znb ?_
   refine nm_then ?_
   refine wp_region_lit ?_
   refine Zg2 T (Zq (Zrm rfl (T.e 6 rfl))) rfl (fun _ T => Zq (rn_sub rfl (T.e 0 rfl) evc (by omega))) rfl ?_; clear T ac; intro ac T
   refine l_q (v := (.int .i64 (q - 1))) (T.pick [0, 1, 2, 3, 4, 5, 6, 7] rfl) rfl rfl rfl rfl (Zra rfl (T.e 0 rfl)) ?_; clear T ac; intro ac T
   replace T := T.pick [0, 3, 4, 5, 6, 7, 8] rfl
   refine Zln ?_
   have e9a : oh.length + 1 = (oh ++ [xu10]).length := by simp
   have e8a : ((sc oh) ++ [.int .i64 xu10.t0, .int .i64 xu10.t1, .int .i64 xu10.s0, .int .i64 xu10.s1]) = sc (oh ++ [xu10]) := by rw [← sc_snoc]
   rw [e9a, e8a] at M
   (try rw [e9a] at T)
   exact ⟨_, by omega, (q - 1), (oh ++ [xu10]), _, _, su10, [(ga9, .row 41 4 (oh ++ [xu10]).length (sc (oh ++ [xu10])) cga9)], rfl, (by omega), (by simp only [List.length_append, List.length_cons, List.length_nil]; omega), (fun z hz => by rcases List.mem_append.1 hz with h9 | h9; exact hgh z h9; simp only [List.mem_cons, List.not_mem_nil, or_false] at h9; subst h9; exact hxu10), hsu10, (Sl.row _ _ _ _ _ _), T.pick [1, 2, 3, 4, 5, 6, 0] rfl, (Mem.spin [(g2, .cells [.int .i64 lu1.first, .int .i64 lu1.step, .int .i64 lu1.span, .int .i64 lu1.press, .int .i64 xu2, .slice A3 ol.length c3, .slice (some ⟨ga9, 0, none⟩) ((oh ++ [xu10]).length) cga9, .int .i64 0, .int .i64 0, .int .i64 0, .int .i64 0, .int .i64 0, .int .i64 0, .int .i64 0, .int .i64 0, .int .i64 0, .int .i64 0, .int .i64 0, .int .i64 0, .int .i64 0, .int .i64 xu3]), (g1, .cells [.int .i64 0, .int .i64 0, .int .i64 0, .int .i64 0, .int .i64 0, .slice none 0 0, .slice none 0 0, .int .i64 0, .int .i64 0, .int .i64 0, .int .i64 0, .int .i64 0, .int .i64 0, .int .i64 0, .int .i64 0, .int .i64 0, .int .i64 0, .int .i64 0, .int .i64 0, .int .i64 0, .int .i64 0]), (bp, .cells [.int .u64 su10])] [(ga9, .row 41 4 (oh ++ [xu10]).length (sc (oh ++ [xu10])) cga9)] (Ii ++ Io) (M.permT [1, 2, 3, 0] 4 rfl rfl rfl rfl))⟩
  intro h3
  refine Zsk ?_
  refine Zgs M (M.perm [1] rfl rfl) 12 (by kernel_rfl) rfl (by kernel_rfl) ?_
  clear M; intro wc M
  refine g_addG 7 (M.perm [0, 1, 2] rfl rfl) ?_
  refine g_addG 11 (M.perm [0, 1] rfl rfl) ?_
  refine gq (v := (.pointer (some ⟨g2, 6, none⟩))) T 0 1 rfl (fun _ _ _ _ _ => (Zrf (off := 6) rfl (T.e 5 rfl) (fun _ _ _ => by kernel_rfl))) ?_; clear T ac; intro ac T
  refine gq T 1 3 rfl (fun B w' hD hl hS => (Zro (Mem.nth (show Mem w (fun b => b = bp) w' _ from ((MA.lft hS) (hD.wait (i := 1) (m := 11) (by kernel_rfl) hl))) 0 rfl) rfl (T.e 0 rfl) rfl)) ?_; clear T ac; intro ac T
  refine gq T 2 7 rfl (fun _ _ _ _ _ => (Zrm rfl (T.e 4 rfl))) ?_; clear T ac; intro ac T
  refine gq T 3 15 rfl (fun _ _ _ _ _ => (Zrm rfl (T.e 4 rfl))) ?_; clear T ac; intro ac T
  refine gq T 4 31 rfl (fun _ _ _ _ _ => (Zrm rfl (T.e 10 rfl))) ?_; clear T ac; intro ac T
  refine gq T 5 63 rfl (fun _ _ _ _ _ => (rn_add rfl (T.e 1 rfl) (T.e 0 rfl) (by omega))) ?_; clear T ac; intro ac T
  refine gq T 6 127 rfl (fun _ _ _ _ _ => (Zrm rfl (T.e 9 rfl))) ?_; clear T ac; intro ac T
  refine gw 7 255 ?_; intro K hK
  refine Zoc (first := []) (cap := []) T rfl rfl rfl rfl evf (.cons (T.e 4 rfl) (.cons (T.e 1 rfl) (.cons (T.e 0 rfl) .nil))) Try.func13 rfl rfl ?_
  refine Calls.mono (soundOf_any _ bp (xu7 + (lu1.first + (lu1.step * xu2))) wide _ (by omega) (by omega) (M.nth 2 rfl) hsu7) ?_
  clear T; rintro e wc ⟨xu11, su11, hxu11, hsu11, rfl, hgr, hbk⟩ ac T
  replace M := M.callC (cs' := [.int .u64 su11]) (.tail (.tail .head)) hgr hbk
  clear hgr hbk
  refine Zso hK _ _ (MA.mk (fun _ => M.perm [0, 1] rfl rfl) (MA.mk (fun h => (no_of (by kernel_rfl) h).elim) (M.perm [1] rfl rfl))) ?_; clear hK K
  refine gw 8 511 ?_; intro K hK
  refine ow_bs (e := 41) [.int .i64 xu11.t0, .int .i64 xu11.t1, .int .i64 xu11.s0, .int .i64 xu11.s1] M T rfl rfl rfl rfl (.cons (T.e 0 rfl) .nil) (fun _ => by kernel_rfl) ?_; clear M T; intro g4 wc ac M T
  refine Zso hK _ _ (MA.mk (fun _ => M.perm [1, 2] rfl rfl) (MA.mk (fun h => (no_of (by kernel_rfl) h).elim) (M.perm [2] rfl rfl))) ?_; clear hK K
  refine gw 9 1023 ?_; intro K hK
  refine ow_app (((g4, .cells [.int .i64 xu11.t0, .int .i64 xu11.t1, .int .i64 xu11.s0, .int .i64 xu11.s1]) :: (g2, .cells [.int .i64 lu1.first, .int .i64 lu1.step, .int .i64 lu1.span, .int .i64 lu1.press, .int .i64 xu2, .slice A3 ol.length c3, .slice A5 oh.length c5, .int .i64 0, .int .i64 0, .int .i64 0, .int .i64 0, .int .i64 0, .int .i64 0, .int .i64 0, .int .i64 0, .int .i64 0, .int .i64 0, .int .i64 0, .int .i64 0, .int .i64 0, .int .i64 xu3]) :: (g1, .cells [.int .i64 0, .int .i64 0, .int .i64 0, .int .i64 0, .int .i64 0, .slice none 0 0, .slice none 0 0, .int .i64 0, .int .i64 0, .int .i64 0, .int .i64 0, .int .i64 0, .int .i64 0, .int .i64 0, .int .i64 0, .int .i64 0, .int .i64 0, .int .i64 0, .int .i64 0, .int .i64 0, .int .i64 0]) :: (bp, .cells [.int .u64 su11]) :: (Ii ++ Io))) Try.info41 hsh M (by first | rfl | simp) T rfl rfl rfl rfl Try.underlying27 rfl rfl rfl (by omega) (T.e 7 rfl) (T.e 0 rfl) (Zne (i := 0) rfl) rfl rfl ?_; clear M T; intro ga10 cga10 wc ac M T
  refine Zso hK _ _ (MA.mk (fun _ => M.perm [2, 3] rfl rfl) (MA.mk (fun h => (no_of (by kernel_rfl) h).elim) (M.perm [3] rfl rfl))) ?_; clear hK K
  refine gq (v := (.pointer (some ⟨g2, 6, none⟩))) T 10 2047 rfl (fun _ _ _ _ _ => (Zrf (off := 6) rfl (T.e 15 rfl) (fun _ _ _ => by kernel_rfl))) ?_; clear T ac; intro ac T
  refine gw 11 4095 ?_; intro K hK
  refine Zos M T rfl rfl (T.e 0 rfl) (T.e 1 rfl) rfl (.tail (.tail .head)) rfl (by simp) rfl (by kernel_rfl) ?_; clear M T; intro wc ac M T
  refine Zso hK _ _ (MA.mk (fun h => (no_of (by kernel_rfl) h).elim) (MA.mk (fun h => (no_of (by kernel_rfl) h).elim) (M.perm [3] rfl rfl))) ?_; clear hK K
  refine Zgd (by kernel_rfl) ?_
  replace T := T.pick [13, 14, 15, 16, 17, 18, 19] rfl
  replace M := M.mask [true, false, true, true, true] rfl
  refine Znb ?_
  refine nm_then ?_
  refine wp_region_lit ?_
  refine Zg2 T (Zq (Zrm rfl (T.e 6 rfl))) rfl (fun _ T => Zq (rn_sub rfl (T.e 0 rfl) evc (by omega))) rfl ?_; clear T ac; intro ac T
  refine l_q (v := (.int .i64 (q - 1))) (T.pick [0, 1, 2, 3, 4, 5, 6, 7] rfl) rfl rfl rfl rfl (Zra rfl (T.e 0 rfl)) ?_; clear T ac; intro ac T
  replace T := T.pick [0, 3, 4, 5, 6, 7, 8] rfl
  refine Zln ?_
  have e9a : oh.length + 1 = (oh ++ [xu11]).length := by simp
  have e8a : ((sc oh) ++ [.int .i64 xu11.t0, .int .i64 xu11.t1, .int .i64 xu11.s0, .int .i64 xu11.s1]) = sc (oh ++ [xu11]) := by rw [← sc_snoc]
  rw [e9a, e8a] at M
  (try rw [e9a] at T)
  exact ⟨_, by omega, (q - 1), (oh ++ [xu11]), _, _, su11, [(ga10, .row 41 4 (oh ++ [xu11]).length (sc (oh ++ [xu11])) cga10)], rfl, (by omega), (by simp only [List.length_append, List.length_cons, List.length_nil]; omega), (fun z hz => by rcases List.mem_append.1 hz with h9 | h9; exact hgh z h9; simp only [List.mem_cons, List.not_mem_nil, or_false] at h9; subst h9; exact hxu11), hsu11, (Sl.row _ _ _ _ _ _), T.pick [1, 2, 3, 4, 5, 6, 0] rfl, (Mem.spin [(g2, .cells [.int .i64 lu1.first, .int .i64 lu1.step, .int .i64 lu1.span, .int .i64 lu1.press, .int .i64 xu2, .slice A3 ol.length c3, .slice (some ⟨ga10, 0, none⟩) ((oh ++ [xu11]).length) cga10, .int .i64 0, .int .i64 0, .int .i64 0, .int .i64 0, .int .i64 0, .int .i64 0, .int .i64 0, .int .i64 0, .int .i64 0, .int .i64 0, .int .i64 0, .int .i64 0, .int .i64 0, .int .i64 xu3]), (g1, .cells [.int .i64 0, .int .i64 0, .int .i64 0, .int .i64 0, .int .i64 0, .slice none 0 0, .slice none 0 0, .int .i64 0, .int .i64 0, .int .i64 0, .int .i64 0, .int .i64 0, .int .i64 0, .int .i64 0, .int .i64 0, .int .i64 0, .int .i64 0, .int .i64 0, .int .i64 0, .int .i64 0, .int .i64 0]), (bp, .cells [.int .u64 su11])] [(ga10, .row 41 4 (oh ++ [xu11]).length (sc (oh ++ [xu11])) cga10)] (Ii ++ Io) (M.permT [1, 2, 3, 0] 4 rfl rfl rfl rfl))⟩
 intro h2
 refine wp_exit ?_
 refine Zet ?_
 refine Zet ?_
 refine ex_hit ?_
 refine nm_then ?_
 refine Zsr ?_
 refine lq T (Zrm rfl (T.e 1 rfl)) ?_; clear T ac; intro ac T
 refine Zl2 ?_
 refine Zoc (first := []) (cap := []) T rfl rfl rfl rfl evf (.cons (T.e 0 rfl) (.cons evc (.cons evc .nil))) Try.func14 rfl rfl ?_
 refine Calls.mono (jobOf_any _ bp 0 1 _ (by omega) (by omega) (by omega) (by omega) (M.nth 2 rfl) hs2) ?_
 clear T; rintro e wc ⟨ju12, Au12, cu12, su12, Iu12, rfl, hmu12, hsu12, hslu12, N⟩ ac T
 obtain ⟨bu12, ou12, SVu12⟩ := hslu12.spV (rc_length _)
 have Su12 := SVu12 w (fun b => b = bp)
 replace M := (M.joinW (.tail (.tail .head)) N).swapI
 replace M := M.mask [true, true, true] rfl
 clear N hslu12
 have hgu12 := hmu12.good
 have hfewu12 := hgu12.few
 have hpu12 := hgu12.p
 have hmeu12 := hgu12.me
 refine Zl2 ?_
 refine Zoa M T rfl rfl rfl rfl ?_; clear M T; intro g5 wc ac M T
 refine Zl2 ?_
 refine Zos M T rfl rfl (T.e 0 rfl) (T.e 1 rfl) rfl .head rfl (by simp) rfl (by kernel_rfl) ?_; clear M T; intro wc ac M T
 replace T := T.pick [0, 6, 7] rfl
 refine Zln ?_
 refine wp_seq ?_
 refine Zgs M (M.mask [true, false, true, true] rfl) 14 (by kernel_rfl) rfl (by kernel_rfl) ?_
 clear M; intro wc M
 refine g_addG 9 M ?_
 refine gq (v := (.pointer (some ⟨g5, 0, none⟩))) T 0 1 rfl (fun _ _ _ _ _ => (Zrf (off := 0) rfl (T.e 0 rfl) (fun _ _ _ => by kernel_rfl))) ?_; clear T ac; intro ac T
 refine gq (v := (.pointer (some ⟨g5, 2, none⟩))) T 1 3 rfl (fun _ _ _ _ _ => (Zrf (off := 2) rfl (T.e 0 rfl) (fun _ _ _ => by kernel_rfl))) ?_; clear T ac; intro ac T
 refine gq T 2 7 rfl (fun B w' hD hl hS => (Zrr (Mem.nth (show Mem w (fun b => b = bp) w' _ from ((MA.lft hS) (hD.wait (i := 2) (m := 9) (by kernel_rfl) hl))) 0 rfl) rfl (T.e 0 rfl) rfl)) ?_; clear T ac; intro ac T
 refine gq (v := (.pointer (some ⟨g5, 0, none⟩))) T 3 15 rfl (fun _ _ _ _ _ => (Zrf (off := 0) rfl (T.e 3 rfl) (fun _ _ _ => by kernel_rfl))) ?_; clear T ac; intro ac T
 refine gq (v := (.pointer (some ⟨g5, 4, none⟩))) T 4 31 rfl (fun _ _ _ _ _ => (Zrf (off := 4) rfl (T.e 0 rfl) (fun _ _ _ => by kernel_rfl))) ?_; clear T ac; intro ac T
 refine gq T 5 63 rfl (fun B w' hD hl hS => (Zrr (Mem.nth (show Mem w (fun b => b = bp) w' _ from (MA.rgt hS)) 0 rfl) rfl (T.e 0 rfl) rfl)) ?_; clear T ac; intro ac T
 refine gq (v := (.pointer (some ⟨g5, 6, none⟩))) T 6 127 rfl (fun _ _ _ _ _ => (Zrf (off := 6) rfl (T.e 6 rfl) (fun _ _ _ => by kernel_rfl))) ?_; clear T ac; intro ac T
 refine gq T 7 255 rfl (fun B w' hD hl hS => (Zrr (Mem.nth (show Mem w (fun b => b = bp) w' _ from (MA.rgt hS)) 0 rfl) rfl (T.e 0 rfl) rfl)) ?_; clear T ac; intro ac T
 refine gq (v := (.pointer (some ⟨g2, 7, none⟩))) T 8 511 rfl (fun _ _ _ _ _ => (Zrf (off := 7) rfl (T.e 10 rfl) (fun _ _ _ => by kernel_rfl))) ?_; clear T ac; intro ac T
 refine gw 9 1023 ?_; intro K hK
 refine Zos M T rfl rfl (T.e 0 rfl) (T.e 6 rfl) rfl (.tail .head) rfl (by simp) rfl (by kernel_rfl) ?_; clear M T; intro wc ac M T
 refine Zso hK _ _ (MA.mk (fun h => (no_of (by kernel_rfl) h).elim) (M.mask [true, false, true, true] rfl)) ?_; clear hK K
 refine gq (v := (.pointer (some ⟨g2, 9, none⟩))) T 10 2047 rfl (fun _ _ _ _ _ => (Zrf (off := 9) rfl (T.e 11 rfl) (fun _ _ _ => by kernel_rfl))) ?_; clear T ac; intro ac T
 refine gw 11 4095 ?_; intro K hK
 refine Zos M T rfl rfl (T.e 0 rfl) (T.e 4 rfl) rfl (.tail .head) rfl (by simp) rfl (by kernel_rfl) ?_; clear M T; intro wc ac M T
 refine Zso hK _ _ (MA.mk (fun h => (no_of (by kernel_rfl) h).elim) (M.mask [true, false, true, true] rfl)) ?_; clear hK K
 refine gq (v := (.pointer (some ⟨g2, 11, none⟩))) T 12 8191 rfl (fun _ _ _ _ _ => (Zrf (off := 11) rfl (T.e 12 rfl) (fun _ _ _ => by kernel_rfl))) ?_; clear T ac; intro ac T
 refine gw 13 16383 ?_; intro K hK
 refine Zos M T rfl rfl (T.e 0 rfl) (T.e 3 rfl) rfl (.tail .head) rfl (by simp) rfl (by kernel_rfl) ?_; clear M T; intro wc ac M T
 refine Zso hK _ _ (MA.mk (fun h => (no_of (by kernel_rfl) h).elim) (M.mask [true, false, true, true] rfl)) ?_; clear hK K
 refine Zgd (by kernel_rfl) ?_
 replace T := T.pick [12, 13] rfl
 replace M := M.mask [false, true, true, true] rfl
 replace M : Mem w (fun b => b = bp) wc ((g2, .cells [.int .i64 lu1.first, .int .i64 lu1.step, .int .i64 lu1.span, .int .i64 lu1.press, .int .i64 xu2, .slice A3 ol.length c3, .slice A5 oh.length c5, .int .i64 ju12.t0, .int .i64 ju12.t1, .int .i64 ju12.r0, .int .i64 ju12.r1, .int .i64 ju12.u0, .int .i64 ju12.u1, .int .i64 ju12.d0, .int .i64 ju12.d1, .int .i64 ju12.a0, .int .i64 ju12.a1, .int .i64 ju12.b0, .int .i64 ju12.b1, .int .i64 ju12.le, .int .i64 xu3]) :: (g1, .cells [.int .i64 0, .int .i64 0, .int .i64 0, .int .i64 0, .int .i64 0, .slice none 0 0, .slice none 0 0, .int .i64 0, .int .i64 0, .int .i64 0, .int .i64 0, .int .i64 0, .int .i64 0, .int .i64 0, .int .i64 0, .int .i64 0, .int .i64 0, .int .i64 0, .int .i64 0, .int .i64 0, .int .i64 0]) :: (bp, .cells [.int .u64 su12]) :: (Ii ++ Io ++ Ih ++ Iu12)) := M
 refine nm_then ?_
 refine Zsr ?_
 refine lq T (Zrr (Mem.nth M 0 rfl) rfl (T.e 1 rfl) rfl) ?_; clear T ac; intro ac T
 refine Zl2 ?_
 refine Zos M T rfl rfl (T.e 1 rfl) (T.e 0 rfl) rfl (.tail .head) rfl (by simp) rfl (by kernel_rfl) ?_; clear M T; intro wc ac M T
 refine wpList_nil ?_
 replace T := T.pick [1] rfl
 replace M := M.mask [false, true, true] rfl
 replace M : Mem w (fun b => b = bp) wc ((g1, .cells [.int .i64 lu1.first, .int .i64 lu1.step, .int .i64 lu1.span, .int .i64 lu1.press, .int .i64 xu2, .slice A3 ol.length c3, .slice A5 oh.length c5, .int .i64 ju12.t0, .int .i64 ju12.t1, .int .i64 ju12.r0, .int .i64 ju12.r1, .int .i64 ju12.u0, .int .i64 ju12.u1, .int .i64 ju12.d0, .int .i64 ju12.d1, .int .i64 ju12.a0, .int .i64 ju12.a1, .int .i64 ju12.b0, .int .i64 ju12.b1, .int .i64 ju12.le, .int .i64 xu3]) :: (bp, .cells [.int .u64 su12]) :: (Ii ++ Io ++ Ih ++ Iu12)) := M
 refine Znr ?_
 refine rt_c M T rfl (T.e 0 rfl) (Zne (i := 0) rfl) rfl ?_
 obtain ⟨bs1, os1, hS1⟩ := hsl.spV (sc_length _)
 obtain ⟨bs2, os2, hS2⟩ := hsh.spV (sc_length _)
 have hmd := boxMade (b := ({ first := lu1.first, step := lu1.step, span := lu1.span, press := lu1.press, note := xu2, lows := ol, highs := oh, t0 := ju12.t0, t1 := ju12.t1, r0 := ju12.r0, r1 := ju12.r1, u0 := ju12.u0, u1 := ju12.u1, d0 := ju12.d0, d1 := ju12.d1, a0 := ju12.a0, a1 := ju12.a1, b0 := ju12.b0, b1 := ju12.b1, le := ju12.le, me := xu3 } : Bx)) (lo := nlo) (hi := nhi) (j := ju12) hlu1 (by dsimp only; omega) (by dsimp only; omega) (by dsimp only; omega) (fun z hz => (hgo z hz).1) (fun z hz => (hgh z hz).1) (by dsimp only; omega) hmu12 ⟨rfl, rfl, rfl, rfl, rfl, rfl, rfl, rfl, rfl, rfl, rfl, rfl, rfl⟩
 refine ⟨_, A3, c3, A5, c5, _, Io ++ Ih, rfl, ⟨hmd, fun z hz => (hgo z hz).2, fun z hz => (hgh z hz).2⟩, hsu12, ⟨bs1, os1, fun w ex => (hS1 w ex).mono (Zsl _ _)⟩, ⟨bs2, os2, fun w ex => (hS2 w ex).mono (Zsq _ _)⟩, Mem.swapI (I := [(bp, .cells [.int .u64 su12])]) (L := Io ++ Ih) ?_⟩
 have M9 : Mem w (fun b => b = bp) wc ((bp, .cells [.int .u64 su12]) :: (Ii ++ Io ++ Ih ++ Iu12)) := M.permT [1] 2 rfl rfl rfl rfl
 refine M9.sub (.cons_cons _ ?_)
 refine List.Sublist.trans ?_ (Zsl _ _)
 rw [List.append_assoc]
 exact Zsq _ _
def spnP {α : Type} (f : α → Int) (l : List α) (q : Int × Int) : Int × Int := l.foldl (fun q t => (min q.1 (f t), max q.2 (f t))) q
def spnE {α : Type} (f : α → Int) : List α → Int × Int
 | [] => (0, 0)
 | x :: l => spnP f (x :: l) (f x, f x)
theorem spnP_spec {α : Type} {f : α → Int} : ∀ (l : List α) (a b : Int),
  (spnP f l (a, b)).1 ≤ a ∧ b ≤ (spnP f l (a, b)).2 ∧ (∀ t ∈ l, (spnP f l (a, b)).1 ≤ f t ∧ f t ≤ (spnP f l (a, b)).2) ∧ ((spnP f l (a, b)).1 = a ∨ ∃ t ∈ l, (spnP f l (a, b)).1 = f t) ∧ ((spnP f l (a, b)).2 = b ∨ ∃ t ∈ l, (spnP f l (a, b)).2 = f t)
 | [], a, b => ⟨Int.le_refl _, Int.le_refl _, fun t ht => (by cases ht), .inl rfl, .inl rfl⟩
 | x :: l, a, b => by
  obtain ⟨m, hm⟩ : ∃ m, m = min a (f x) := ⟨_, rfl⟩
  obtain ⟨M, hM⟩ : ∃ M, M = max b (f x) := ⟨_, rfl⟩
  have e : spnP f (x :: l) (a, b) = spnP f l (m, M) := by rw [hm, hM]; rfl
  obtain ⟨h1, h2, h3, h4, h5⟩ := spnP_spec (f := f) l m M
  rw [e]
  have i1 : m ≤ a := hm ▸ Int.min_le_left _ _
  have i2 : m ≤ f x := hm ▸ Int.min_le_right _ _
  have i3 : b ≤ M := hM ▸ Int.le_max_left _ _
  have i4 : f x ≤ M := hM ▸ Int.le_max_right _ _
  refine ⟨Int.le_trans h1 i1, Int.le_trans i3 h2, fun t ht => ?_, ?_, ?_⟩
  ·rcases List.mem_cons.1 ht with rfl | ht
   ·exact ⟨Int.le_trans h1 i2, Int.le_trans i4 h2⟩
   ·exact h3 t ht
  ·rcases h4 with h4 | ⟨t, ht, h4⟩
   ·rcases Int.le_total a (f x) with h | h
    ·exact .inl (h4.trans (hm.trans (Int.min_eq_left h)))
    ·exact .inr ⟨x, Zz2, h4.trans (hm.trans (Int.min_eq_right h))⟩
   ·exact .inr ⟨t, Zz1 ht, h4⟩
  ·rcases h5 with h5 | ⟨t, ht, h5⟩
   ·rcases Int.le_total (f x) b with h | h
    ·exact .inl (h5.trans (hM.trans (Int.max_eq_left h)))
    ·exact .inr ⟨x, Zz2, h5.trans (hM.trans (Int.max_eq_right h))⟩
   ·exact .inr ⟨t, Zz1 ht, h5⟩
theorem spnE_eq {α : Type} {f : α → Int} {l : List α} {m M : Int} (hm : ∀ t ∈ l, m ≤ f t) (hM : ∀ t ∈ l, f t ≤ M) (em : ∃ t ∈ l, f t = m) (eM : ∃ t ∈ l, f t = M) : spnE f l = (m, M) := by
 cases l with
 | nil => obtain ⟨t, ht, -⟩ := em; cases ht
 | cons x r =>
  obtain ⟨-, -, h3, h4, h5⟩ := spnP_spec (f := f) (x :: r) (f x) (f x)
  show spnP f (x :: r) (f x, f x) = _
  obtain ⟨t1, ht1, e1⟩ := em
  obtain ⟨t2, ht2, e2⟩ := eM
  have a1 := (h3 t1 ht1).1
  have a2 := (h3 t2 ht2).2
  have b1 : m ≤ (spnP f (x :: r) (f x, f x)).1 := by
   rcases h4 with h4 | ⟨t, ht, h4⟩
   ·rw [h4]; exact hm x Zz2
   ·rw [h4]; exact hm t ht
  have b2 : (spnP f (x :: r) (f x, f x)).2 ≤ M := by
   rcases h5 with h5 | ⟨t, ht, h5⟩
   ·rw [h5]; exact hM x Zz2
   ·rw [h5]; exact hM t ht
  clear h4 h5 h3
  exact Prod.ext (Int.le_antisymm (e1 ▸ a1) b1) (Int.le_antisymm b2 (e2 ▸ a2))
def apartP (z : Int × Int) : Int := max (z.1 - z.2) (z.2 - z.1)
def beat2 (s : Int) (z : Int × Int) : Int := Int.tdiv (apartP z * s) 100
theorem div_mono {a b s : Int} (hs : 0 ≤ s) (ha : 0 ≤ a) (h : a ≤ b) : Int.tdiv (a * s) 100 ≤ Int.tdiv (b * s) 100 := by
 have h1 := Int.mul_le_mul_of_nonneg_right h hs
 have h0 := Int.mul_nonneg ha hs
 rw [Int.tdiv_eq_ediv_of_nonneg h0, Int.tdiv_eq_ediv_of_nonneg (Int.le_trans h0 h1)]
 exact Int.ediv_le_ediv (by decide) h1
theorem top_beats {a0 a1 b0 b1 s : Int} (ha : a0 ≤ a1) (hb : b0 ≤ b1) (hs : 0 ≤ s) :
  spnE (beat2 s) (allL a0 a1 b0 b1) = (Int.tdiv (max (max 0 (b0 - a1)) (-(b1 - a0)) * s) 100, Int.tdiv (max (b1 - a0) (-(b0 - a1)) * s) 100) := by
 have least : ∃ z ∈ allL a0 a1 b0 b1, apartP z = max (max 0 (b0 - a1)) (-(b1 - a0)) := by
  by_cases h1 : a1 ≤ b0
  ·exact ⟨(a1, b0), mem_allL.2 (by dsimp only; omega), by unfold apartP; dsimp only; omega⟩
  ·by_cases h2 : b1 ≤ a0
   ·exact ⟨(a0, b1), mem_allL.2 (by dsimp only; omega), by unfold apartP; dsimp only; omega⟩
   ·exact ⟨(max a0 b0, max a0 b0), mem_allL.2 (by dsimp only; omega), by unfold apartP; dsimp only; omega⟩
 have most : ∃ z ∈ allL a0 a1 b0 b1, apartP z = max (b1 - a0) (-(b0 - a1)) := by
  by_cases h1 : a1 - b0 ≤ b1 - a0
  ·exact ⟨(a0, b1), mem_allL.2 (by dsimp only; omega), by unfold apartP; dsimp only; omega⟩
  ·exact ⟨(a1, b0), mem_allL.2 (by dsimp only; omega), by unfold apartP; dsimp only; omega⟩
 obtain ⟨z1, m1, e1⟩ := least
 obtain ⟨z2, m2, e2⟩ := most
 refine spnE_eq (fun z hz => ?_) (fun z hz => ?_) ⟨z1, m1, by unfold beat2; rw [e1]⟩ ⟨z2, m2, by unfold beat2; rw [e2]⟩
 ·have := mem_allL.1 hz
  exact div_mono hs (by omega) (by unfold apartP; omega)
 ·have := mem_allL.1 hz
  exact div_mono hs (by unfold apartP; omega) (by unfold apartP; omega)
def verP {α : Type} (p : α → Bool) (l : List α) : Int := if (l.filter p).length = l.length then 1 else if (l.filter p).length = 0 then 2 else 3
def higher2 (z : Int × Int) : Bool := decide (z.1 < z.2)
theorem top_always {a0 a1 b0 b1 : Int} (ha : a0 ≤ a1) (hb : b0 ≤ b1) : verP higher2 (allL a0 a1 b0 b1) = 1 ↔ 0 < b0 - a1 := by
 have e : ((allL a0 a1 b0 b1).filter higher2).length = (allL a0 a1 b0 b1).length ↔ 0 < b0 - a1 := by
  rw [List.length_filter_eq_length_iff]
  constructor
  ·intro h
   have := h (a1, b0) (mem_allL.2 (by dsimp only; omega))
   unfold higher2 at this
   have := of_decide_eq_true this
   dsimp only at this
   omega
  ·intro h z hz
   have := mem_allL.1 hz
   exact Zdt (by omega)
 unfold verP
 split
 ·rename_i h; exact ⟨fun _ => e.1 h, fun _ => rfl⟩
 ·rename_i h
  constructor
  ·intro h2; split at h2 <;> contradiction
  ·intro h2; exact absurd (e.2 h2) h
theorem top_never {a0 a1 b0 b1 : Int} (ha : a0 ≤ a1) (hb : b0 ≤ b1) : verP higher2 (allL a0 a1 b0 b1) = 2 ↔ b1 - a0 ≤ 0 := by
 have e : ((allL a0 a1 b0 b1).filter higher2).length = 0 ↔ b1 - a0 ≤ 0 := by
  rw [List.length_eq_zero_iff, List.filter_eq_nil_iff]
  constructor
  ·intro h
   have := h (a0, b1) (mem_allL.2 (by dsimp only; omega))
   unfold higher2 at this
   have := of_decide_eq_false (by simpa using this : decide (a0 < b1) = false)
   omega
  ·intro h z hz hd
   have := mem_allL.1 hz
   have := of_decide_eq_true hd
   omega
 have hne : (allL a0 a1 b0 b1).length ≠ 0 := fun h => by
  have hm : (a0, b0) ∈ allL a0 a1 b0 b1 := mem_allL.2 (by dsimp only; omega)
  rw [List.length_eq_zero_iff] at h
  rw [h] at hm
  cases hm
 unfold verP
 by_cases h1 : ((allL a0 a1 b0 b1).filter higher2).length = (allL a0 a1 b0 b1).length
 ·rw [if_pos h1]
  constructor
  ·intro h; exact absurd h (by decide)
  ·intro h; exact absurd (h1.symm.trans (e.2 h)) hne
 ·rw [if_neg h1]
  split
  ·rename_i h; exact ⟨fun _ => e.1 h, fun _ => rfl⟩
  ·rename_i h
   constructor
   ·intro h2; exact absurd h2 (by decide)
   ·intro h2; exact absurd (e.2 h2) h
def tnE (p : (Int × Int)) : List Value := [.int .i64 p.1, .int .i64 p.2, .int .i64 0]
def tn (l : List (Int × Int)) : List Value := l.flatMap tnE
theorem tn_length (l : List (Int × Int)) : (tn l).length = l.length * 3 := by
 induction l with
 | nil => rfl
 | cons x l ih =>
  show (tnE x ++ tn l).length = _
  rw [List.length_append, ih, List.length_cons]
  show 3 + _ = _
  omega
theorem tn_get : ∀ (l : List (Int × Int)) (k : Nat) {x : (Int × Int)}, l[k]? = some x → ∀ (i : Nat) (v : Value), (tnE x)[i]? = some v → (tn l)[k * 3 + i]? = some v
 | [], k, x, h => by simp at h
 | y :: l, 0, x, h => by
  intro i v hv
  simp only [List.getElem?_cons_zero, Option.some.injEq] at h
  subst h
  show (tnE y ++ tn l)[0 * 3 + i]? = some v
  rw [Nat.zero_mul, Nat.zero_add, List.getElem?_append_left (List.getElem?_eq_some_iff.1 hv).1]
  exact hv
 | y :: l, k + 1, x, h => by
  intro i v hv
  have := tn_get l k (by simpa using h) i v hv
  show (tnE y ++ tn l)[(k + 1) * 3 + i]? = some v
  have e : (tnE y).length = 3 := rfl
  rw [List.getElem?_append_right (by rw [e]; omega), e, show (k + 1) * 3 + i - 3 = k * 3 + i by omega]
  exact this
theorem tn_snoc (l : List (Int × Int)) (p : (Int × Int)) : tn l ++ [.int .i64 p.1, .int .i64 p.2, .int .i64 0] = tn (l ++ [p]) := by simp [tn, tnE]
theorem tn_next {l : List (Int × Int)} {k : Nat} (h : k < l.length) : ∃ x, l[k]? = some x ∧ l.drop k = x :: l.drop (k + 1) := ⟨l[k], List.getElem?_eq_getElem h, List.drop_eq_getElem_cons h⟩
section
variable {w w' : World} {ex : Nat → Prop} {I L : List (Nat × BA)} {n b o k : Nat} {A : Option Addr} {l : List (Int × Int)} {p : (Int × Int)}
theorem Sp.tnA (S : Sp w ex I A n 3 b o (tn l)) (M : Mem w ex w' L) (hI : I.Sublist L) (h : l[k]? = some p) (f : Nat) (v : Value) (hv : (tnE p)[f]? = some v) : w'.cell? ⟨b, o + k * 3 + f, none⟩ = some v := by
 have := S.cell w' L M hI _ _ (tn_get l k h f v hv)
 rwa [← Nat.add_assoc] at this
theorem Sp.tnR (S : Sp w ex I A n 3 b o (tn l)) (M : Mem w ex w' L) (hI : I.Sublist L) (h : l[k]? = some p) : w'.rangeAt b (o + k * 3) [.int .i64 p.1, .int .i64 p.2, .int .i64 0] := fun j v hv => S.tnA M hI h j v hv
end
theorem Try.info72 : (Try.prog.info? 72).map (fun i => (i.zero, i.size, i.bytes)) = some (some (.agg #[.int .i64 0, .int .i64 0, .int .i64 0]), 3, 24) := by kernel_rfl
theorem secB {a s : Int} (h : 0 ≤ a ∧ a ≤ 100000) (k : 0 ≤ s ∧ s ≤ 20) : (0 ≤ a * s ∧ a * s ≤ 2000000) ∧ 0 ≤ Int.tdiv (a * s) 100 ∧ Int.tdiv (a * s) 100 ≤ 2000000 := by
 have h1 := Int.mul_nonneg h.1 k.1
 have h2 : a * s ≤ 100000 * 20 := Int.mul_le_mul h.2 k.2 k.1 (by decide)
 rw [Int.tdiv_eq_ediv_of_nonneg h1]
 refine ⟨by omega, by omega, by omega⟩
theorem inM_any (n lo hi : Int) (w : World)  :
   Calls Try.prog 18 #[.int .i64 n, .int .i64 lo, .int .i64 hi] w fun e w' => e = .returned (.bool (withinB n lo hi)) ∧ Below w.heap.size w w' := by
 refine Zpx noEx Try.func18 rfl 15 rfl [.int .i64 n, .int .i64 lo, .int .i64 hi] rfl rfl (Mem.init w _) ?_
 intro ac wc T M
 refine Zsr ?_
 refine lq T (Zra rfl evc) ?_; clear T ac; intro ac T
 replace T := T.pick [1, 2, 3] rfl
 refine Zln ?_
 refine cut_seq (fun ac wc => Tm ac 15 [(6, .bool ((decide (lo ≤ n)) && (decide (n ≤ hi))))] ∧ Mem w noEx wc []) ?_ ?_
 ·refine wp_region_lit ?_
  refine Zg4 T (Zq (Zrm rfl (T.e 1 rfl))) rfl (Zm 1 rfl rfl) rfl (fun _ T => Zq (rn_leq rfl (T.e 1 rfl) (T.e 0 rfl))) rfl (Zm 0 rfl rfl) rfl ?_; clear T ac; intro ac T
  rcases Bool.eq_false_or_eq_true (decide (lo ≤ n)) with h1 | h1
  ·replace h1 := of_decide_eq_true h1
   refine Zg5 T (Zw (Zwy rfl rfl (T.e 0 rfl) (Zdt h1)) (Zrm rfl (T.e 4 rfl))) rfl (fun _ T => Zw (Zwy rfl rfl (T.e 1 rfl) (Zdt h1)) (Zrm rfl (T.e 7 rfl))) rfl (fun _ T => Zw (Zwy rfl rfl (T.e 2 rfl) (Zdt h1)) (rn_leq rfl (T.e 1 rfl) (T.e 0 rfl))) rfl (fun _ T => Zq (Zr1 rfl (T.e 3 rfl) (Zdt h1) (T.e 0 rfl))) rfl (Za 0 rfl rfl) rfl ?_; clear T ac; intro ac T
   refine wpList_nil ?_
   replace T := T.pick [0] rfl
   exact ⟨(T.pick (E' := [(6, .bool (decide (n ≤ hi)))]) [0] rfl).as (by (try rw [show (decide (lo ≤ n)) = true from (Zdt h1)]); (try rfl)), M.mask [] rfl⟩
  replace h1 := of_decide_eq_false h1
  refine Zg5 T (Zp (Zwn rfl rfl (T.e 0 rfl) (Zdf h1))) rfl (fun _ T => Zp (Zwn rfl rfl (T.e 1 rfl) (Zdf h1))) rfl (fun _ T => Zp (Zwn rfl rfl (T.e 2 rfl) (Zdf h1))) rfl (fun _ T => Zq (Zr0 rfl (T.e 3 rfl) (Zdf h1) evc)) rfl (Za 0 rfl rfl) rfl ?_; clear T ac; intro ac T
  refine wpList_nil ?_
  replace T := T.pick [0] rfl
  exact ⟨(T.pick (E' := [(6, .bool false)]) [0] rfl).as (by (try rw [show (decide (lo ≤ n)) = false from (Zdf h1)]); (try rfl)), M.mask [] rfl⟩
 clear T M
 rintro ac wc ⟨T, M⟩
 refine wp_ret ?_
 refine rt_1 T rfl (T.e 0 rfl) ?_
 exact ⟨ret_bool (by unfold withinB; simp), M.below⟩
theorem twoM_any (A : Option Addr) (c : Nat) (l : List (Int × Int)) (a b : Int)  (w : World) (hl2 : l.length = 2) (ha : 0 ≤ a ∧ a ≤ 1) (hb0 : 0 ≤ b ∧ b ≤ 1) (hab : a ≠ b) (hr : Rd w w.heap.size 2 A l.length (rc l))  :
   Calls Try.prog 17 #[.agg #[.int .i64 0, .slice A l.length c, .slice none 0 0], .int .i64 a, .int .i64 b] w fun e w' => e = .returned (.int .i64 0) ∧ Below w.heap.size w w' := by
 obtain ⟨bJ, oJ, SJ⟩ := Sp.old hr
 refine Zpx noEx Try.func17 rfl 26 rfl [.agg #[.int .i64 0, .slice A l.length c, .slice none 0 0], .int .i64 a, .int .i64 b] rfl rfl (Mem.init w _) ?_
 intro ac wc T M
 refine Zsr ?_
 refine Zl2 ?_
 refine Zob M T rfl rfl rfl rfl (T.e 0 rfl) rfl ?_; clear M T; intro g1 wc ac M T
 refine lq T (Zra rfl evc) ?_; clear T ac; intro ac T
 replace T := T.pick [1, 3, 4] rfl
 refine Zln ?_
 refine wp_seq ?_
 refine wp_block ?_
 refine wp_seq ?_
 refine Zsr ?_
 refine Zg5 (v2 := (.pointer (some ⟨g1, 1, none⟩))) T (Zq (Zrm rfl (T.e 1 rfl))) rfl (Zf 1 1 rfl rfl) rfl (Zo M 0 0 rfl rfl rfl rfl) rfl (Zl Try.underlying36 0 rfl rfl) rfl (fun _ T => Zq (rn_sub rfl (T.e 0 rfl) evc (by omega))) rfl ?_; clear T ac; intro ac T
 refine Zl2 ?_
 refine Zoc (first := []) (cap := []) T rfl rfl rfl rfl evf (.cons (T.e 4 rfl) (.cons evc (.cons (T.e 0 rfl) .nil))) Try.func18 rfl rfl ?_
 refine Calls.mono (inM_any a 0 (((l.length : Nat) : Int) - 1) _) ?_
 clear T; rintro e wc ⟨rfl, hb⟩ ac T
 replace M := M.call hb; clear hb
 refine Zg2 T (Zq (rn_not rfl (T.e 0 rfl))) rfl (Za 0 rfl rfl) rfl ?_; clear T ac; intro ac T
 replace T := T.pick [0, 8, 9, 10] rfl
 refine Zln ?_
 refine wp_cond_split (T.e 0 rfl) ?_ ?_
 ·intro h1
  (have h1' := h1; try simp only [Zb1, Zb2, Zb3, Zb4, Zb5, Zb6, Zb7] at h1')
  refine Zsk ?_
  refine wp_cond_true ((T.e 0 rfl).trans (congrArg Value.bool h1)) ?_
  refine Zsr ?_
  refine lq T (Zra rfl evc) ?_; clear T ac; intro ac T
  refine wpList_nil ?_
  replace T := T.pick [0] rfl
  replace M := M.mask [false] rfl
  refine Znr ?_
  refine Zrb ?_
  refine Zrt ?_
  refine rt_1 T rfl (T.e 0 rfl) ?_
  exfalso
  first | (unfold withinB at *; simp_all; done) | (unfold withinB at *; simp_all; omega)
 intro h1
 (have h1' := h1; try simp only [Zb1, Zb2, Zb3, Zb4, Zb5, Zb6, Zb7] at h1')
 refine wp_region_lit ?_
 refine Zg5 (v2 := (.pointer (some ⟨g1, 1, none⟩))) T (Zq (Zrm rfl (T.e 3 rfl))) rfl (Zf 1 2 rfl rfl) rfl (Zo M 0 0 rfl rfl rfl rfl) rfl (Zl Try.underlying36 0 rfl rfl) rfl (fun _ T => Zq (rn_sub rfl (T.e 0 rfl) evc (by omega))) rfl ?_; clear T ac; intro ac T
 refine Zl2 ?_
 refine Zoc (first := []) (cap := []) T rfl rfl rfl rfl evf (.cons (T.e 4 rfl) (.cons evc (.cons (T.e 0 rfl) .nil))) Try.func18 rfl rfl ?_
 refine Calls.mono (inM_any b 0 (((l.length : Nat) : Int) - 1) _) ?_
 clear T; rintro e wc ⟨rfl, hb⟩ ac T
 replace M := M.call hb; clear hb
 refine lq T (rn_not rfl (T.e 0 rfl)) ?_; clear T ac; intro ac T
 refine l_q (v := (.bool (!(withinB b 0 (((l.length : Nat) : Int) - 1))))) (T.pick [0, 1, 2, 3, 4, 5, 6, 8, 9, 10] rfl) rfl rfl rfl rfl (Zra rfl (T.e 0 rfl)) ?_; clear T ac; intro ac T
 refine wpList_nil ?_
 replace T := T.pick [0, 9, 10] rfl
 replace M := M.mask [false] rfl
 refine nm_then ?_
 refine wp_cond_split (T.e 0 rfl) ?_ ?_
 ·intro h2
  (have h2' := h2; try simp only [Zb1, Zb2, Zb3, Zb4, Zb5, Zb6, Zb7] at h2')
  refine Zsr ?_
  refine lq T (Zra rfl evc) ?_; clear T ac; intro ac T
  replace T := T.pick [0] rfl
  refine Zln ?_
  refine wp_ret ?_
  refine Zrb ?_
  refine Zrt ?_
  refine rt_1 T rfl (T.e 0 rfl) ?_
  exfalso
  first | (unfold withinB at *; simp_all; done) | (unfold withinB at *; simp_all; omega)
 intro h2
 (have h2' := h2; try simp only [Zb1, Zb2, Zb3, Zb4, Zb5, Zb6, Zb7] at h2')
 refine Zsr ?_
 refine Zg4 T (Zq (Zrm rfl (T.e 1 rfl))) rfl (Zm 3 rfl rfl) rfl (fun _ T => Zq (rn_eql rfl (T.e 1 rfl) (T.e 0 rfl))) rfl (Za 0 rfl rfl) rfl ?_; clear T ac; intro ac T
 replace T := T.pick [0] rfl
 refine Zln ?_
 refine wp_if (T.e 0 rfl) ?_ ?_
 ·intro h3
  refine Zsr ?_
  refine lq T (Zra rfl evc) ?_; clear T ac; intro ac T
  replace T := T.pick [0] rfl
  refine Zln ?_
  refine wp_ret ?_
  refine Zrb ?_
  refine Zrt ?_
  refine rt_1 T rfl (T.e 0 rfl) ?_
  exfalso
  first | (unfold withinB at *; simp_all; done) | (unfold withinB at *; simp_all; omega)
 intro h3
 refine wp_skip ?_
 refine Znb ?_
 refine nm_then ?_
 refine Zsr ?_
 refine lq T (Zra rfl evc) ?_; clear T ac; intro ac T
 replace T := T.pick [0] rfl
 refine Zln ?_
 refine wp_ret ?_
 refine rt_1 T rfl (T.e 0 rfl) ?_
 exact ⟨rfl, M.below⟩
theorem checkM_any (A : Option Addr) (c : Nat) (l : List (Int × Int))  (w : World) (hl2 : l.length = 2) (gl : ∀ p ∈ l, (1 ≤ p.1 ∧ p.1 ≤ p.2) ∧ p.2 ≤ 100000 ∧ p.2 - p.1 ≤ 20) (hr : Rd w w.heap.size 2 A l.length (rc l))  :
   Calls Try.prog 33 #[.agg #[.int .i64 0, .slice A l.length c, .slice none 0 0]] w fun e w' => e = .returned (.int .i64 0) ∧ Below w.heap.size w w' := by
 obtain ⟨bJ, oJ, SJ⟩ := Sp.old hr
 refine Zpx noEx Try.func33 rfl 73 rfl [.agg #[.int .i64 0, .slice A l.length c, .slice none 0 0]] rfl rfl (Mem.init w _) ?_
 intro ac wc T M
 refine Zsr ?_
 refine Zl2 ?_
 refine Zob M T rfl rfl rfl rfl (T.e 0 rfl) rfl ?_; clear M T; intro g1 wc ac M T
 refine lq T (Zra rfl evc) ?_; clear T ac; intro ac T
 replace T := T.pick [1] rfl
 refine Zln ?_
 refine wp_seq ?_
 refine wp_block ?_
 refine Zsr ?_
 refine Zg2 (v1 := (.pointer (some ⟨g1, 0, none⟩))) T (Zq (Zrf (off := 0) rfl (T.e 0 rfl) (fun _ _ _ => by kernel_rfl))) rfl (Zo M 0 0 rfl rfl rfl rfl) rfl ?_; clear T ac; intro ac T
 refine Zl2 ?_
 refine Zoc (first := []) (cap := []) T rfl rfl rfl rfl evf (.cons (T.e 0 rfl) (.cons evc (.cons evc .nil))) Try.func18 rfl rfl ?_
 refine Calls.mono (inM_any 0 0 3 _) ?_
 clear T; rintro e wc ⟨rfl, hb⟩ ac T
 replace M := M.call hb; clear hb
 refine Zg2 T (Zq (rn_not rfl (T.e 0 rfl))) rfl (Za 0 rfl rfl) rfl ?_; clear T ac; intro ac T
 replace T := T.pick [0, 5] rfl
 refine Zln ?_
 refine wp_cond_split (T.e 0 rfl) ?_ ?_
 ·intro h1
  (have h1' := h1; try simp only [Zb1, Zb2, Zb3, Zb4, Zb5, Zb6, Zb7] at h1')
  refine Zsr ?_
  refine lq T (Zra rfl evc) ?_; clear T ac; intro ac T
  refine wpList_nil ?_
  replace T := T.pick [0] rfl
  replace M := M.mask [false] rfl
  refine Znr ?_
  refine Zrb ?_
  refine Zrt ?_
  refine rt_1 T rfl (T.e 0 rfl) ?_
  exfalso
  first | (unfold withinB at *; simp_all; done) | (unfold withinB at *; simp_all; omega)
 intro h1
 (have h1' := h1; try simp only [Zb1, Zb2, Zb3, Zb4, Zb5, Zb6, Zb7] at h1')
 refine Zsr ?_
 refine Zg5 (v1 := (.pointer (some ⟨g1, 1, none⟩))) T (Zq (Zrf (off := 1) rfl (T.e 1 rfl) (fun _ _ _ => by kernel_rfl))) rfl (Zo M 0 0 rfl rfl rfl rfl) rfl (Zl Try.underlying36 0 rfl rfl) rfl (fun _ T => Zq (rn_eql rfl (T.e 0 rfl) evc)) rfl (Za 0 rfl rfl) rfl ?_; clear T ac; intro ac T
 replace T := T.pick [0, 6] rfl
 refine Zln ?_
 refine wp_if (T.e 0 rfl) ?_ ?_
 ·intro h2
  refine Zsr ?_
  refine lq T (Zra rfl evc) ?_; clear T ac; intro ac T
  refine wpList_nil ?_
  replace T := T.pick [0] rfl
  replace M := M.mask [false] rfl
  refine Znr ?_
  refine Zrb ?_
  refine Zrt ?_
  refine rt_1 T rfl (T.e 0 rfl) ?_
  exfalso
  first | (unfold withinB at *; simp_all; done) | (unfold withinB at *; simp_all; omega)
 intro h2
 refine Zsr ?_
 refine Zg5 (v1 := (.pointer (some ⟨g1, 1, none⟩))) T (Zq (Zrf (off := 1) rfl (T.e 1 rfl) (fun _ _ _ => by kernel_rfl))) rfl (Zo M 0 0 rfl rfl rfl rfl) rfl (Zl Try.underlying36 0 rfl rfl) rfl (fun _ T => Zq (rn_gtr rfl (T.e 0 rfl) evc)) rfl (Za 0 rfl rfl) rfl ?_; clear T ac; intro ac T
 replace T := T.pick [0, 6] rfl
 refine Zln ?_
 refine wp_if (T.e 0 rfl) ?_ ?_
 ·intro h3
  refine Zsr ?_
  refine lq T (Zra rfl evc) ?_; clear T ac; intro ac T
  refine wpList_nil ?_
  replace T := T.pick [0] rfl
  replace M := M.mask [false] rfl
  refine Znr ?_
  refine Zrb ?_
  refine Zrt ?_
  refine rt_1 T rfl (T.e 0 rfl) ?_
  exfalso
  first | (unfold withinB at *; simp_all; done) | (unfold withinB at *; simp_all; omega)
 intro h3
 refine wp_skip ?_
 refine Znb ?_
 refine Zns ?_
 refine Zsr ?_
 refine Zg4 (v1 := (.pointer (some ⟨g1, 1, none⟩))) T (Zq (Zrf (off := 1) rfl (T.e 1 rfl) (fun _ _ _ => by kernel_rfl))) rfl (Zo M 0 0 rfl rfl rfl rfl) rfl (Zl Try.underlying36 0 rfl rfl) rfl (fun _ T => Zq (Zrm rfl evc)) rfl ?_; clear T ac; intro ac T
 replace T := T.pick [0, 1, 2, 5] rfl
 refine Zln ?_
 refine wp_block ?_
 refine wp_loop_n (fun mz ac wc => ∃ (k : Nat), mz = 2 - k ∧ (k ≤ 2) ∧ Tm ac 73 [(1, .pointer (some ⟨g1, 0, none⟩)), (24, .slice A l.length c), (25, .int .i64 ((l.length : Nat) : Int)), (26, .int .i64 (k : Int))] ∧ Mem w noEx wc [(g1, .cells [.int .i64 0, .slice A l.length c, .slice none 0 0])]) ?_ ?_
 ·exact ⟨_, 0, rfl, (by omega), T.pick [3, 2, 1, 0] rfl, M.mask [true] rfl⟩
 clear T M
 rintro mz ac wc ⟨k, hmm1, hk, T, M⟩
 refine Zsr ?_
 refine lq T (rn_lss rfl (T.e 3 rfl) (T.e 2 rfl)) ?_; clear T ac; intro ac T
 refine Zln ?_
 refine wp_seq ?_
 refine wp_if (T.e 0 rfl) ?_ ?_
 ·intro h4
  obtain ⟨x, hkx, -⟩ : ∃ x, l[k]? = some x ∧ True := ⟨l[k]'(by omega), List.getElem?_eq_getElem (by omega), trivial⟩
  have gx := gl x (List.mem_of_getElem? hkx)
  refine Zsk ?_
  refine wp_seq ?_
  refine wp_block ?_
  refine Zsr ?_
  refine Zg2 (v2 := (.agg #[.int .i64 x.1, .int .i64 x.2])) T (Zq (Zri (size := 2) k rfl (T.e 2 rfl) (T.e 4 rfl) ⟨_, Try.underlying36, by kernel_rfl⟩ rfl (by omega) (SJ.at0 (by omega)))) rfl (fun _ T => Zq (rn_rowat (Sp.rcR SJ M (Zz9 _) hkx) rfl (T.e 0 rfl) rfl)) rfl ?_; clear T ac; intro ac T
  refine Zl2 ?_
  refine Zoa M T rfl rfl rfl rfl ?_; clear M T; intro g2 wc ac M T
  refine Zl2 ?_
  refine Zos M T rfl rfl (T.e 0 rfl) (T.e 1 rfl) rfl .head rfl (by simp) rfl (by kernel_rfl) ?_; clear M T; intro wc ac M T
  replace T := T.pick [0, 4, 5, 6, 7] rfl
  refine Zln ?_
  refine wp_block ?_
  refine wp_seq ?_
  refine Zsr ?_
  refine Zg2 (v1 := (.pointer (some ⟨g2, 0, none⟩))) T (Zq (Zrf (off := 0) rfl (T.e 0 rfl) (fun _ _ _ => by kernel_rfl))) rfl (Zo M 0 0 rfl rfl rfl rfl) rfl ?_; clear T ac; intro ac T
  refine Zl2 ?_
  refine Zoc (first := []) (cap := []) T rfl rfl rfl rfl evf (.cons (T.e 0 rfl) (.cons evc (.cons evc .nil))) Try.func18 rfl rfl ?_
  refine Calls.mono (inM_any x.1 1 100000 _) ?_
  clear T; rintro e wc ⟨rfl, hb⟩ ac T
  replace M := M.call hb; clear hb
  refine Zg2 T (Zq (rn_not rfl (T.e 0 rfl))) rfl (Za 0 rfl rfl) rfl ?_; clear T ac; intro ac T
  replace T := T.pick [0, 5, 6, 7, 8, 9] rfl
  refine Zln ?_
  refine wp_cond_split (T.e 0 rfl) ?_ ?_
  ·intro h5
   (have h5' := h5; try simp only [Zb1, Zb2, Zb3, Zb4, Zb5, Zb6, Zb7] at h5')
   refine Zsk ?_
   refine wp_cond_true ((T.e 0 rfl).trans (congrArg Value.bool h5)) ?_
   refine Zsr ?_
   refine lq T (Zra rfl evc) ?_; clear T ac; intro ac T
   refine wpList_nil ?_
   replace T := T.pick [0] rfl
   replace M := M.mask [false, false] rfl
   refine Znr ?_
   refine Zrb ?_
   refine Zrb ?_
   refine Zrt ?_
   refine Zrt ?_
   refine Zrb ?_
   refine Zrt ?_
   refine rt_1 T rfl (T.e 0 rfl) ?_
   exfalso
   first | (unfold withinB at *; simp_all; done) | (unfold withinB at *; simp_all; omega)
  intro h5
  (have h5' := h5; try simp only [Zb1, Zb2, Zb3, Zb4, Zb5, Zb6, Zb7] at h5')
  refine wp_region_lit ?_
  refine Zg2 (v1 := (.pointer (some ⟨g2, 1, none⟩))) T (Zq (Zrf (off := 1) rfl (T.e 1 rfl) (fun _ _ _ => by kernel_rfl))) rfl (Zo M 0 0 rfl rfl rfl rfl) rfl ?_; clear T ac; intro ac T
  refine Zl2 ?_
  refine Zoc (first := []) (cap := []) T rfl rfl rfl rfl evf (.cons (T.e 0 rfl) (.cons evc (.cons evc .nil))) Try.func18 rfl rfl ?_
  refine Calls.mono (inM_any x.2 1 100000 _) ?_
  clear T; rintro e wc ⟨rfl, hb⟩ ac T
  replace M := M.call hb; clear hb
  refine lq T (rn_not rfl (T.e 0 rfl)) ?_; clear T ac; intro ac T
  refine l_q (v := (.bool (!(withinB x.2 1 100000)))) (T.pick [0, 1, 2, 3, 5, 6, 7, 8, 9] rfl) rfl rfl rfl rfl (Zra rfl (T.e 0 rfl)) ?_; clear T ac; intro ac T
  replace T := T.pick [0, 5, 6, 7, 8, 9] rfl
  refine Zln ?_
  refine wp_cond_split (T.e 0 rfl) ?_ ?_
  ·intro h6
   (have h6' := h6; try simp only [Zb1, Zb2, Zb3, Zb4, Zb5, Zb6, Zb7] at h6')
   refine Zsr ?_
   refine lq T (Zra rfl evc) ?_; clear T ac; intro ac T
   refine wpList_nil ?_
   replace T := T.pick [0] rfl
   replace M := M.mask [false, false] rfl
   refine Znr ?_
   refine Zrb ?_
   refine Zrb ?_
   refine Zrt ?_
   refine Zrt ?_
   refine Zrb ?_
   refine Zrt ?_
   refine rt_1 T rfl (T.e 0 rfl) ?_
   exfalso
   first | (unfold withinB at *; simp_all; done) | (unfold withinB at *; simp_all; omega)
  intro h6
  (have h6' := h6; try simp only [Zb1, Zb2, Zb3, Zb4, Zb5, Zb6, Zb7] at h6')
  refine Zsr ?_
  refine Zg6 (v1 := (.pointer (some ⟨g2, 0, none⟩))) (v3 := (.pointer (some ⟨g2, 1, none⟩))) T (Zq (Zrf (off := 0) rfl (T.e 1 rfl) (fun _ _ _ => by kernel_rfl))) rfl (Zo M 0 0 rfl rfl rfl rfl) rfl (Zf 1 3 rfl rfl) rfl (Zo M 0 0 rfl rfl rfl rfl) rfl (fun _ T => Zq (rn_gtr rfl (T.e 2 rfl) (T.e 0 rfl))) rfl (Za 0 rfl rfl) rfl ?_; clear T ac; intro ac T
  replace T := T.pick [0, 7, 8, 9, 10, 11] rfl
  refine Zln ?_
  refine wp_if (T.e 0 rfl) ?_ ?_
  ·intro h7
   refine Zsr ?_
   refine lq T (Zra rfl evc) ?_; clear T ac; intro ac T
   refine wpList_nil ?_
   replace T := T.pick [0] rfl
   replace M := M.mask [false, false] rfl
   refine Znr ?_
   refine Zrb ?_
   refine Zrb ?_
   refine Zrt ?_
   refine Zrt ?_
   refine Zrb ?_
   refine Zrt ?_
   refine rt_1 T rfl (T.e 0 rfl) ?_
   exfalso
   first | (unfold withinB at *; simp_all; done) | (unfold withinB at *; simp_all; omega)
  intro h7
  refine Zsr ?_
  refine Zg7 (v1 := (.pointer (some ⟨g2, 1, none⟩))) (v3 := (.pointer (some ⟨g2, 0, none⟩))) T (Zq (Zrf (off := 1) rfl (T.e 1 rfl) (fun _ _ _ => by kernel_rfl))) rfl (Zo M 0 0 rfl rfl rfl rfl) rfl (Zf 0 3 rfl rfl) rfl (Zo M 0 0 rfl rfl rfl rfl) rfl (fun _ T => Zq (rn_sub rfl (T.e 2 rfl) (T.e 0 rfl) (by omega))) rfl (fun _ T => Zq (rn_gtr rfl (T.e 0 rfl) evc)) rfl (Za 0 rfl rfl) rfl ?_; clear T ac; intro ac T
  refine wpList_nil ?_
  replace T := T.pick [0, 9, 10, 11, 12] rfl
  replace M := M.mask [false, true] rfl
  refine nm_then ?_
  refine wp_if (T.e 0 rfl) ?_ ?_
  ·intro h8
   refine Zsr ?_
   refine lq T (Zra rfl evc) ?_; clear T ac; intro ac T
   refine wpList_nil ?_
   replace T := T.pick [0] rfl
   replace M := M.mask [false] rfl
   refine Znr ?_
   refine Zrb ?_
   refine Zrb ?_
   refine Zrt ?_
   refine Zrt ?_
   refine Zrb ?_
   refine Zrt ?_
   refine rt_1 T rfl (T.e 0 rfl) ?_
   exfalso
   first | (unfold withinB at *; simp_all; done) | (unfold withinB at *; simp_all; omega)
  intro h8
  refine wp_skip ?_
  refine Znb ?_
  refine Znb ?_
  refine nm_then ?_
  refine wp_region_lit ?_
  refine lq T (rn_add rfl (T.e 4 rfl) evc (by omega)) ?_; clear T ac; intro ac T
  refine l_q (v := (.int .i64 ((k : Int) + 1))) (T.pick [0, 1, 2, 3, 4] rfl) rfl rfl rfl rfl (Zrm rfl (T.e 0 rfl)) ?_; clear T ac; intro ac T
  replace T := T.pick [0, 3, 4, 5] rfl
  refine Zln ?_
  exact ⟨_, by omega, k + 1, rfl, (by omega), T.pick [1, 2, 3, 0] rfl, M.mask [true] rfl⟩
 intro h4
 refine wp_exit ?_
 refine Zet ?_
 refine Zet ?_
 refine ex_hit ?_
 refine Zns ?_
 refine Zsr ?_
 refine Zg4 (v1 := (.pointer (some ⟨g1, 2, none⟩))) (v3 := (.int .i64 0)) (v4 := (.bool false)) T (Zq (Zrf (off := 2) rfl (T.e 1 rfl) (fun _ _ _ => by kernel_rfl))) rfl (Zo M 0 0 rfl rfl rfl rfl) rfl (Zl Try.underlying42 0 rfl rfl) rfl (fun _ T => Zq (Zrq (rn_gtr rfl (T.e 0 rfl) evc) (by simp))) rfl ?_; clear T ac; intro ac T
 replace T := T.pick [0, 5] rfl
 refine Zln ?_
 refine wp_cond_false (T.e 0 rfl) ?_
 refine Zsk ?_
 refine wp_seq ?_
 refine Zsr ?_
 refine Zg4 (v1 := (.pointer (some ⟨g1, 2, none⟩))) (v3 := (.int .i64 0)) T (Zq (Zrf (off := 2) rfl (T.e 1 rfl) (fun _ _ _ => by kernel_rfl))) rfl (Zo M 0 0 rfl rfl rfl rfl) rfl (Zl Try.underlying42 0 rfl rfl) rfl (fun _ T => Zq (Zrm rfl evc)) rfl ?_; clear T ac; intro ac T
 replace T := T.pick [0, 1, 2, 5] rfl
 refine Zln ?_
 refine wp_block ?_
 refine wp_loop_rounds 2 ?_
 refine rounds_S ?_
 refine Zsr ?_
 refine lq (v := (.bool false)) T (Zrq (rn_lss rfl (T.e 0 rfl) (T.e 1 rfl)) (by simp)) ?_; clear T ac; intro ac T
 refine Zln ?_
 refine wp_seq ?_
 refine wp_cond_false (T.e 0 rfl) ?_
 refine wp_exit ?_
 refine Zet ?_
 refine Zet ?_
 refine ex_hit ?_
 refine nm_then ?_
 refine Zsr ?_
 refine lq T (Zra rfl evc) ?_; clear T ac; intro ac T
 refine wpList_nil ?_
 replace T := T.pick [0] rfl
 replace M := M.mask [false] rfl
 refine Znr ?_
 refine rt_1 T rfl (T.e 0 rfl) ?_
 exact ⟨rfl, M.below⟩
theorem apart_any (z : Int × Int)  (w : World) (h1 : 0 ≤ z.1 ∧ z.1 ≤ 100000) (h2 : 0 ≤ z.2 ∧ z.2 ≤ 100000) :
  Calls Try.prog 22 #[.agg #[.int .i64 z.1, .int .i64 z.2, .int .i64 0], .int .i64 0, .int .i64 1] w fun e w' => e = .returned (.int .i64 (apartP z)) ∧ Below w.heap.size w w' := by
 refine Zpx noEx Try.func22 rfl 22 rfl [.agg #[.int .i64 z.1, .int .i64 z.2, .int .i64 0], .int .i64 0, .int .i64 1] rfl rfl (Mem.init w _) ?_
 intro ac wc T M
 refine Zsr ?_
 refine Zl2 ?_
 refine Zob M T rfl rfl rfl rfl (T.e 0 rfl) rfl ?_; clear M T; intro g1 wc ac M T
 refine lq T (Zra rfl evc) ?_; clear T ac; intro ac T
 replace T := T.pick [1, 3, 4] rfl
 refine Zln ?_
 refine wp_seq ?_
 refine Zgs M (M.mask [true] rfl) 16 (by kernel_rfl) rfl (by kernel_rfl) ?_
 clear M; intro wc M
 refine gq T 0 1 rfl (fun _ _ _ _ _ => (Zrm rfl (T.e 1 rfl))) ?_; clear T ac; intro ac T
 refine gq (v := (.pointer (some ⟨g1, 0, none⟩))) T 1 3 rfl (fun _ _ _ _ _ => (rn_indexA (size := 1) 0 rfl (T.e 1 rfl) (T.e 0 rfl) Try.underlying72 (by kernel_rfl) rfl)) ?_; clear T ac; intro ac T
 refine gq T 2 7 rfl (fun B w' hD hl hS => (Zro (Mem.nth (show Mem w noEx w' _ from hS) 0 rfl) rfl (T.e 0 rfl) rfl)) ?_; clear T ac; intro ac T
 refine gq T 3 15 rfl (fun _ _ _ _ _ => (Zrm rfl (T.e 5 rfl))) ?_; clear T ac; intro ac T
 refine gq (v := (.pointer (some ⟨g1, 1, none⟩))) T 4 31 rfl (fun _ _ _ _ _ => (rn_indexA (size := 1) 1 rfl (T.e 4 rfl) (T.e 0 rfl) Try.underlying72 (by kernel_rfl) rfl)) ?_; clear T ac; intro ac T
 refine gq T 5 63 rfl (fun B w' hD hl hS => (Zro (Mem.nth (show Mem w noEx w' _ from hS) 0 rfl) rfl (T.e 0 rfl) rfl)) ?_; clear T ac; intro ac T
 refine gq T 6 127 rfl (fun _ _ _ _ _ => (rn_sub rfl (T.e 3 rfl) (T.e 0 rfl) (by omega))) ?_; clear T ac; intro ac T
 refine gq T 7 255 rfl (fun _ _ _ _ _ => (Zrm rfl (T.e 9 rfl))) ?_; clear T ac; intro ac T
 refine gq (v := (.pointer (some ⟨g1, 1, none⟩))) T 8 511 rfl (fun _ _ _ _ _ => (rn_indexA (size := 1) 1 rfl (T.e 8 rfl) (T.e 0 rfl) Try.underlying72 (by kernel_rfl) rfl)) ?_; clear T ac; intro ac T
 refine gq T 9 1023 rfl (fun B w' hD hl hS => (Zro (Mem.nth (show Mem w noEx w' _ from hS) 0 rfl) rfl (T.e 0 rfl) rfl)) ?_; clear T ac; intro ac T
 refine gq T 10 2047 rfl (fun _ _ _ _ _ => (Zrm rfl (T.e 11 rfl))) ?_; clear T ac; intro ac T
 refine gq (v := (.pointer (some ⟨g1, 0, none⟩))) T 11 4095 rfl (fun _ _ _ _ _ => (rn_indexA (size := 1) 0 rfl (T.e 11 rfl) (T.e 0 rfl) Try.underlying72 (by kernel_rfl) rfl)) ?_; clear T ac; intro ac T
 refine gq T 12 8191 rfl (fun B w' hD hl hS => (Zro (Mem.nth (show Mem w noEx w' _ from hS) 0 rfl) rfl (T.e 0 rfl) rfl)) ?_; clear T ac; intro ac T
 refine gq T 13 16383 rfl (fun _ _ _ _ _ => (rn_sub rfl (T.e 3 rfl) (T.e 0 rfl) (by omega))) ?_; clear T ac; intro ac T
 refine gq T 14 32767 rfl (fun _ _ _ _ _ => (rn_max2 rfl (T.e 7 rfl) (T.e 0 rfl))) ?_; clear T ac; intro ac T
 refine gq T 15 65535 rfl (fun _ _ _ _ _ => (Zra rfl (T.e 0 rfl))) ?_; clear T ac; intro ac T
 refine Zgd (by kernel_rfl) ?_
 replace T := T.pick [0] rfl
 replace M := M.mask [false] rfl
 refine Znr ?_
 refine rt_1 T rfl (T.e 0 rfl) ?_
 exact ⟨rfl, M.below⟩
theorem beats1_any (z : Int × Int) (s : Int) (ga gb gs : Nat)  (w : World) (h1 : 0 ≤ z.1 ∧ z.1 ≤ 100000) (h2 : 0 ≤ z.2 ∧ z.2 ≤ 100000) (hs : 0 ≤ s ∧ s ≤ 20) (qa : Bk w ga #[.int .i64 0]) (qb : Bk w gb #[.int .i64 1]) (qs : Bk w gs #[.int .i64 s]) :
  Calls Try.prog 21 #[.agg #[.int .i64 z.1, .int .i64 z.2, .int .i64 0], .pointer (some ⟨ga, 0, none⟩), .pointer (some ⟨gb, 0, none⟩), .pointer (some ⟨gs, 0, none⟩)] w fun e w' => e = .returned (.int .i64 (beat2 s z)) ∧ Below w.heap.size w w' := by
 have hap : 0 ≤ apartP z ∧ apartP z ≤ 100000 := by unfold apartP; omega
 have hsb := secB hap hs
 refine Zpx noEx Try.func21 rfl 13 rfl [.agg #[.int .i64 z.1, .int .i64 z.2, .int .i64 0], .pointer (some ⟨ga, 0, none⟩), .pointer (some ⟨gb, 0, none⟩), .pointer (some ⟨gs, 0, none⟩)] rfl rfl (Mem.init w _) ?_
 intro ac wc T M
 refine Zsr ?_
 refine Zl2 ?_
 refine Zob M T rfl rfl rfl rfl (T.e 0 rfl) rfl ?_; clear M T; intro g1 wc ac M T
 refine lq T (Zra rfl evc) ?_; clear T ac; intro ac T
 replace T := T.pick [1, 3, 4, 5] rfl
 refine Zln ?_
 refine wp_seq ?_
 refine Zgs M (M.mask [true] rfl) 8 (by kernel_rfl) rfl (by kernel_rfl) ?_
 clear M; intro wc M
 refine gq T 0 1 rfl (fun B w' hD hl hS => (Zrr (Mem.nth (show Mem w noEx w' _ from hS) 0 rfl) rfl (T.e 0 rfl) rfl)) ?_; clear T ac; intro ac T
 refine gq T 1 3 rfl (fun B w' hD hl hS => (Zro (Mem.old (show Mem w noEx w' _ from hS) qa (fun h => h)) rfl (T.e 2 rfl) rfl)) ?_; clear T ac; intro ac T
 refine gq T 2 7 rfl (fun B w' hD hl hS => (Zro (Mem.old (show Mem w noEx w' _ from hS) qb (fun h => h)) rfl (T.e 4 rfl) rfl)) ?_; clear T ac; intro ac T
 refine gq T 4 23 rfl (fun B w' hD hl hS => (Zro (Mem.old (show Mem w noEx w' _ from hS) qs (fun h => h)) rfl (T.e 6 rfl) rfl)) ?_; clear T ac; intro ac T
 refine gw 3 31 ?_; intro K hK
 refine Zoc (first := []) (cap := []) T rfl rfl rfl rfl evf (.cons (T.e 3 rfl) (.cons (T.e 2 rfl) (.cons (T.e 1 rfl) .nil))) Try.func22 rfl rfl ?_
 refine Calls.mono (apart_any z _ (by (try dsimp only); omega) (by (try dsimp only); omega)) ?_
 clear T; rintro e wc ⟨rfl, hb⟩ ac T
 replace M := M.call hb; clear hb
 refine Zso hK _ _ (M.mask [true] rfl) ?_; clear hK K
 refine gq T 5 63 rfl (fun _ _ _ _ _ => (rn_mul rfl (T.e 0 rfl) (T.e 1 rfl) (by omega))) ?_; clear T ac; intro ac T
 refine gq T 6 127 rfl (fun _ _ _ _ _ => (rn_quo rfl (T.e 0 rfl) evc (by omega) (by omega))) ?_; clear T ac; intro ac T
 refine gq T 7 255 rfl (fun _ _ _ _ _ => (Zra rfl (T.e 0 rfl))) ?_; clear T ac; intro ac T
 refine Zgd (by kernel_rfl) ?_
 replace T := T.pick [0] rfl
 replace M := M.mask [false] rfl
 refine Znr ?_
 refine rt_1 T rfl (T.e 0 rfl) ?_
 exact ⟨rfl, M.below⟩
theorem higher1_any (z : Int × Int) (ga gb : Nat)  (w : World) (qa : Bk w ga #[.int .i64 1]) (qb : Bk w gb #[.int .i64 0]) :
  Calls Try.prog 24 #[.agg #[.int .i64 z.1, .int .i64 z.2, .int .i64 0], .pointer (some ⟨ga, 0, none⟩), .pointer (some ⟨gb, 0, none⟩)] w fun e w' => e = .returned (.bool (higher2 z)) ∧ Below w.heap.size w w' := by
 refine Zpx noEx Try.func24 rfl 12 rfl [.agg #[.int .i64 z.1, .int .i64 z.2, .int .i64 0], .pointer (some ⟨ga, 0, none⟩), .pointer (some ⟨gb, 0, none⟩)] rfl rfl (Mem.init w _) ?_
 intro ac wc T M
 refine Zsr ?_
 refine Zl2 ?_
 refine Zob M T rfl rfl rfl rfl (T.e 0 rfl) rfl ?_; clear M T; intro g1 wc ac M T
 refine lq T (Zra rfl evc) ?_; clear T ac; intro ac T
 replace T := T.pick [1, 3, 4] rfl
 refine Zln ?_
 refine wp_seq ?_
 refine Zgs M (M.mask [true] rfl) 8 (by kernel_rfl) rfl (by kernel_rfl) ?_
 clear M; intro wc M
 refine gq T 0 1 rfl (fun B w' hD hl hS => (Zro (Mem.old (show Mem w noEx w' _ from hS) qa (fun h => h)) rfl (T.e 1 rfl) rfl)) ?_; clear T ac; intro ac T
 refine gq (v := (.pointer (some ⟨g1, 1, none⟩))) T 1 3 rfl (fun _ _ _ _ _ => (rn_indexA (size := 1) 1 rfl (T.e 1 rfl) (T.e 0 rfl) Try.underlying72 (by kernel_rfl) rfl)) ?_; clear T ac; intro ac T
 refine gq T 2 7 rfl (fun B w' hD hl hS => (Zro (Mem.nth (show Mem w noEx w' _ from hS) 0 rfl) rfl (T.e 0 rfl) rfl)) ?_; clear T ac; intro ac T
 refine gq T 3 15 rfl (fun B w' hD hl hS => (Zro (Mem.old (show Mem w noEx w' _ from hS) qb (fun h => h)) rfl (T.e 5 rfl) rfl)) ?_; clear T ac; intro ac T
 refine gq (v := (.pointer (some ⟨g1, 0, none⟩))) T 4 31 rfl (fun _ _ _ _ _ => (rn_indexA (size := 1) 0 rfl (T.e 4 rfl) (T.e 0 rfl) Try.underlying72 (by kernel_rfl) rfl)) ?_; clear T ac; intro ac T
 refine gq T 5 63 rfl (fun B w' hD hl hS => (Zro (Mem.nth (show Mem w noEx w' _ from hS) 0 rfl) rfl (T.e 0 rfl) rfl)) ?_; clear T ac; intro ac T
 refine gq T 6 127 rfl (fun _ _ _ _ _ => (rn_gtr rfl (T.e 3 rfl) (T.e 0 rfl))) ?_; clear T ac; intro ac T
 refine gq T 7 255 rfl (fun _ _ _ _ _ => (Zra rfl (T.e 0 rfl))) ?_; clear T ac; intro ac T
 refine Zgd (by kernel_rfl) ?_
 replace T := T.pick [0] rfl
 replace M := M.mask [false] rfl
 refine Znr ?_
 refine rt_1 T rfl (T.e 0 rfl) ?_
 exact ⟨rfl, M.below⟩
section
open Go.RowKit Go.Shelf
section
variable {P : Program} {ops : Array Oper} {Q : Exit → Act → World → Prop} {S : Array Bool → World → Prop} {nn : Nat}
end
section
variable {df : List Deferred} {P : Program} {ops : Array Oper} {rest : List Oper} {op oi : Oper} {a : Act} {Q : Exit → Act → World → Prop} {w0 w : World} {ex : Nat → Prop} {L : List (Nat × BA)} {K : Act → World → Prop} {n t i fuel nn : Nat} {E : List (Nat × Value)} {v : Value} {S : Array Bool → World → Prop} {l l' : Array Bool}
theorem ow_yield {x : Operand} {xs : List Operand} {ts : Array TypeId} {lr : Nat} {vs : List Value} {R : Ending → World → Prop} (T : TmD df a n E) (ho : op.op = .call { callee := .value x, args := xs.toArray, argTypes := ts }) (hd : op.dst = some t) (hf : freshE E t = true) (hn : Nat.blt t n = true)
  (hx : a.eval x = .func (.yield lr) #[] #[]) (hv : EvL a xs vs) (hY : YieldAt Fence.wide 6 P lr vs.toArray w R) (h : ∀ e w', R e w' → ∃ v, e = .returned v ∧ ∀ a', TmD df a' n ((t, v) :: E) → K a' w') : op.wpIn Fence.wide 7 P a w K Q := by
 obtain ⟨fn, tmps, assign, body, hy, hR⟩ := hY
 have hrun : (execOp a.eval op).run P w = .ok (.round lr fn tmps assign body) w := by
  unfold execOp
  simp [ho, resolve, invoke, Deferred.ofValue, hx, hv.map, Sem.run_bind]
  exact hy
 refine ⟨fun _ _ => trivial, ?_⟩
 rw [show Fence.wide.round = none from rfl, Oper.semAt_none, hrun]
 refine ⟨fun h9 => by simp [Fence.wide] at h9, hR.mono fun e w' hr => ?_⟩
 obtain ⟨v, rfl, h2⟩ := h e w' hr
 exact (hd ▸ h2 _ (T.put hn hf v) : K (a.put op.dst v) w')
theorem fr_lit {id : Nat} {os : List Oper} (h : wpListIn Fence.wide 7 P os.toArray Q os a w) : (Code.region id os.toArray false).wp P Q a w := (wpIn_wide (n := 7)).1 (wpIn_region_lit h)
theorem fl_q (T : TmD df a n E) (hw : Region.wanted op (yielded ops a.tmps) = true) (hd : op.dst = some t) (hf : freshE E t = true) (hn : Nat.blt t n = true) (hr : Runs P op a v w)
  (h : ∀ a', TmD df a' n ((t, v) :: E) → wpListIn Fence.wide nn P ops Q rest a' w) : wpListIn Fence.wide nn P ops Q (op :: rest) a w :=
 wpListIn_step fun K hK => by
  rw [if_pos hw]
  refine ⟨fun _ _ => trivial, ?_⟩
  unfold Runs at hr
  rw [show Fence.wide.round = none from rfl, Oper.semAt_none, hr, Oper.uponIn_value, hd]
  exact hK _ _ (h _ (T.put hn hf v))
theorem fl_y (hw : Region.wanted op (yielded ops a.tmps) = true) (h : ∀ K : Act → World → Prop, Shut (∀ a w, wpListIn Fence.wide nn P ops Q rest a w → K a w) → op.wpIn Fence.wide nn P a w K Q) : wpListIn Fence.wide nn P ops Q (op :: rest) a w :=
 wpListIn_step fun K hK => by rw [if_pos hw]; exact h K hK
theorem fl_nil (h : Q .normal a w) : wpListIn Fence.wide nn P ops Q [] a w := h
end
end
section
open Go.RowKit Go.Shelf
section
variable {P : Program} {df : List Deferred} {a : Act} {w0 w : World} {ex : Nat → Prop} {n : Nat} {E : List (Nat × Value)}
end
end
section
open Go.RowKit Go.Shelf
def KpB (l : Nat) (eb : Nat → Prop) (W W' : World) : Prop := Mem W (fun b => b = l ∨ eb b) W' []
theorem KpB.mem {l : Nat} {eb ex : Nat → Prop} {w0 W W' : World} {L : List (Nat × BA)} (h : KpB l eb W W') (M : Mem w0 ex W L) (hl : ∀ p ∈ L, p.1 ≠ l ∧ ¬ eb p.1) (hx : ∀ b, b = l ∨ eb b → ex b ∨ w0.heap.size ≤ b) : Mem w0 ex W' L :=
 ⟨h.os.trans M.os, h.tape.trans M.tape, h.output.trans M.output, Nat.le_trans M.size h.size,
  fun b hb he => (h.block b (Nat.lt_of_lt_of_le hb M.size) (fun hh => by rcases hx b hh with h | h; exact he h; omega)).trans (M.block b hb he),
  fun p hp => ⟨(M.blk p hp).1, BA.same (M.blk p hp).2 h.size (h.block _ (BA.lt (M.blk p hp).2) (fun hh => by obtain ⟨h1, h2⟩ := hl p hp; rcases hh with h | h; exact h1 h; exact h2 h))⟩, M.nd⟩
section
variable {α : Type} {W : World} {exb : Nat → Prop} {J : List α → List (Nat × BA) → World → Prop} {Jx : Code → List α → List (Nat × BA) → World → Prop} {xs : List α} {a : Act} {w : World} {L : List (Nat × BA)}
end
theorem Mem.backE {w0 w : World} {ex eb : Nat → Prop} {L L' : List (Nat × BA)} {w' : World} (M : Mem w0 ex w L) (M' : Mem w eb w' L') (he : ∀ b, eb b → ex b ∨ w0.heap.size ≤ b) : Mem w0 ex w' L' :=
 ⟨M'.os.trans M.os, M'.tape.trans M.tape, M'.output.trans M.output, Nat.le_trans M.size M'.size,
  fun b hb hx => (M'.block b (Nat.lt_of_lt_of_le hb M.size) (fun h => by rcases he b h with h | h; exact hx h; omega)).trans (M.block b hb hx),
  fun p hp => ⟨by
   rcases (M'.blk p hp).1 with h | h
   ·exact .inl (Nat.le_trans M.size h)
   ·exact (he _ h).symm, (M'.blk p hp).2⟩, M'.nd⟩
section
variable {P : Program} {df : List Deferred} {a : Act} {w0 w : World} {ex : Nat → Prop} {n : Nat} {E : List (Nat × Value)}
end
end
section
open Go.RowKit Go.Shelf
structure KpX (l : Nat) (X X' : Nat → Prop) (W W' : World) : Prop where
 mem : Mem W (fun b => b = l ∨ X b) W' []
 new : ∀ b, X' b → X b ∨ W.heap.size ≤ b
 lt : ∀ b, X' b → b < W'.heap.size
structure KeepN (B : Nat) (X : Nat → Prop) (W W' : World) : Prop where
 os : W'.os = W.os
 tape : W'.tape = W.tape
 output : W'.output = W.output
 size : W.heap.size ≤ W'.heap.size
 block : ∀ b, b < W.heap.size → (b < B ∨ X b) → W'.heap[b]? = W.heap[b]?
theorem KeepN.of_mem {B : Nat} {X ex : Nat → Prop} {W W' : World} {L : List (Nat × BA)} (M : Mem W ex W' L) (h : ∀ b, ex b → B ≤ b ∧ ¬ X b) : KeepN B X W W' :=
 ⟨M.os, M.tape, M.output, M.size, fun b hb hx => M.block b hb fun he => by
  obtain ⟨h1, h2⟩ := h b he
  rcases hx with hx | hx
  ·omega
  ·exact h2 hx⟩
theorem KpX.trans {l : Nat} {X X1 X2 : Nat → Prop} {W W1 W2 : World} (h : KpX l X X1 W W1) (k : KpX l X1 X2 W1 W2) : KpX l X X2 W W2 :=
 ⟨⟨k.mem.os.trans h.mem.os, k.mem.tape.trans h.mem.tape, k.mem.output.trans h.mem.output, Nat.le_trans h.mem.size k.mem.size,
  fun b hb he => (k.mem.block b (Nat.lt_of_lt_of_le hb h.mem.size) fun hh => by
   rcases hh with hh | hh
   ·exact he (.inl hh)
   ·rcases h.new b hh with h1 | h1
    ·exact he (.inr h1)
    ·omega).trans (h.mem.block b hb he), fun p hp => absurd hp List.not_mem_nil, List.nodup_nil⟩,
  fun b hb => by
   rcases k.new b hb with h1 | h1
   ·exact h.new b h1
   ·exact .inr (Nat.le_trans h.mem.size h1), k.lt⟩
theorem KpX.more {l : Nat} {X X1 ex : Nat → Prop} {W W1 W2 : World} {L : List (Nat × BA)} (h : KpX l X X1 W W1) (M : Mem W1 ex W2 L) (hx : ∀ b, ex b → W.heap.size ≤ b) : KpX l X X1 W W2 :=
 ⟨⟨M.os.trans h.mem.os, M.tape.trans h.mem.tape, M.output.trans h.mem.output, Nat.le_trans h.mem.size M.size,
  fun b hb he => (M.block b (Nat.lt_of_lt_of_le hb h.mem.size) fun hh => by have := hx b hh; omega).trans (h.mem.block b hb he), fun p hp => absurd hp List.not_mem_nil, List.nodup_nil⟩,
  h.new, fun b hb => Nat.lt_of_lt_of_le (h.lt b hb) M.size⟩
theorem KpX.refl {l : Nat} {X : Nat → Prop} {W : World} (h : ∀ b, X b → b < W.heap.size) : KpX l X X W W := ⟨Mem.init W _, fun b hb => .inl hb, h⟩
theorem KpX.bk {l g : Nat} {X X' : Nat → Prop} {W W' : World} {cs : Array Value} (h : KpX l X X' W W') (q : Bk W g cs) (hl : g ≠ l) (hx : ¬ X g) : Bk W' g cs := Mem.old h.mem q fun hh => by
 rcases hh with hh | hh
 · exact hl hh
 · exact hx hh
theorem KpX.nox {l g : Nat} {X X' : Nat → Prop} {W W' : World} (h : KpX l X X' W W') (hg : g < W.heap.size) (hx : ¬ X g) : ¬ X' g := fun hh => by
 rcases h.new g hh with h1 | h1
 · exact hx h1
 · omega
def CalmX {β : Type} (B : Nat) (J : β → (Nat → Prop) → World → Prop) : Prop := ∀ s X W W', J s X W → KeepN B X W W' → J s X W'
def SeqX {α : Type} (P : Program) (gf : Nat) (lb : Array Value) (encs : α → Array Value) (X0 : Nat → Prop) (S : List α → Prop) (N : Nat) (w : World) : Prop :=
 ∀ (l : Nat) (J : List α → (Nat → Prop) → World → Prop) (W : World), Below w.heap.size w W → w.heap.size ≤ l → l < W.heap.size → CalmX W.heap.size J →
  (∀ pre x X W1, J pre X W1 → pre.length < N → YieldAt Fence.wide 6 P l (encs x) W1 fun e W' => e = .returned (.bool true) ∧ ∃ X', J (pre ++ [x]) X' W' ∧ KpX l X X' W1 W') →
  J [] X0 W →
  Calls P gf (#[.func (.yield l) #[] #[]] ++ lb) W fun e W' => (∃ v, e = .returned v) ∧ ∃ xs X', S xs ∧ J xs X' W'
def rPostX {α : Type} (W : World) (exb : Nat → Prop) (J : List α → List (Nat × BA) → Prop) (xs : List α) : Exit → Act → World → Prop
 | .normal, _, W' => ∃ L, J xs L ∧ Mem W exb W' L
 | _, _, _ => False
theorem rx_nm {α : Type} {W : World} {exb : Nat → Prop} {J : List α → List (Nat × BA) → Prop} {xs : List α} {a : Act} {w : World} {L : List (Nat × BA)} (h : J xs L) (M : Mem W exb w L) : rPostX W exb J xs .normal a w := ⟨L, h, M⟩
def keysX (L : List (Nat × BA)) (b : Nat) : Prop := b ∈ L.map (·.1)
section
variable {P : Program} {df : List Deferred} {a : Act} {w0 w : World} {ex : Nat → Prop} {n : Nat} {E : List (Nat × Value)}
theorem px_rangeX {α γ : Type} {g : Operand} {ps : Array Tmp} {assign body : Code} {Q : Exit → Act → World → Prop} (T : TmD df a n E)
  {gf : Nat} {lb : Array Value} (hg : a.eval g = .func (.func gf) #[] lb) (eg : ∀ args w, (callFunc gf args).run P w = .ok (.enter gf args) w)
  {encs : α → Array Value} {S : List α → Prop} {L0 : List (Nat × BA)} {N : Nat} (hseq : SeqX P gf lb encs (keysX L0) S N w) (hps : ∀ x, (encs x).size = ps.size)
  (J : List α → List (Nat × BA) → Prop)
  (EP : α → List (Nat × Value)) (EA : α → γ → List (Nat × Value)) (LB : α → γ → List (Nat × BA))
  (M : Mem w0 ex w L0) (hJ0 : J [] L0)
  (hEP : ∀ x, TmD [] { tmps := (ps.zip (encs x)).foldl (fun t (p, v) => t.setIfInBounds p v) a.tmps, defers := [] } n (EP x))
  (hass : ∀ (l : Nat) (x : α) (W : World) (K : Act → World → Prop) (a1 : Act), TmD [] a1 n (EP x) → (∀ c a' W', TmD [] a' n (EA x c) → Mem W noEx W' (LB x c) → K a' W') → assign.wpIn (FW l) 6 P (Exit.then K (fun _ _ _ => False)) a1 W)
  (hbody : ∀ (l : Nat) (pre : List α) (x : α) (c : γ) (L : List (Nat × BA)) (a' : Act) (W : World), J pre L → pre.length < N → w.heap.size ≤ W.heap.size →
   Mem w0 ex W (LB x c ++ L) → (∀ p ∈ LB x c, ¬ keysX L p.1) → ∀ (exb : Nat → Prop) (Wc : World), exb = keysX L → Wc = W → TmD [] a' n (EA x c) → Mem W exb Wc L → body.wpIn (FW l) 6 P (rPostX W exb J (pre ++ [x])) a' Wc)
  (hdone : ∀ (D : Nat) (xs : List α) (L : List (Nat × BA)) (a' : Act) (W : World), w.heap.size ≤ D → S xs → J xs L → w.heap.size ≤ W.heap.size → TmD (dfD D :: df) a' n E → Mem w0 ex W ((D, dfA) :: L) → Q .normal a' W) :
  (Code.rangeFunc g ps assign body).wp P Q a w := by
 have hz0 := M.size
 refine (wpIn_wide (n := 8)).1 (wpIn_rangeFunc ?_)
 intro fn hfn
 obtain ⟨rc, hrc⟩ : ∃ rc : LoopState → Option Code → Loop, rc = fun st pe => { state := st, pending := pe, fn, tmps := a.tmps, params := ps, assign, body, defers := w.heap.size } := ⟨_, rfl⟩
 obtain ⟨W1, hW1⟩ : ∃ W1, (w.alloc (.deferred (some []))).alloc (.loop (rc .ready none)) = W1 := ⟨_, rfl⟩
 have hb1 : Below w.heap.size w W1 := by
  rw [← hW1]
  exact (((Below.refl _ w).alloc (Nat.le_refl _) _).alloc (by simp) _)
 have hs1 : W1.heap.size = w.heap.size + 2 := by rw [← hW1]; simp
 have hL1 : W1.heap[w.heap.size + 1]? = some (.loop (rc .ready none)) := by
  rw [← hW1]
  have := World.alloc_heap_new (w.alloc (.deferred (some []))) (.loop (rc .ready none))
  rwa [World.size_alloc] at this
 have hK1 : W1.heap[w.heap.size]? = some (.deferred (some [])) := by
  rw [← hW1]
  exact (Below.heap_alloc _ _ _ (by simp)).trans (World.alloc_heap_new w _)
 have otherD : ∀ {W : World} (o' : Obj), (W.putObj (w.heap.size + 1) o').heap[w.heap.size]? = W.heap[w.heap.size]? := fun o' => World.putObj_heap_other (by omega)
 -- a put of the loop's record
 have putM : ∀ {W : World} {L : List (Nat × BA)} (o' : Obj), (∀ p ∈ L, p.1 ≠ w.heap.size + 1) → Mem w0 ex W L → Mem w0 ex (W.putObj (w.heap.size + 1) o') L := fun {W L} o' hL M1 =>
  ⟨M1.os, M1.tape, M1.output, by simpa using M1.size, fun b hb he => (World.putObj_heap_other (by omega)).trans (M1.block b hb he),
   fun p hp => ⟨(M1.blk p hp).1, BA.same (M1.blk p hp).2 (by simp) (World.putObj_heap_other (hL p hp))⟩, M1.nd⟩
 refine ⟨w.heap.size + 1, [{ target := .collected w.heap.size, args := #[] }], W1, { target := .fn (.func gf) lb, args := #[.func (.yield (w.heap.size + 1)) #[] #[]] }, W1, gf,
  #[.func (.yield (w.heap.size + 1)) #[] #[]] ++ lb, W1, ?_, ?_, ?_, ?_, fun _ => by omega, ?_⟩
 ·rw [← hW1, hrc]; exact run_enterLoop_outer _ _ _ _ _
 ·simp only [resolve, hg]
  simp [go_sem]
 ·intro f' hf'; simp [Target.leads] at hf'; subst hf'; trivial
 ·simp [invoke, go_sem, eg]
 ·refine callsIn_wide.2 (Calls.mono (hseq (w.heap.size + 1)
   (fun pre X W => ∃ L, J pre L ∧ X = keysX L ∧ Mem w0 ex W L ∧ w.heap.size ≤ W.heap.size ∧ W.heap[w.heap.size + 1]? = some (.loop (rc .ready none)) ∧ W.heap[w.heap.size]? = some (.deferred (some [])) ∧ ∀ p ∈ L, p.1 ≠ w.heap.size ∧ p.1 ≠ w.heap.size + 1)
   W1 hb1 (by omega) (by omega) ?_ ?_ ⟨L0, hJ0, rfl, M.call hb1, hb1.size, hL1, hK1, fun p hp => by have := BA.lt (M.blk p hp).2; omega⟩) ?_)
  ·rintro pre X W W' ⟨L, hj, rfl, M1, hz, hl, hk, hne⟩ hK
   have hsz := M1.size
   exact ⟨L, hj, rfl, ⟨hK.os.trans M1.os, hK.tape.trans M1.tape, hK.output.trans M1.output, Nat.le_trans M1.size hK.size, fun b hb he => (hK.block b (by omega) (.inl (by omega))).trans (M1.block b hb he),
    fun p hp => ⟨(M1.blk p hp).1, BA.same (M1.blk p hp).2 hK.size (hK.block _ (BA.lt (M1.blk p hp).2) (.inr (List.mem_map.2 ⟨p, hp, rfl⟩)))⟩, M1.nd⟩, Nat.le_trans hz hK.size,
    (hK.block _ (Array.getElem?_eq_some_iff.1 hl).1 (.inl (by omega))).trans hl, (hK.block _ (Array.getElem?_eq_some_iff.1 hk).1 (.inl (by omega))).trans hk, hne⟩
  ·-- one round
   rintro pre x X W ⟨L, hj, rfl, M1, hz, hl, hk, hne⟩ hpn
   have hy := run_yield (P := P) (args := encs x) hl (by rw [hrc]; exact hps x)
   rw [hrc] at hy
   refine ⟨fn, _, assign, body, hy, roundIn_of_wpIn hfn (hass _ x W _ _ (hEP x) ?_)⟩
   clear hy
   intro c a' Wa T' N1
   have hba := N1.below
   have hlW := (Array.getElem?_eq_some_iff.1 hl).1
   have hla : Wa.heap[w.heap.size + 1]? = some (.loop (rc .ready none)) := (hba.block _ hlW).trans hl
   have hka : Wa.heap[w.heap.size]? = some (.deferred (some [])) := (hba.block _ (Array.getElem?_eq_some_iff.1 hk).1).trans hk
   have hlta := (Array.getElem?_eq_some_iff.1 hla).1
   obtain ⟨bz, hbz⟩ : ∃ bz : Obj, bz = .loop { rc .ready none with state := .busy } := ⟨_, rfl⟩
   obtain ⟨Wb, hWb⟩ : ∃ Wb, Wb = Wa.putObj (w.heap.size + 1) bz := ⟨_, rfl⟩
   have hsb : Wb.heap.size = Wa.heap.size := by rw [hWb]; simp
   have hlb : Wb.heap[w.heap.size + 1]? = some bz := by rw [hWb]; exact World.putObj_heap_same hlta
   have hkb : Wb.heap[w.heap.size]? = some (.deferred (some [])) := by rw [hWb]; exact (otherD _).trans hka
   refine ⟨Wb, by rw [hWb, hbz]; exact run_beginRound hla (by rw [hrc]), ?_⟩
   have hfr : ∀ p ∈ LB x c, W.heap.size ≤ p.1 := fun p hp => by
    rcases (N1.blk p hp).1 with h | h
    ·exact h
    ·exact h.elim
   have M3 : Mem w0 ex Wb (LB x c ++ L) := by
    rw [hWb]
    refine putM bz (fun p hp => ?_) (M1.join N1)
    rcases List.mem_append.1 hp with h | h
    ·have := hfr p h
     omega
    ·exact (hne p h).2
   have M3L : Mem w0 ex Wb L := M3.sub (Zsq _ _)
   have hkl : ∀ b, keysX L b → b < W.heap.size := fun b hb => by
    obtain ⟨p, hp, rfl⟩ := List.mem_map.1 hb
    exact BA.lt (M1.blk p hp).2
   have hnl : ∀ p ∈ LB x c, ¬ keysX L p.1 := fun p hp he => by
    have := hfr p hp
    have := hkl _ he
    omega
   have M5 : Mem Wb (keysX L) Wb L := ⟨rfl, rfl, rfl, Nat.le_refl _, fun _ _ _ => rfl, fun p hp => ⟨.inr (List.mem_map.2 ⟨p, hp, rfl⟩), (M3L.blk p hp).2⟩, M3L.nd⟩
   have hnel : ¬ keysX L (w.heap.size + 1) := fun he => by
    obtain ⟨p, hp, e⟩ := List.mem_map.1 he
    exact (hne p hp).2 e
   have hned : ¬ keysX L w.heap.size := fun he => by
    obtain ⟨p, hp, e⟩ := List.mem_map.1 he
    exact (hne p hp).1 e
   have hzb : w.heap.size ≤ Wb.heap.size := by rw [hsb]; exact Nat.le_trans hz hba.size
   refine wpIn_mono (hbody _ pre x c L a' Wb hj hpn hzb M3 hnl (keysX L) Wb rfl rfl T' M5) ?_
   rintro e a3 W3 hp
   cases e with
   | normal =>
    obtain ⟨L2, hj3, M4⟩ := hp
    have hl3 := (M4.block _ (Array.getElem?_eq_some_iff.1 hlb).1 hnel).trans hlb
    have hk3 := (M4.block _ (Array.getElem?_eq_some_iff.1 hkb).1 hned).trans hkb
    have hr := run_endRound (P := P) none (by rw [hbz] at hl3; exact hl3)
    rw [hrc] at hr
    have hs4 := M4.size
    have hbs := hba.size
    have hne2 : ∀ p ∈ L2, p.1 ≠ w.heap.size ∧ p.1 ≠ w.heap.size + 1 := fun p hp => by
     rcases (M4.blk p hp).1 with h | h
     ·omega
     ·exact ⟨fun e => hned (e ▸ h), fun e => hnel (e ▸ h)⟩
    have M6 : Mem w0 ex W3 L2 := M3L.backE M4 (fun b hb => by
     obtain ⟨p, hp, rfl⟩ := List.mem_map.1 hb
     exact (M3L.blk p hp).1.symm)
    refine ⟨_, _, hr, rfl, keysX L2, ⟨L2, hj3, rfl, putM _ (fun p hp => (hne2 p hp).2) M6, by simp only [World.putObj_size]; omega, by rw [hrc]; exact World.putObj_heap_same (Array.getElem?_eq_some_iff.1 hl3).1, (otherD _).trans hk3, hne2⟩, ⟨?_, ?_, ?_, ?_, fun b hb he => ?_, fun p hp => (by cases hp), by simp⟩, fun b hb => ?_, fun b hb => ?_⟩
    ·exact M4.os.trans (by rw [hWb]; exact hba.os)
    ·exact M4.tape.trans (by rw [hWb]; exact hba.tape)
    ·exact M4.output.trans (by rw [hWb]; exact hba.output)
    ·simp only [World.putObj_size]
     omega
    ·have hbl : b ≠ w.heap.size + 1 := fun e => he (.inl e)
     rw [World.putObj_heap_other hbl, M4.block b (by omega) (fun h => he (.inr h)), hWb, World.putObj_heap_other hbl]
     exact hba.block b hb
    ·obtain ⟨p, hp, rfl⟩ := List.mem_map.1 hb
     rcases (M4.blk p hp).1 with h | h
     ·exact .inr (by omega)
     ·exact .inl h
    ·obtain ⟨p, hp, rfl⟩ := List.mem_map.1 hb
     have := BA.lt (M4.blk p hp).2
     simpa using this
   | _ => exact hp.elim
  ·-- behind the iterator
   rintro e W2 ⟨⟨v, rfl⟩, xs, X', hS, L, hj, rfl, M1, hz, hl, hk, hne⟩
   have hend := run_endLoop (P := P) hl (by rw [hrc]; simp)
   rw [hrc] at hend
   refine ⟨none, _, hend, ?_⟩
   have M2 := fun o' => putM (W := W2) o' (fun p hp => (hne p hp).2) M1
   refine hdone w.heap.size xs L _ _ (Nat.le_refl _) hS hj (by simpa using hz) (T.marks w.heap.size) ((M2 _).add (p := dfA) hz0 ⟨_, (otherD _).trans hk, rfl⟩ (fun q hq e => (hne q hq).1 e))
end
end
section
open Go.RowKit Go.Shelf
def BkX (l : Nat) (X : Nat → Prop) (w : World) (g : Nat) (cs : Array Value) : Prop := Bk w g cs ∧ g ≠ l ∧ ¬ X g
theorem KpX.bkX {l g : Nat} {X X' : Nat → Prop} {W W' : World} {cs : Array Value} (h : KpX l X X' W W') (q : BkX l X W g cs) : BkX l X' W' g cs := ⟨h.bk q.1 q.2.1 q.2.2, q.2.1, h.nox q.1.lt q.2.2⟩
def RdX (l : Nat) (X : Nat → Prop) (w : World) (A : Option Addr) (n : Nat) (xs : List Value) : Prop := Rd w w.heap.size 2 A n xs ∧ ∀ b o, A = some ⟨b, o, none⟩ → 0 < n → b ≠ l ∧ ¬ X b
theorem KpX.rdX {l n : Nat} {X X' : Nat → Prop} {W W' : World} {A : Option Addr} {xs : List Value} (h : KpX l X X' W W') (q : RdX l X W A n xs) : RdX l X' W' A n xs :=
 ⟨⟨q.1.1, fun hn => by
  obtain ⟨b, o, h1, h2, h3⟩ := q.1.2 hn
  obtain ⟨h4, h5⟩ := q.2 b o h1 hn
  exact ⟨b, o, h1, Nat.lt_of_lt_of_le h2 h.mem.size, fun j u hu => (World.cell?_of_block (w := W) (a := ⟨b, o + j, none⟩) (h.mem.block b h2 fun hh => by rcases hh with hh | hh; exact h4 hh; exact h5 hh)).trans (h3 j u hu)⟩⟩,
  fun b o h1 hn => by
   obtain ⟨b', o', h1', h2, -⟩ := q.1.2 hn
   rw [h1] at h1'
   injection h1' with h1'
   injection h1' with h1' _ _
   subst h1'
   obtain ⟨h4, h5⟩ := q.2 b o h1 hn
   exact ⟨h4, h.nox h2 h5⟩⟩
theorem RdX.lt {l n : Nat} {X : Nat → Prop} {W : World} {A : Option Addr} {xs : List Value} (q : RdX l X W A n xs) (hn : 0 < n) (g : Nat) (hg : W.heap.size ≤ g) : ∀ b o, A = some ⟨b, o, none⟩ → b ≠ g := fun b o h1 => by
 obtain ⟨b', o', h1', h2, -⟩ := q.1.2 hn
 rw [h1] at h1'
 injection h1' with h1'
 injection h1' with h1' _ _
 omega
def NxPost (J : List (Int × Int) → (Nat → Prop) → World → Prop) (lr : Nat) (X0 : Nat → Prop) (pre out : List (Int × Int)) (w0 : World) (e : Ending) (W : World) : Prop := e = .returned (.bool true) ∧ ∃ X', KpX lr X0 X' w0 W ∧ J (pre ++ out) X' W
theorem fm_step {β : Type} {f : Int → List β} {a b : Int} {m : Nat} (h : a + (m : Int) ≤ b) : ((izz a b).take (m + 1)).flatMap f = ((izz a b).take m).flatMap f ++ f (a + (m : Int)) := by
 rw [izz_take h, List.flatMap_append]
 simp
theorem fm_end {β : Type} {f : Int → List β} {a b : Int} {m : Nat} (h : b < a + (m : Int)) : ((izz a b).take m).flatMap f = (izz a b).flatMap f := by rw [List.take_of_length_le (by rw [izz_length]; omega)]
theorem fm_len {β : Type} {f : Int → List β} {d : Nat} (hf : ∀ v, (f v).length = d) : ∀ l : List Int, (l.flatMap f).length = l.length * d
 | [] => by simp
 | a :: r => by rw [List.flatMap_cons, List.length_append, hf, fm_len hf r, List.length_cons, Nat.succ_mul, Nat.add_comm]
theorem fm_room {β : Type} {f : Int → List β} {d m N : Nat} {a b : Int} {pre : List β} (hf : ∀ v, (f v).length = d) (h : a + (m : Int) ≤ b) (hN : pre.length + (izz a b).length * d ≤ N) : (pre ++ ((izz a b).take m).flatMap f).length + d ≤ N := by
 have h1 : (((izz a b).take m).flatMap f).length = m * d := by rw [fm_len hf, List.length_take, izz_length]; congr 1; omega
 have h2 : (m + 1) * d ≤ (izz a b).length * d := Nat.mul_le_mul_right d (by rw [izz_length]; omega)
 rw [Nat.succ_mul] at h2
 rw [List.length_append, h1]
 omega
theorem allL_fm (a0 a1 b0 b1 : Int) : (izz a0 a1).flatMap (fun t : Int => (izz b0 b1).flatMap fun s : Int => [(t, s)]) = allL a0 a1 b0 b1 := by
 unfold allL
 congr 1
 funext t
 induction izz b0 b1 with
 | nil => rfl
 | cons a r ih => simp [ih]
theorem next2_any (lr gE gK gy gn B N : Nat) (X0 X : Nat → Prop) (J : List (Int × Int) → (Nat → Prop) → World → Prop) (A : Option Addr) (c : Nat) (l : List (Int × Int)) (z : Int × Int) (pre : List (Int × Int)) (w0 : World)  (w : World) (hl2 : l.length = 2) (hJ : CalmX B J)
   (hY : ∀ (pre : List (Int × Int)) (x : Int × Int) (X : Nat → Prop) (W1 : World), J pre X W1 → pre.length < N → YieldAt Fence.wide 6 Try.prog lr #[.agg #[.int .i64 x.1, .int .i64 x.2, .int .i64 0]] W1 fun e W' => e = .returned (.bool true) ∧ ∃ X', J (pre ++ [x]) X' W' ∧ KpX lr X X' W1 W') (hpn : pre.length < N) (hk0 : KpX lr X0 X w0 w) (hB : B ≤ w.heap.size) (hj : J pre X w) (q1 : BkX lr X w gE #[.int .i64 0, .slice A l.length c, .slice none 0 0]) (q3 : BkX lr X w gK #[.slice none 0 0]) (qy : BkX lr X w gy #[.func (.yield lr) #[] #[]]) (qn : BkX lr X w gn #[.func (.func 52) #[] #[.pointer (some ⟨gE, 0, none⟩), .pointer (some ⟨gK, 0, none⟩), .pointer (some ⟨gy, 0, none⟩), .pointer (some ⟨gn, 0, none⟩)]]) (hr : RdX lr X w A l.length (rc l)) :
   Calls Try.prog 52 #[.agg #[.int .i64 z.1, .int .i64 z.2, .int .i64 0], .int .i64 2, .pointer (some ⟨gE, 0, none⟩), .pointer (some ⟨gK, 0, none⟩), .pointer (some ⟨gy, 0, none⟩), .pointer (some ⟨gn, 0, none⟩)] w (NxPost J lr X0 pre [z] w0) := by
 refine Zpx noEx Try.func52 rfl 56 rfl [.agg #[.int .i64 z.1, .int .i64 z.2, .int .i64 0], .int .i64 2, .pointer (some ⟨gE, 0, none⟩), .pointer (some ⟨gK, 0, none⟩), .pointer (some ⟨gy, 0, none⟩), .pointer (some ⟨gn, 0, none⟩)] rfl rfl (Mem.init w _) ?_
 intro ac wc T M
 refine Zsr ?_
 refine Zl2 ?_
 refine Zob M T rfl rfl rfl rfl (T.e 0 rfl) rfl ?_; clear M T; intro g1 wc ac M T
 refine lq T (Zra rfl evc) ?_; clear T ac; intro ac T
 replace T := T.pick [1, 3, 4, 5, 6, 7] rfl
 refine Zln ?_
 refine wp_seq ?_
 refine Zsr ?_
 refine Zg5 (v2 := (.pointer (some ⟨gE, 1, none⟩))) T (Zq (Zrm rfl (T.e 1 rfl))) rfl (Zf 1 3 rfl rfl) rfl (fun _ T => Zq (Zro (Mem.old M q1.1 (fun h => h)) rfl (T.e 0 rfl) rfl)) rfl (Zl Try.underlying36 0 rfl rfl) rfl (fun _ T => Zq (rn_eql rfl (T.e 3 rfl) (T.e 0 rfl))) rfl ?_; clear T ac; intro ac T
 replace T := T.pick [0, 5, 6, 7, 8, 9, 10] rfl
 refine Zln ?_
 refine wp_if (T.e 0 rfl) ?_ ?_
 ·intro h1
  refine wp_seq ?_
  refine Zsr ?_
  refine Zg3 (v2 := (.int .i64 0)) T (Zq (Zro (Mem.old M q3.1 (fun h => h)) rfl (T.e 4 rfl) rfl)) rfl (Zl Try.underlying102 0 rfl rfl) rfl (fun _ T => Zq (Zrm rfl evc)) rfl ?_; clear T ac; intro ac T
  replace T := T.pick [0, 1, 2, 4, 8] rfl
  refine Zln ?_
  refine wp_block ?_
  refine wp_loop_rounds 2 ?_
  refine rounds_S ?_
  refine Zsr ?_
  refine lq (v := (.bool false)) T (Zrq (rn_lss rfl (T.e 0 rfl) (T.e 1 rfl)) (by simp)) ?_; clear T ac; intro ac T
  refine Zln ?_
  refine wp_seq ?_
  refine wp_cond_false (T.e 0 rfl) ?_
  refine wp_exit ?_
  refine Zet ?_
  refine Zet ?_
  refine ex_hit ?_
  refine Zns ?_
  refine fr_lit ?_
  refine fl_q T rfl rfl rfl rfl (Zro (Mem.old M qy.1 (fun h => h)) rfl (T.e 5 rfl) rfl) ?_; clear T ac; intro ac T
  refine fl_q T rfl rfl rfl rfl (Zrr (Mem.nth M 0 rfl) rfl (T.e 5 rfl) rfl) ?_; clear T ac; intro ac T
  refine fl_y rfl ?_; intro K hK
  have hj9 := hJ _ _ _ _ hj (KeepN.of_mem M (fun b h => h.elim))
  have hk9 := hk0.more M (fun b h => h.elim)
  refine ow_yield T rfl rfl rfl rfl (T.e 1 rfl) (.cons (T.e 0 rfl) .nil) (hY pre z _ _ hj9 hpn) ?_
  clear T M
  rintro e wc ⟨rfl, X8, hj8, hkp⟩
  refine ⟨_, rfl, ?_⟩
  intro ac T
  have M : Mem wc noEx wc [] := Mem.init wc _
  refine Zso hK _ _ ?_; clear hK K
  refine fl_q T rfl rfl rfl rfl (Zra rfl (T.e 0 rfl)) ?_; clear T ac; intro ac T
  refine fl_nil ?_
  replace T := T.pick [0] rfl
  refine Znr ?_
  refine Zrt ?_
  refine rt_1 T rfl (T.e 0 rfl) ?_
  exact ⟨rfl, X8, (hk9.trans hkp).more M (fun b h => h.elim), hJ _ _ _ _ hj8 (KeepN.of_mem M (fun b h => h.elim))⟩
 intro h1
 exfalso
 omega
theorem next1_any (lr gE gK gy gn B N : Nat) (X0 X : Nat → Prop) (J : List (Int × Int) → (Nat → Prop) → World → Prop) (A : Option Addr) (c : Nat) (l : List (Int × Int)) (z : Int × Int) (pre : List (Int × Int)) (y : Int × Int) (w0 : World)  (w : World) (hl2 : l.length = 2) (hJ : CalmX B J)
   (hY : ∀ (pre : List (Int × Int)) (x : Int × Int) (X : Nat → Prop) (W1 : World), J pre X W1 → pre.length < N → YieldAt Fence.wide 6 Try.prog lr #[.agg #[.int .i64 x.1, .int .i64 x.2, .int .i64 0]] W1 fun e W' => e = .returned (.bool true) ∧ ∃ X', J (pre ++ [x]) X' W' ∧ KpX lr X X' W1 W') (hky : l[1]? = some y) (hy : y.1 ≤ y.2) (hyb : -1000000 ≤ y.1 ∧ y.2 ≤ 1000000) (hlrw : lr < w0.heap.size) (hpn : pre.length + (izz y.1 y.2).length * 1 ≤ N) (hk0 : KpX lr X0 X w0 w) (hB : B ≤ w.heap.size) (hj : J pre X w) (q1 : BkX lr X w gE #[.int .i64 0, .slice A l.length c, .slice none 0 0]) (q3 : BkX lr X w gK #[.slice none 0 0]) (qy : BkX lr X w gy #[.func (.yield lr) #[] #[]]) (qn : BkX lr X w gn #[.func (.func 52) #[] #[.pointer (some ⟨gE, 0, none⟩), .pointer (some ⟨gK, 0, none⟩), .pointer (some ⟨gy, 0, none⟩), .pointer (some ⟨gn, 0, none⟩)]]) (hr : RdX lr X w A l.length (rc l)) :
   Calls Try.prog 52 #[.agg #[.int .i64 z.1, .int .i64 z.2, .int .i64 0], .int .i64 1, .pointer (some ⟨gE, 0, none⟩), .pointer (some ⟨gK, 0, none⟩), .pointer (some ⟨gy, 0, none⟩), .pointer (some ⟨gn, 0, none⟩)] w (NxPost J lr X0 pre ((izz y.1 y.2).flatMap (fun s : Int => [(z.1, s)])) w0) := by
 obtain ⟨bJ, oJ, SJ⟩ := Sp.old hr.1
 refine Zpx noEx Try.func52 rfl 56 rfl [.agg #[.int .i64 z.1, .int .i64 z.2, .int .i64 0], .int .i64 1, .pointer (some ⟨gE, 0, none⟩), .pointer (some ⟨gK, 0, none⟩), .pointer (some ⟨gy, 0, none⟩), .pointer (some ⟨gn, 0, none⟩)] rfl rfl (Mem.init w _) ?_
 intro ac wc T M
 refine Zsr ?_
 refine Zl2 ?_
 refine Zob M T rfl rfl rfl rfl (T.e 0 rfl) rfl ?_; clear M T; intro g1 wc ac M T
 refine lq T (Zra rfl evc) ?_; clear T ac; intro ac T
 replace T := T.pick [1, 3, 4, 5, 6, 7] rfl
 refine Zln ?_
 refine wp_seq ?_
 refine Zsr ?_
 refine Zg5 (v2 := (.pointer (some ⟨gE, 1, none⟩))) T (Zq (Zrm rfl (T.e 1 rfl))) rfl (Zf 1 3 rfl rfl) rfl (fun _ T => Zq (Zro (Mem.old M q1.1 (fun h => h)) rfl (T.e 0 rfl) rfl)) rfl (Zl Try.underlying36 0 rfl rfl) rfl (fun _ T => Zq (rn_eql rfl (T.e 3 rfl) (T.e 0 rfl))) rfl ?_; clear T ac; intro ac T
 replace T := T.pick [0, 5, 6, 7, 8, 9, 10] rfl
 refine Zln ?_
 refine wp_if (T.e 0 rfl) ?_ ?_
 ·intro h1
  exfalso
  omega
 intro h1
 refine Zsk ?_
 refine wp_seq ?_
 refine Zsr ?_
 refine Zg7 (v1 := (.pointer (some ⟨gE, 1, none⟩))) T (Zq (Zrf (off := 1) rfl (T.e 3 rfl) (fun _ _ _ => by kernel_rfl))) rfl (fun _ T => Zq (Zro (Mem.old M q1.1 (fun h => h)) rfl (T.e 0 rfl) rfl)) rfl (Zm 4 rfl rfl) rfl (fun _ T => Zq (Zri (size := 2) 1 rfl (T.e 1 rfl) (T.e 0 rfl) ⟨_, Try.underlying36, by kernel_rfl⟩ rfl (by omega) (SJ.at0 (by omega)))) rfl (Zf 0 0 rfl rfl) rfl (fun _ T => Zq (rn_cell (Sp.rc0 SJ M (Zz9 _) hky) rfl (T.e 0 rfl))) rfl (Za 0 rfl rfl) rfl ?_; clear T ac; intro ac T
 replace T := T.pick [0, 8, 9, 10, 13] rfl
 refine Zln ?_
 refine wp_block ?_
 have hw6 : w.heap.size ≤ g1 := (M.blk _ (Zne (i := 0) rfl)).1.elim id (fun h => h.elim)
 have n6gE : ¬ gE = g1 := fun h => by have := q1.1.lt; omega
 have n6gK : ¬ gK = g1 := fun h => by have := q3.1.lt; omega
 have n6gy : ¬ gy = g1 := fun h => by have := qy.1.lt; omega
 have n6gn : ¬ gn = g1 := fun h => by have := qn.1.lt; omega
 have hA6 := hr.lt (by omega) g1 hw6
 have hB6 := Nat.le_trans hB hw6
 have hx6 : ¬ X g1 := fun h => by have := hk0.lt _ h; omega
 have hl6 : g1 ≠ lr := fun h => by have := hk0.mem.size; omega
 have q6 := M.nth 0 rfl
 replace hw6 := Nat.le_trans hk0.mem.size hw6
 replace hj := hJ _ _ _ _ hj (KeepN.of_mem M (fun b h => h.elim))
 replace hk0 := hk0.more M (fun b h => h.elim)
 replace q1 : BkX lr X wc gE _ := ⟨M.old q1.1 (fun h => h), q1.2⟩
 replace q3 : BkX lr X wc gK _ := ⟨M.old q3.1 (fun h => h), q3.2⟩
 replace qy : BkX lr X wc gy _ := ⟨M.old qy.1 (fun h => h), qy.2⟩
 replace qn : BkX lr X wc gn _ := ⟨M.old qn.1 (fun h => h), qn.2⟩
 replace hr : RdX lr X wc A l.length (rc l) := ⟨M.rd hr.1 (Nat.le_refl _), hr.2⟩
 replace hB := Nat.le_trans hB M.size
 clear M
 obtain ⟨w, hwe⟩ : ∃ q : World, q = wc := ⟨_, rfl⟩
 have M : Mem w (fun b => b = g1) wc [(g1, .cells [.int .i64 z.1, .int .i64 z.2, .int .i64 0])] := by rw [hwe]; exact Mem.initEx q6
 rw [← hwe] at hk0 hB q1 q3 qy qn hr hj
 clear hwe q6
 refine wp_loop_n (fun mz ac wc => ∃ (w : World) (m : Nat) (X1 : Nat → Prop) (v : Int), mz = (y.2 + 1 - y.1 - (m : Int)).toNat ∧ (y.1 + (m : Int) ≤ y.2 + 1) ∧ (KpX lr X0 X1 w0 w) ∧ (B ≤ w.heap.size) ∧ (J (pre ++ ((izz y.1 y.2).take m).flatMap (fun s : Int => [(z.1, s)])) X1 w) ∧ (¬ X1 g1) ∧ (BkX lr X1 w gE #[.int .i64 0, .slice A l.length c, .slice none 0 0]) ∧ (BkX lr X1 w gK #[.slice none 0 0]) ∧ (BkX lr X1 w gy #[.func (.yield lr) #[] #[]]) ∧ (BkX lr X1 w gn #[.func (.func 52) #[] #[.pointer (some ⟨gE, 0, none⟩), .pointer (some ⟨gK, 0, none⟩), .pointer (some ⟨gy, 0, none⟩), .pointer (some ⟨gn, 0, none⟩)]]) ∧ (RdX lr X1 w A l.length (rc l)) ∧ Tm ac 56 [(1, .int .i64 1), (2, .pointer (some ⟨gE, 0, none⟩)), (5, .pointer (some ⟨gn, 0, none⟩)), (6, .pointer (some ⟨g1, 0, none⟩)), (11, .int .i64 (y.1 + (m : Int)))] ∧ Mem w (fun b => b = g1) wc [(g1, .cells [.int .i64 z.1, .int .i64 v, .int .i64 0])]) ?_ ?_
 ·have e0 : y.1 = y.1 + ((0 : Nat) : Int) := by omega
  rw [e0] at T
  exact ⟨_, w, 0, X, z.2, rfl, (by omega), hk0, hB, (by simpa using hj), hx6, q1, q3, qy, qn, hr, T.pick [2, 3, 4, 1, 0] rfl, M.mask [true] rfl⟩
 clear T M
 rintro mz ac wc ⟨w, m, X1, v, hmm2, hm, hk0, hB, hj, hx6, q1, q3, qy, qn, hr, T, M⟩
 obtain ⟨bJ, oJ, SJ⟩ := Sp.oldEx hr.1 hA6
 refine wp_seq ?_
 refine Zsr ?_
 refine Zg8 (v2 := (.pointer (some ⟨gE, 1, none⟩))) T (Zq (Zrm rfl (T.e 4 rfl))) rfl (Zf 1 2 rfl rfl) rfl (fun _ T => Zq (Zro (Mem.old M q1.1 n6gE) rfl (T.e 0 rfl) rfl)) rfl (Zm 3 rfl rfl) rfl (fun _ T => Zq (Zri (size := 2) 1 rfl (T.e 1 rfl) (T.e 0 rfl) ⟨_, Try.underlying36, by kernel_rfl⟩ rfl (by omega) (SJ.at0 (by omega)))) rfl (Zf 1 0 rfl rfl) rfl (fun _ T => Zq (rn_cell (Sp.rc1 SJ M (Zz9 _) hky) rfl (T.e 0 rfl))) rfl (fun _ T => Zq (rn_leq rfl (T.e 6 rfl) (T.e 0 rfl))) rfl ?_; clear T ac; intro ac T
 replace T := T.pick [0, 8, 9, 10, 11, 12] rfl
 refine Zln ?_
 refine wp_if (T.e 0 rfl) ?_ ?_
 ·intro h2
  refine Zsk ?_
  refine wp_seq ?_
  refine wp_block ?_
  refine Zsr ?_
  refine Zg3 (v3 := (.pointer (some ⟨g1, 1, none⟩))) T (Zq (Zrm rfl (T.e 1 rfl))) rfl (Zm 6 rfl rfl) rfl (fun _ T => Zq (rn_indexA (size := 1) 1 rfl (T.e 6 rfl) (T.e 1 rfl) Try.underlying72 (by kernel_rfl) rfl)) rfl ?_; clear T ac; intro ac T
  refine Zl2 ?_
  refine Zos M T rfl rfl (T.e 0 rfl) (T.e 1 rfl) rfl .head rfl (by simp) rfl (by kernel_rfl) ?_; clear M T; intro wc ac M T
  replace T := T.pick [4, 5, 6, 7, 8] rfl
  refine Zln ?_
  refine Zsr ?_
  refine Zg4 (v4 := (.int .i64 2)) T (Zq (Zro (Mem.old M qn.1 n6gn) rfl (T.e 2 rfl) rfl)) rfl (Zr M 0 4 rfl rfl rfl rfl) rfl (Zm 2 rfl rfl) rfl (fun _ T => Zq (rn_ofI (rn_add rfl (T.e 0 rfl) evc (by omega)) (by rfl))) rfl ?_; clear T ac; intro ac T
  refine Zl2 ?_
  have hrm := fm_room (f := (fun s : Int => [(z.1, s)])) (m := m) (fun _ => rfl) (by omega) hpn
  have hj9 := hJ _ _ _ _ hj (KeepN.of_mem M (fun b h => by subst h; exact ⟨hB6, hx6⟩))
  replace hk0 := hk0.more M (fun b h => by subst h; exact hw6)
  have hBw := Nat.le_trans hB M.size
  have q19 : BkX lr X1 wc gE _ := ⟨M.old q1.1 n6gE, q1.2⟩
  have q39 : BkX lr X1 wc gK _ := ⟨M.old q3.1 n6gK, q3.2⟩
  have qy9 : BkX lr X1 wc gy _ := ⟨M.old qy.1 n6gy, qy.2⟩
  have qn9 : BkX lr X1 wc gn _ := ⟨M.old qn.1 n6gn, qn.2⟩
  have hr9 : RdX lr X1 wc A l.length (rc l) := ⟨M.rdEx hr.1 hA6, hr.2⟩
  have q69 : BkX lr X1 wc g1 _ := ⟨M.nth 0 rfl, hl6, hx6⟩
  refine Zoc (first := []) (cap := [.pointer (some ⟨gE, 0, none⟩), .pointer (some ⟨gK, 0, none⟩), .pointer (some ⟨gy, 0, none⟩), .pointer (some ⟨gn, 0, none⟩)]) T rfl rfl rfl rfl (T.e 3 rfl) (.cons (T.e 2 rfl) (.cons (T.e 0 rfl) .nil)) Try.func52 rfl rfl ?_
  refine Calls.mono (next2_any lr gE gK gy gn B N X1 X1 J A c l (z.1, (y.1 + (m : Int))) _ _ _ hl2 hJ hY hrm (KpX.refl hk0.lt) hBw hj9 q19 q39 qy9 qn9 hr9) ?_
  clear T; rintro e wc ⟨rfl, Xu1, hkpu1, hju1⟩ ac T
  replace hk0 := hk0.trans hkpu1
  have hB9 := Nat.le_trans hBw hkpu1.mem.size
  replace q1 := hkpu1.bkX q19
  replace q3 := hkpu1.bkX q39
  replace qy := hkpu1.bkX qy9
  replace qn := hkpu1.bkX qn9
  replace hr := hkpu1.rdX hr9
  have q6 := hkpu1.bkX q69
  clear M
  obtain ⟨w, hwe⟩ : ∃ q : World, q = wc := ⟨_, rfl⟩
  have M : Mem w (fun b => b = g1) wc [(g1, .cells [.int .i64 z.1, .int .i64 (y.1 + (m : Int)), .int .i64 0])] := by rw [hwe]; exact Mem.initEx q6.1
  rw [← hwe] at hk0 hB9 q1 q3 qy qn hr q6 hju1
  clear hwe
  replace hB := hB9
  refine lq (v := (.bool false)) T (Zrq (rn_not rfl (T.e 0 rfl)) (by simp)) ?_; clear T ac; intro ac T
  replace T := T.pick [0, 6, 7, 8, 9, 10] rfl
  refine Zln ?_
  refine wp_cond_false (T.e 0 rfl) ?_
  refine wp_skip ?_
  refine Znb ?_
  refine nm_then ?_
  refine wp_region_lit ?_
  refine Zg2 T (Zq (Zrm rfl (T.e 5 rfl))) rfl (fun _ T => Zq (rn_add rfl (T.e 0 rfl) evc (by omega))) rfl ?_; clear T ac; intro ac T
  refine l_q (v := (.int .i64 ((y.1 + (m : Int)) + 1))) (T.pick [0, 1, 2, 3, 4, 5, 6] rfl) rfl rfl rfl rfl (Zra rfl (T.e 0 rfl)) ?_; clear T ac; intro ac T
  replace T := T.pick [0, 4, 5, 6, 7] rfl
  refine Zln ?_
  have e0 : y.1 + (m : Int) + 1 = y.1 + ((m + 1 : Nat) : Int) := by omega
  rw [e0] at T
  exact ⟨_, by omega, w, m + 1, Xu1, _, rfl, (by omega), hk0, hB, (by rw [fm_step (by omega), ← List.append_assoc]; exact hju1), q6.2.2, q1, q3, qy, qn, hr, T.pick [1, 2, 3, 4, 0] rfl, M.mask [true] rfl⟩
 intro h2
 refine wp_exit ?_
 refine Zet ?_
 refine Zet ?_
 refine ex_hit ?_
 refine nm_then ?_
 refine Zsr ?_
 refine lq T (Zra rfl evc) ?_; clear T ac; intro ac T
 refine wpList_nil ?_
 replace T := T.pick [0] rfl
 replace M := M.mask [false] rfl
 refine Znr ?_
 refine rt_1 T rfl (T.e 0 rfl) ?_
 rw [fm_end (by omega)] at hj
 exact ⟨rfl, X1, hk0.more M (fun b h => by subst h; exact hw6), hJ _ _ _ _ hj (KeepN.of_mem M (fun b h => by subst h; exact ⟨hB6, hx6⟩))⟩
theorem next0_any (lr gE gK gy gn B N : Nat) (X0 X : Nat → Prop) (J : List (Int × Int) → (Nat → Prop) → World → Prop) (A : Option Addr) (c : Nat) (l : List (Int × Int)) (y z : Int × Int) (pre : List (Int × Int)) (x : Int × Int) (w0 : World)  (w : World) (hl2 : l.length = 2) (hJ : CalmX B J)
   (hY : ∀ (pre : List (Int × Int)) (x : Int × Int) (X : Nat → Prop) (W1 : World), J pre X W1 → pre.length < N → YieldAt Fence.wide 6 Try.prog lr #[.agg #[.int .i64 x.1, .int .i64 x.2, .int .i64 0]] W1 fun e W' => e = .returned (.bool true) ∧ ∃ X', J (pre ++ [x]) X' W' ∧ KpX lr X X' W1 W') (hky : l[1]? = some y) (hy : y.1 ≤ y.2) (hyb : -1000000 ≤ y.1 ∧ y.2 ≤ 1000000) (hkx : l[0]? = some x) (hx : x.1 ≤ x.2) (hxb : -1000000 ≤ x.1 ∧ x.2 ≤ 1000000) (hlrw : lr < w0.heap.size) (hpn : pre.length + (izz x.1 x.2).length * ((izz y.1 y.2).length * 1) ≤ N) (hk0 : KpX lr X0 X w0 w) (hB : B ≤ w.heap.size) (hj : J pre X w) (q1 : BkX lr X w gE #[.int .i64 0, .slice A l.length c, .slice none 0 0]) (q3 : BkX lr X w gK #[.slice none 0 0]) (qy : BkX lr X w gy #[.func (.yield lr) #[] #[]]) (qn : BkX lr X w gn #[.func (.func 52) #[] #[.pointer (some ⟨gE, 0, none⟩), .pointer (some ⟨gK, 0, none⟩), .pointer (some ⟨gy, 0, none⟩), .pointer (some ⟨gn, 0, none⟩)]]) (hr : RdX lr X w A l.length (rc l)) :
   Calls Try.prog 52 #[.agg #[.int .i64 z.1, .int .i64 z.2, .int .i64 0], .int .i64 0, .pointer (some ⟨gE, 0, none⟩), .pointer (some ⟨gK, 0, none⟩), .pointer (some ⟨gy, 0, none⟩), .pointer (some ⟨gn, 0, none⟩)] w (NxPost J lr X0 pre ((izz x.1 x.2).flatMap (fun t : Int => (izz y.1 y.2).flatMap fun s : Int => [(t, s)])) w0) := by
 obtain ⟨bJ, oJ, SJ⟩ := Sp.old hr.1
 refine Zpx noEx Try.func52 rfl 56 rfl [.agg #[.int .i64 z.1, .int .i64 z.2, .int .i64 0], .int .i64 0, .pointer (some ⟨gE, 0, none⟩), .pointer (some ⟨gK, 0, none⟩), .pointer (some ⟨gy, 0, none⟩), .pointer (some ⟨gn, 0, none⟩)] rfl rfl (Mem.init w _) ?_
 intro ac wc T M
 refine Zsr ?_
 refine Zl2 ?_
 refine Zob M T rfl rfl rfl rfl (T.e 0 rfl) rfl ?_; clear M T; intro g1 wc ac M T
 refine lq T (Zra rfl evc) ?_; clear T ac; intro ac T
 replace T := T.pick [1, 3, 4, 5, 6, 7] rfl
 refine Zln ?_
 refine wp_seq ?_
 refine Zsr ?_
 refine Zg5 (v2 := (.pointer (some ⟨gE, 1, none⟩))) T (Zq (Zrm rfl (T.e 1 rfl))) rfl (Zf 1 3 rfl rfl) rfl (fun _ T => Zq (Zro (Mem.old M q1.1 (fun h => h)) rfl (T.e 0 rfl) rfl)) rfl (Zl Try.underlying36 0 rfl rfl) rfl (fun _ T => Zq (rn_eql rfl (T.e 3 rfl) (T.e 0 rfl))) rfl ?_; clear T ac; intro ac T
 replace T := T.pick [0, 5, 6, 7, 8, 9, 10] rfl
 refine Zln ?_
 refine wp_if (T.e 0 rfl) ?_ ?_
 ·intro h1
  exfalso
  omega
 intro h1
 refine Zsk ?_
 refine wp_seq ?_
 refine Zsr ?_
 refine Zg7 (v1 := (.pointer (some ⟨gE, 1, none⟩))) T (Zq (Zrf (off := 1) rfl (T.e 3 rfl) (fun _ _ _ => by kernel_rfl))) rfl (fun _ T => Zq (Zro (Mem.old M q1.1 (fun h => h)) rfl (T.e 0 rfl) rfl)) rfl (Zm 4 rfl rfl) rfl (fun _ T => Zq (Zri (size := 2) 0 rfl (T.e 1 rfl) (T.e 0 rfl) ⟨_, Try.underlying36, by kernel_rfl⟩ rfl (by omega) (SJ.at0 (by omega)))) rfl (Zf 0 0 rfl rfl) rfl (fun _ T => Zq (rn_cell (Sp.rc0 SJ M (Zz9 _) hkx) rfl (T.e 0 rfl))) rfl (Za 0 rfl rfl) rfl ?_; clear T ac; intro ac T
 replace T := T.pick [0, 8, 9, 10, 13] rfl
 refine Zln ?_
 refine wp_block ?_
 have hw6 : w.heap.size ≤ g1 := (M.blk _ (Zne (i := 0) rfl)).1.elim id (fun h => h.elim)
 have n6gE : ¬ gE = g1 := fun h => by have := q1.1.lt; omega
 have n6gK : ¬ gK = g1 := fun h => by have := q3.1.lt; omega
 have n6gy : ¬ gy = g1 := fun h => by have := qy.1.lt; omega
 have n6gn : ¬ gn = g1 := fun h => by have := qn.1.lt; omega
 have hA6 := hr.lt (by omega) g1 hw6
 have hB6 := Nat.le_trans hB hw6
 have hx6 : ¬ X g1 := fun h => by have := hk0.lt _ h; omega
 have hl6 : g1 ≠ lr := fun h => by have := hk0.mem.size; omega
 have q6 := M.nth 0 rfl
 replace hw6 := Nat.le_trans hk0.mem.size hw6
 replace hj := hJ _ _ _ _ hj (KeepN.of_mem M (fun b h => h.elim))
 replace hk0 := hk0.more M (fun b h => h.elim)
 replace q1 : BkX lr X wc gE _ := ⟨M.old q1.1 (fun h => h), q1.2⟩
 replace q3 : BkX lr X wc gK _ := ⟨M.old q3.1 (fun h => h), q3.2⟩
 replace qy : BkX lr X wc gy _ := ⟨M.old qy.1 (fun h => h), qy.2⟩
 replace qn : BkX lr X wc gn _ := ⟨M.old qn.1 (fun h => h), qn.2⟩
 replace hr : RdX lr X wc A l.length (rc l) := ⟨M.rd hr.1 (Nat.le_refl _), hr.2⟩
 replace hB := Nat.le_trans hB M.size
 clear M
 obtain ⟨w, hwe⟩ : ∃ q : World, q = wc := ⟨_, rfl⟩
 have M : Mem w (fun b => b = g1) wc [(g1, .cells [.int .i64 z.1, .int .i64 z.2, .int .i64 0])] := by rw [hwe]; exact Mem.initEx q6
 rw [← hwe] at hk0 hB q1 q3 qy qn hr hj
 clear hwe q6
 refine wp_loop_n (fun mz ac wc => ∃ (w : World) (m : Nat) (X1 : Nat → Prop) (v : Int), mz = (x.2 + 1 - x.1 - (m : Int)).toNat ∧ (x.1 + (m : Int) ≤ x.2 + 1) ∧ (KpX lr X0 X1 w0 w) ∧ (B ≤ w.heap.size) ∧ (J (pre ++ ((izz x.1 x.2).take m).flatMap (fun t : Int => (izz y.1 y.2).flatMap fun s : Int => [(t, s)])) X1 w) ∧ (¬ X1 g1) ∧ (BkX lr X1 w gE #[.int .i64 0, .slice A l.length c, .slice none 0 0]) ∧ (BkX lr X1 w gK #[.slice none 0 0]) ∧ (BkX lr X1 w gy #[.func (.yield lr) #[] #[]]) ∧ (BkX lr X1 w gn #[.func (.func 52) #[] #[.pointer (some ⟨gE, 0, none⟩), .pointer (some ⟨gK, 0, none⟩), .pointer (some ⟨gy, 0, none⟩), .pointer (some ⟨gn, 0, none⟩)]]) ∧ (RdX lr X1 w A l.length (rc l)) ∧ Tm ac 56 [(1, .int .i64 0), (2, .pointer (some ⟨gE, 0, none⟩)), (5, .pointer (some ⟨gn, 0, none⟩)), (6, .pointer (some ⟨g1, 0, none⟩)), (11, .int .i64 (x.1 + (m : Int)))] ∧ Mem w (fun b => b = g1) wc [(g1, .cells [.int .i64 v, .int .i64 z.2, .int .i64 0])]) ?_ ?_
 ·have e0 : x.1 = x.1 + ((0 : Nat) : Int) := by omega
  rw [e0] at T
  exact ⟨_, w, 0, X, z.1, rfl, (by omega), hk0, hB, (by simpa using hj), hx6, q1, q3, qy, qn, hr, T.pick [2, 3, 4, 1, 0] rfl, M.mask [true] rfl⟩
 clear T M
 rintro mz ac wc ⟨w, m, X1, v, hmm2, hm, hk0, hB, hj, hx6, q1, q3, qy, qn, hr, T, M⟩
 obtain ⟨bJ, oJ, SJ⟩ := Sp.oldEx hr.1 hA6
 refine wp_seq ?_
 refine Zsr ?_
 refine Zg8 (v2 := (.pointer (some ⟨gE, 1, none⟩))) T (Zq (Zrm rfl (T.e 4 rfl))) rfl (Zf 1 2 rfl rfl) rfl (fun _ T => Zq (Zro (Mem.old M q1.1 n6gE) rfl (T.e 0 rfl) rfl)) rfl (Zm 3 rfl rfl) rfl (fun _ T => Zq (Zri (size := 2) 0 rfl (T.e 1 rfl) (T.e 0 rfl) ⟨_, Try.underlying36, by kernel_rfl⟩ rfl (by omega) (SJ.at0 (by omega)))) rfl (Zf 1 0 rfl rfl) rfl (fun _ T => Zq (rn_cell (Sp.rc1 SJ M (Zz9 _) hkx) rfl (T.e 0 rfl))) rfl (fun _ T => Zq (rn_leq rfl (T.e 6 rfl) (T.e 0 rfl))) rfl ?_; clear T ac; intro ac T
 replace T := T.pick [0, 8, 9, 10, 11, 12] rfl
 refine Zln ?_
 refine wp_if (T.e 0 rfl) ?_ ?_
 ·intro h2
  refine Zsk ?_
  refine wp_seq ?_
  refine wp_block ?_
  refine Zsr ?_
  refine Zg3 (v3 := (.pointer (some ⟨g1, 0, none⟩))) T (Zq (Zrm rfl (T.e 1 rfl))) rfl (Zm 6 rfl rfl) rfl (fun _ T => Zq (rn_indexA (size := 1) 0 rfl (T.e 6 rfl) (T.e 1 rfl) Try.underlying72 (by kernel_rfl) rfl)) rfl ?_; clear T ac; intro ac T
  refine Zl2 ?_
  refine Zos M T rfl rfl (T.e 0 rfl) (T.e 1 rfl) rfl .head rfl (by simp) rfl (by kernel_rfl) ?_; clear M T; intro wc ac M T
  replace T := T.pick [4, 5, 6, 7, 8] rfl
  refine Zln ?_
  refine Zsr ?_
  refine Zg4 (v4 := (.int .i64 1)) T (Zq (Zro (Mem.old M qn.1 n6gn) rfl (T.e 2 rfl) rfl)) rfl (Zr M 0 4 rfl rfl rfl rfl) rfl (Zm 2 rfl rfl) rfl (fun _ T => Zq (rn_ofI (rn_add rfl (T.e 0 rfl) evc (by omega)) (by rfl))) rfl ?_; clear T ac; intro ac T
  refine Zl2 ?_
  have hrm := fm_room (f := (fun t : Int => (izz y.1 y.2).flatMap fun s : Int => [(t, s)])) (m := m) (fun v => fm_len (d := 1) (fun _ => rfl) _) (by omega) hpn
  have hj9 := hJ _ _ _ _ hj (KeepN.of_mem M (fun b h => by subst h; exact ⟨hB6, hx6⟩))
  replace hk0 := hk0.more M (fun b h => by subst h; exact hw6)
  have hBw := Nat.le_trans hB M.size
  have q19 : BkX lr X1 wc gE _ := ⟨M.old q1.1 n6gE, q1.2⟩
  have q39 : BkX lr X1 wc gK _ := ⟨M.old q3.1 n6gK, q3.2⟩
  have qy9 : BkX lr X1 wc gy _ := ⟨M.old qy.1 n6gy, qy.2⟩
  have qn9 : BkX lr X1 wc gn _ := ⟨M.old qn.1 n6gn, qn.2⟩
  have hr9 : RdX lr X1 wc A l.length (rc l) := ⟨M.rdEx hr.1 hA6, hr.2⟩
  have q69 : BkX lr X1 wc g1 _ := ⟨M.nth 0 rfl, hl6, hx6⟩
  refine Zoc (first := []) (cap := [.pointer (some ⟨gE, 0, none⟩), .pointer (some ⟨gK, 0, none⟩), .pointer (some ⟨gy, 0, none⟩), .pointer (some ⟨gn, 0, none⟩)]) T rfl rfl rfl rfl (T.e 3 rfl) (.cons (T.e 2 rfl) (.cons (T.e 0 rfl) .nil)) Try.func52 rfl rfl ?_
  refine Calls.mono (next1_any lr gE gK gy gn B N X1 X1 J A c l ((x.1 + (m : Int)), z.2) _ y _ _ hl2 hJ hY hky hy hyb (Nat.lt_of_lt_of_le hlrw hk0.mem.size) hrm (KpX.refl hk0.lt) hBw hj9 q19 q39 qy9 qn9 hr9) ?_
  clear T; rintro e wc ⟨rfl, Xu1, hkpu1, hju1⟩ ac T
  replace hk0 := hk0.trans hkpu1
  have hB9 := Nat.le_trans hBw hkpu1.mem.size
  replace q1 := hkpu1.bkX q19
  replace q3 := hkpu1.bkX q39
  replace qy := hkpu1.bkX qy9
  replace qn := hkpu1.bkX qn9
  replace hr := hkpu1.rdX hr9
  have q6 := hkpu1.bkX q69
  clear M
  obtain ⟨w, hwe⟩ : ∃ q : World, q = wc := ⟨_, rfl⟩
  have M : Mem w (fun b => b = g1) wc [(g1, .cells [.int .i64 (x.1 + (m : Int)), .int .i64 z.2, .int .i64 0])] := by rw [hwe]; exact Mem.initEx q6.1
  rw [← hwe] at hk0 hB9 q1 q3 qy qn hr q6 hju1
  clear hwe
  replace hB := hB9
  refine lq (v := (.bool false)) T (Zrq (rn_not rfl (T.e 0 rfl)) (by simp)) ?_; clear T ac; intro ac T
  replace T := T.pick [0, 6, 7, 8, 9, 10] rfl
  refine Zln ?_
  refine wp_cond_false (T.e 0 rfl) ?_
  refine wp_skip ?_
  refine Znb ?_
  refine nm_then ?_
  refine wp_region_lit ?_
  refine Zg2 T (Zq (Zrm rfl (T.e 5 rfl))) rfl (fun _ T => Zq (rn_add rfl (T.e 0 rfl) evc (by omega))) rfl ?_; clear T ac; intro ac T
  refine l_q (v := (.int .i64 ((x.1 + (m : Int)) + 1))) (T.pick [0, 1, 2, 3, 4, 5, 6] rfl) rfl rfl rfl rfl (Zra rfl (T.e 0 rfl)) ?_; clear T ac; intro ac T
  replace T := T.pick [0, 4, 5, 6, 7] rfl
  refine Zln ?_
  have e0 : x.1 + (m : Int) + 1 = x.1 + ((m + 1 : Nat) : Int) := by omega
  rw [e0] at T
  exact ⟨_, by omega, w, m + 1, Xu1, _, rfl, (by omega), hk0, hB, (by rw [fm_step (by omega), ← List.append_assoc]; exact hju1), q6.2.2, q1, q3, qy, qn, hr, T.pick [1, 2, 3, 4, 0] rfl, M.mask [true] rfl⟩
 intro h2
 refine wp_exit ?_
 refine Zet ?_
 refine Zet ?_
 refine ex_hit ?_
 refine nm_then ?_
 refine Zsr ?_
 refine lq T (Zra rfl evc) ?_; clear T ac; intro ac T
 refine wpList_nil ?_
 replace T := T.pick [0] rfl
 replace M := M.mask [false] rfl
 refine Znr ?_
 refine rt_1 T rfl (T.e 0 rfl) ?_
 rw [fm_end (by omega)] at hj
 exact ⟨rfl, X1, hk0.more M (fun b h => by subst h; exact hw6), hJ _ _ _ _ hj (KeepN.of_mem M (fun b h => by subst h; exact ⟨hB6, hx6⟩))⟩
end
section
open Go.RowKit Go.Shelf
theorem truths1_in (lr gE gK B N : Nat) (X0 : Nat → Prop) (J : List (Int × Int) → (Nat → Prop) → World → Prop) (A : Option Addr) (c : Nat) (l : List (Int × Int)) (x y : Int × Int)  (w : World) (hl2 : l.length = 2) (hJ : CalmX B J)
  (hY : ∀ (pre : List (Int × Int)) (x : Int × Int) (X : Nat → Prop) (W1 : World), J pre X W1 → pre.length < N → YieldAt Fence.wide 6 Try.prog lr #[.agg #[.int .i64 x.1, .int .i64 x.2, .int .i64 0]] W1 fun e W' => e = .returned (.bool true) ∧ ∃ X', J (pre ++ [x]) X' W' ∧ KpX lr X X' W1 W') (hkx : l[0]? = some x) (hky : l[1]? = some y) (hx : x.1 ≤ x.2) (hxb : -1000000 ≤ x.1 ∧ x.2 ≤ 1000000) (hy : y.1 ≤ y.2) (hyb : -1000000 ≤ y.1 ∧ y.2 ≤ 1000000) (hN : ([] : List (Int × Int)).length + (izz x.1 x.2).length * ((izz y.1 y.2).length * 1) ≤ N) (hX : ∀ b, X0 b → b < w.heap.size) (hlw : lr < w.heap.size) (hB : B ≤ w.heap.size) (hj : J [] X0 w) (q1 : BkX lr X0 w gE #[.int .i64 0, .slice A l.length c, .slice none 0 0]) (q3 : BkX lr X0 w gK #[.slice none 0 0]) (hr : RdX lr X0 w A l.length (rc l)) :
  Calls Try.prog 51 #[.func (.yield lr) #[] #[], .pointer (some ⟨gE, 0, none⟩), .pointer (some ⟨gK, 0, none⟩)] w fun e W' => (∃ v, e = .returned v) ∧ ∃ xs X', xs = (allL x.1 x.2 y.1 y.2) ∧ J xs X' W' := by
 refine Zpx noEx Try.func51 rfl 9 rfl [.func (.yield lr) #[] #[], .pointer (some ⟨gE, 0, none⟩), .pointer (some ⟨gK, 0, none⟩)] rfl rfl (Mem.init w _) ?_
 intro ac wc T M
 refine Zsr ?_
 refine Zl2 ?_
 refine Zob M T rfl rfl rfl rfl (T.e 0 rfl) rfl ?_; clear M T; intro g1 wc ac M T
 replace T := T.pick [0, 2, 3] rfl
 refine Zln ?_
 refine Zsr ?_
 refine Zl2 ?_
 refine Zoa M T rfl rfl rfl rfl ?_; clear M T; intro g2 wc ac M T
 refine Zln ?_
 refine Zsr ?_
 refine lq (v := (.func (.func 52) #[] #[.pointer (some ⟨gE, 0, none⟩), .pointer (some ⟨gK, 0, none⟩), .pointer (some ⟨g1, 0, none⟩), .pointer (some ⟨g2, 0, none⟩)])) T (rn_makeFunc rfl .nil (.cons (T.e 2 rfl) (.cons (T.e 3 rfl) (.cons (T.e 1 rfl) (.cons (T.e 0 rfl) .nil))))) ?_; clear T ac; intro ac T
 refine Zl2 ?_
 refine Zos M T rfl rfl (T.e 1 rfl) (T.e 0 rfl) rfl .head rfl (by simp) rfl (by kernel_rfl) ?_; clear M T; intro wc ac M T
 replace T := T.pick [1] rfl
 refine Zln ?_
 refine wp_region_lit ?_
 refine Zg2 (v2 := (.agg #[.int .i64 0, .int .i64 0, .int .i64 0])) T (Zq (Zro (Mem.nth M 0 rfl) rfl (T.e 0 rfl) rfl)) rfl (fun _ T => Zq (rn_build rfl .nil (fun _ => by kernel_rfl))) rfl ?_; clear T ac; intro ac T
 refine Zl2 ?_
 have hj9 := hJ _ _ _ _ hj (KeepN.of_mem M (fun b h => h.elim))
 have qy9 : BkX lr X0 wc g1 #[.func (.yield lr) #[] #[]] := ⟨M.nth 1 rfl, fun h => by have := (M.blk _ (Zne (i := 1) rfl)).1.elim id (fun h => h.elim); omega, fun h => by have := hX _ h; have := (M.blk _ (Zne (i := 1) rfl)).1.elim id (fun h => h.elim); omega⟩
 have qn9 : BkX lr X0 wc g2 #[.func (.func 52) #[] #[.pointer (some ⟨gE, 0, none⟩), .pointer (some ⟨gK, 0, none⟩), .pointer (some ⟨g1, 0, none⟩), .pointer (some ⟨g2, 0, none⟩)]] := ⟨M.nth 0 rfl, fun h => by have := (M.blk _ (Zne (i := 0) rfl)).1.elim id (fun h => h.elim); omega, fun h => by have := hX _ h; have := (M.blk _ (Zne (i := 0) rfl)).1.elim id (fun h => h.elim); omega⟩
 refine Zoc (first := []) (cap := [.pointer (some ⟨gE, 0, none⟩), .pointer (some ⟨gK, 0, none⟩), .pointer (some ⟨g1, 0, none⟩), .pointer (some ⟨g2, 0, none⟩)]) T rfl rfl rfl rfl (T.e 1 rfl) (.cons (T.e 0 rfl) (.cons evc .nil)) Try.func52 rfl rfl ?_
 refine Calls.mono (next0_any lr gE gK g1 g2 B N X0 X0 J A c l y (0, 0) [] x _ _ hl2 hJ hY hky hy hyb hkx hx hxb (Nat.lt_of_lt_of_le hlw M.size) hN (KpX.refl (fun b h => Nat.lt_of_lt_of_le (hX b h) M.size)) (Nat.le_trans hB M.size) hj9 ⟨M.old q1.1 (fun h => h), q1.2⟩ ⟨M.old q3.1 (fun h => h), q3.2⟩ qy9 qn9 ⟨M.rd hr.1 (Nat.le_refl _), hr.2⟩) ?_
 clear T; rintro e wc ⟨rfl, Xu1, hkpu1, hju1⟩ ac T
 clear M
 have M : Mem wc noEx wc [] := Mem.init wc _
 refine wpList_nil ?_
 replace T := T.pick [] rfl
 refine nm_0 T rfl ?_
 exact ⟨⟨_, rfl⟩, (allL x.1 x.2 y.1 y.2), Xu1, rfl, by have h9 := hJ _ _ _ _ hju1 (KeepN.of_mem M (fun b h => h.elim)); rw [allL_fm, List.nil_append] at h9; exact h9⟩
theorem allL_len (a0 a1 b0 b1 : Int) : (allL a0 a1 b0 b1).length = (izz a0 a1).length * ((izz b0 b1).length * 1) := by
 rw [← allL_fm]
 exact fm_len (fun v => fm_len (d := 1) (fun _ => rfl) _) _
theorem truths_seqX (gE gK : Nat) (X0 : Nat → Prop) (A : Option Addr) (c : Nat) (l : List (Int × Int)) (x y : Int × Int) (w : World) (hl2 : l.length = 2) (hkx : l[0]? = some x) (hky : l[1]? = some y) (hx : x.1 ≤ x.2) (hxb : -1000000 ≤ x.1 ∧ x.2 ≤ 1000000) (hy : y.1 ≤ y.2) (hyb : -1000000 ≤ y.1 ∧ y.2 ≤ 1000000) (hX : ∀ b, X0 b → b < w.heap.size) (q1 : Bk w gE #[.int .i64 0, .slice A l.length c, .slice none 0 0]) (q3 : Bk w gK #[.slice none 0 0]) (n1 : ¬ X0 gE) (n3 : ¬ X0 gK) (hr : Rd w w.heap.size 2 A l.length (rc l)) (nA : ∀ b o, A = some ⟨b, o, none⟩ → 0 < l.length → ¬ X0 b) :
  SeqX (α := Int × Int) Try.prog 51 #[.pointer (some ⟨gE, 0, none⟩), .pointer (some ⟨gK, 0, none⟩)] (fun x => #[.agg #[.int .i64 x.1, .int .i64 x.2, .int .i64 0]]) X0 (fun xs => xs = (allL x.1 x.2 y.1 y.2)) (allL x.1 x.2 y.1 y.2).length w :=
 fun lr J W hW hl1 hl9 hJ hY hj => truths1_in lr gE gK W.heap.size _ X0 J A c l x y W hl2 hJ hY hkx hky hx hxb hy hyb (by rw [allL_len, List.length_nil, Nat.zero_add]; exact Nat.le_refl _) (fun b h => Nat.lt_of_lt_of_le (hX b h) hW.size) hl9 (Nat.le_refl _) hj
  ⟨q1.below hW, fun h => by have := q1.lt; omega, n1⟩ ⟨q3.below hW, fun h => by have := q3.lt; omega, n3⟩
  ⟨(hr.below hW).more hW.size, fun b o h1 hn => ⟨fun h => by
   obtain ⟨b', o', h1', h2, -⟩ := hr.2 hn
   rw [h1] at h1'
   injection h1' with h1'
   injection h1' with h1' _ _
   omega, nA b o h1 hn⟩⟩
def TruthsPost (A : Option Addr) (c : Nat) (l : List (Int × Int)) (w : World) (e : Ending) (w' : World) : Prop := ∃ gE gK, e = .returned (.func (.func 51) #[] #[.pointer (some ⟨gE, 0, none⟩), .pointer (some ⟨gK, 0, none⟩)]) ∧ Mem w noEx w' [(gK, .cells [.slice none 0 0]), (gE, .cells [.int .i64 0, .slice A l.length c, .slice none 0 0])]
theorem truths_any (A : Option Addr) (c : Nat) (l : List (Int × Int))  (w : World) (hl2 : l.length = 2) (hr : Rd w w.heap.size 2 A l.length (rc l))  :
  Calls Try.prog 44 #[.agg #[.int .i64 0, .slice A l.length c, .slice none 0 0]] w (TruthsPost A c l w) := by
 obtain ⟨bJ, oJ, SJ⟩ := Sp.old hr
 refine Zpx noEx Try.func44 rfl 22 rfl [.agg #[.int .i64 0, .slice A l.length c, .slice none 0 0]] rfl rfl (Mem.init w _) ?_
 intro ac wc T M
 refine Zsr ?_
 refine Zl2 ?_
 refine Zob M T rfl rfl rfl rfl (T.e 0 rfl) rfl ?_; clear M T; intro g1 wc ac M T
 refine lq T (Zra rfl evc) ?_; clear T ac; intro ac T
 replace T := T.pick [1] rfl
 refine Zln ?_
 refine Zsr ?_
 refine Zl2 ?_
 refine Zoa M T rfl rfl rfl rfl ?_; clear M T; intro g2 wc ac M T
 refine Zln ?_
 refine wp_seq ?_
 refine Zsr ?_
 refine Zg4 (v1 := (.pointer (some ⟨g1, 2, none⟩))) (v3 := (.int .i64 0)) T (Zq (Zrf (off := 2) rfl (T.e 1 rfl) (fun _ _ _ => by kernel_rfl))) rfl (Zo M 1 0 rfl rfl rfl rfl) rfl (Zl Try.underlying42 0 rfl rfl) rfl (fun _ T => Zq (Zrm rfl evc)) rfl ?_; clear T ac; intro ac T
 replace T := T.pick [0, 1, 2, 4, 5] rfl
 refine Zln ?_
 refine wp_block ?_
 refine wp_loop_rounds 2 ?_
 refine rounds_S ?_
 refine Zsr ?_
 refine lq (v := (.bool false)) T (Zrq (rn_lss rfl (T.e 0 rfl) (T.e 1 rfl)) (by simp)) ?_; clear T ac; intro ac T
 refine Zln ?_
 refine wp_seq ?_
 refine wp_cond_false (T.e 0 rfl) ?_
 refine wp_exit ?_
 refine Zet ?_
 refine Zet ?_
 refine ex_hit ?_
 refine nm_then ?_
 refine Zsr ?_
 refine Zg2 (v1 := (.func (.func 51) #[] #[.pointer (some ⟨g1, 0, none⟩), .pointer (some ⟨g2, 0, none⟩)])) T (Zq (rn_makeFunc rfl .nil (.cons (T.e 5 rfl) (.cons (T.e 4 rfl) .nil)))) rfl (Za 0 rfl rfl) rfl ?_; clear T ac; intro ac T
 replace T := T.pick [0] rfl
 refine Zln ?_
 refine wp_ret ?_
 refine rt_1 T rfl (T.e 0 rfl) ?_
 exact ⟨g1, g2, rfl, M⟩
def GatherPost (l : List (Int × Int)) (w : World) (e : Ending) (w' : World) : Prop := ∃ (A : Option Addr) (c : Nat) (I : List (Nat × BA)), e = .returned (.slice A l.length c) ∧ Sl 72 3 (.slice A l.length c) l.length (tn l) I ∧ Mem w noEx w' I
theorem appendSeq_any (gE gK : Nat) (A : Option Addr) (c : Nat) (l : List (Int × Int)) (x y : Int × Int)  (w : World) (hl2 : l.length = 2) (hkx : l[0]? = some x) (hky : l[1]? = some y) (hx : x.1 ≤ x.2) (hxb : -1000000 ≤ x.1 ∧ x.2 ≤ 1000000) (hy : y.1 ≤ y.2) (hyb : -1000000 ≤ y.1 ∧ y.2 ≤ 1000000) (hal : (allL x.1 x.2 y.1 y.2).length ≤ 1000) (q1 : Bk w gE #[.int .i64 0, .slice A l.length c, .slice none 0 0]) (q3 : Bk w gK #[.slice none 0 0]) (hr : Rd w w.heap.size 2 A l.length (rc l))  :
   Calls Try.prog 49 #[.slice none 0 0, .func (.func 51) #[] #[.pointer (some ⟨gE, 0, none⟩), .pointer (some ⟨gK, 0, none⟩)]] w (GatherPost (allL x.1 x.2 y.1 y.2) w) := by
 refine px_enterM noEx Try.func49 rfl 13 rfl [.slice none 0 0, .func (.func 51) #[] #[.pointer (some ⟨gE, 0, none⟩), .pointer (some ⟨gK, 0, none⟩)]] rfl rfl (Mem.init w _) ?_
 intro ac wc T M
 refine Zsr ?_
 refine Zl2 ?_
 refine Zob M T rfl rfl rfl rfl (T.e 0 rfl) rfl ?_; clear M T; intro g1 wc ac M T
 refine lq T (Zra rfl evc) ?_; clear T ac; intro ac T
 replace T := T.pick [1, 3] rfl
 refine Zln ?_
 refine wp_seq ?_
 refine Zsr ?_
 refine lq T (Zrm rfl (T.e 1 rfl)) ?_; clear T ac; intro ac T
 replace T := T.pick [0, 1] rfl
 refine Zln ?_
 refine wp_block ?_
 have hg2 : w.heap.size ≤ g1 := (M.blk _ (Zne (i := 0) rfl)).1.elim id (fun h => h.elim)
 have hk9 : ∀ b, keysX [(g1, BA.cells [.slice none 0 0])] b → b = g1 := fun b h => by simpa [keysX] using h
 have hl9 : g1 < wc.heap.size := M.lt (Zne (i := 0) rfl)
 replace T := T.pick [1, 0] rfl
 replace M := M.mask [true] rfl
 refine px_rangeX (α := Int × Int) (γ := Nat) (n := 13) T (T.e 1 rfl) (enters_of Try.func51 (by kernel_rfl) rfl) (truths_seqX gE gK _ A c l x y wc hl2 hkx hky hx hxb hy hyb (fun b h => by rw [hk9 b h]; exact hl9) (M.old q1 (fun h => h)) (M.old q3 (fun h => h)) (fun h => by have := hk9 _ h; have := q1.lt; omega) (fun h => by have := hk9 _ h; have := q3.lt; omega) (M.rd hr (Nat.le_refl _)) (fun b o h1 hn h => by have := hk9 _ h; obtain ⟨b1, o1, h3, h4, -⟩ := hr.2 hn; rw [h1] at h3; injection h3 with h3; injection h3 with h3 _ _; omega)) (fun _ => rfl) (fun (pre : List (Int × Int)) (Lx : List (Nat × BA)) => ∃ (At : Option Addr) (ct : Nat) (It : List (Nat × BA)), (Sl 72 3 (.slice At pre.length ct) pre.length (tn pre) It) ∧ Lx = ((g1, .cells [.slice At pre.length ct]) :: It))
   (fun x => [(7, .agg #[.int .i64 x.1, .int .i64 x.2, .int .i64 0]), (2, .pointer (some ⟨g1, 0, none⟩)), (6, .func (.func 51) #[] #[.pointer (some ⟨gE, 0, none⟩), .pointer (some ⟨gK, 0, none⟩)])]) (fun x g2 => [(5, .pointer (some ⟨g2, 0, none⟩)), (2, .pointer (some ⟨g1, 0, none⟩))]) (fun x g2 => [(g2, .cells [.int .i64 x.1, .int .i64 x.2, .int .i64 0])]) M ?_ ?_ ?_ ?_ ?_
 ·exact ⟨none, 0, [], (Sl.nil _ _), rfl⟩
 ·exact fun x => T.round1 _ rfl rfl
 ·intro lp9 x wc K1 ac T hK1
  have M := Mem.init wc noEx
  refine ri_lit (fun _ _ h => h) rfl ?_
  refine Zl2 ?_
  refine Zoa M T rfl rfl rfl rfl ?_; clear M T; intro g2 wc ac M T
  refine Zl2 ?_
  refine Zos M T rfl rfl (T.e 0 rfl) (T.e 1 rfl) rfl .head rfl (by simp) rfl (by kernel_rfl) ?_; clear M T; intro wc ac M T
  replace T := T.pick [0, 2] rfl
  refine Zln ?_
  exact hK1 g2 _ _ (T.pick [0, 1] rfl) (M.mask [true] rfl)
 ·rintro lp9 pre x g2 Lx ac w hj hpn hz M0 hnl9 exb wc hexb hwc T M
  have hnx_g2 : ¬ exb g2 := by rw [hexb]; exact hnl9 _ Zz2
  obtain ⟨At, ct, It, hsl, rfl⟩ := hj
  replace T : TmD [] ac 13 [(5, .pointer (some ⟨g2, 0, none⟩)), (2, .pointer (some ⟨g1, 0, none⟩))] := T
  replace M : Mem w exb wc ((g1, .cells [.slice At pre.length ct]) :: It) := M
  replace M0 : Mem _ _ w ([(g2, .cells [.int .i64 x.1, .int .i64 x.2, .int .i64 0])] ++ ((g1, .cells [.slice At pre.length ct]) :: It)) := M0
  refine wpIn_block ?_
  refine ri_lit (fun _ _ h => h) rfl ?_
  refine Zg2 T (Zq (Zro (Mem.nth M 0 rfl) rfl (T.e 1 rfl) rfl)) rfl (fun _ T => Zq (Zrr (Mem.old M (Mem.nth M0 0 rfl) hnx_g2) rfl (T.e 1 rfl) rfl)) rfl ?_; clear T ac; intro ac T
  refine Zl2 ?_
  refine ow_bs (e := 72) [.int .i64 x.1, .int .i64 x.2, .int .i64 0] M T rfl rfl rfl rfl (.cons (T.e 0 rfl) .nil) (fun _ => by kernel_rfl) ?_; clear M T; intro g3 wc ac M T
  refine Zl2 ?_
  refine ow_app ([(g3, .cells [.int .i64 x.1, .int .i64 x.2, .int .i64 0]), (g1, .cells [.slice At pre.length ct])]) Try.info72 hsl M (by first | rfl | simp) T rfl rfl rfl rfl Try.underlying67 rfl rfl rfl (by omega) (T.e 2 rfl) (T.e 0 rfl) (Zne (i := 0) rfl) rfl rfl ?_; clear M T; intro ga1 cga1 wc ac M T
  refine Zl2 ?_
  refine Zos M T rfl rfl (T.e 5 rfl) (T.e 0 rfl) rfl (.tail (.tail .head)) rfl (by simp) rfl (by kernel_rfl) ?_; clear M T; intro wc ac M T
  refine wpList_nil ?_
  replace T := T.pick [5] rfl
  replace M := M.mask [true, false, true] rfl
  refine Znb ?_
  have e9 : pre.length + 1 = (pre ++ [x]).length := by simp
  have e8 : ((tn pre) ++ [.int .i64 x.1, .int .i64 x.2, .int .i64 0]) = tn (pre ++ [x]) := by rw [← tn_snoc]
  rw [e9, e8] at M
  clear e9 e8
  refine rx_nm (L := [(g1, .cells [.slice (some ⟨ga1, 0, none⟩) ((pre ++ [x]).length) cga1]), (ga1, .row 72 3 (pre ++ [x]).length (tn (pre ++ [x])) cga1)]) ?_ (M.perm [1, 0] rfl rfl)
  exact ⟨_, _, [(ga1, .row 72 3 (pre ++ [x]).length (tn (pre ++ [x])) cga1)], (Sl.row _ _ _ _ _ _), rfl⟩
 ·rintro D1 pre Lx ac wc hDn hSd hj hz T M
  obtain ⟨At, ct, It, hsl, rfl⟩ := hj
  replace T : TmD ((([D1] : List Nat)).map dfD) ac 13 [(2, .pointer (some ⟨g1, 0, none⟩)), (6, .func (.func 51) #[] #[.pointer (some ⟨gE, 0, none⟩), .pointer (some ⟨gK, 0, none⟩)])] := T
  obtain rfl : pre = (allL x.1 x.2 y.1 y.2) := hSd
  replace T := T.pick [0] rfl
  refine Znb ?_
  refine nm_then ?_
  refine Zsr ?_
  refine Zg2 T (Zq (Zro (Mem.nth M 1 rfl) rfl (T.e 0 rfl) rfl)) rfl (Za 0 rfl rfl) rfl ?_; clear T ac; intro ac T
  refine wpList_nil ?_
  replace T := T.pick [0] rfl
  replace M := M.mask [true, false] rfl
  refine Znr ?_
  refine rtM (L := (It)) (([D1] : List Nat)) T (Mem.swapI (I := dfT (([D1] : List Nat))) (L := (It)) (M.permT [0] 1 rfl rfl rfl rfl)) ?_; clear T M; intro wc ac T M
  refine rt_1 T rfl (T.e 0 rfl) ?_
  exact ⟨At, ct, It, rfl, hsl, M.mask [] rfl⟩
end
end Go.Proofs.Ytdnbljihhimijaa


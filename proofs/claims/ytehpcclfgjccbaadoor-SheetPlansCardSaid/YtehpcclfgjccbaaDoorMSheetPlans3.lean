/-
  Walks of functions, and plain laws (texts put together). No condition.
-/
import Derived.Test.YtehpcclfgjccbaaDoorMSheetPlans1
import Derived.Test.YtehpcclfgjccbaaDoorMSheetPlans2
set_option maxRecDepth 100000
set_option maxHeartbeats 1000000
section
/-
 sheet: lists of blanks; Plan, Fits.
-/
namespace Go.Proofs.YtehpcclfgjccbaaDoor
set_option linter.unusedSimpArgs false
set_option linter.unusedVariables false
open Go.RowKit
theorem Rd.bound {w : World} {B n1 size n : Nat} {A : Option Addr} {xs : List Value} (h : Rd w B size A n xs) (hb : ∀ b o, A = some ⟨b, o, none⟩ → 0 < n → b < n1) : Rd w n1 size A n xs :=
 ⟨h.1, fun hn => by
  obtain ⟨b, o, h1, h2, h3⟩ := h.2 hn
  exact ⟨b, o, h1, hb b o h1 hn, h3⟩⟩
theorem Rd.blk {w : World} {B size n : Nat} {A : Option Addr} {xs : List Value} (h : Rd w B size A n xs) : ∀ b o, A = some ⟨b, o, none⟩ → 0 < n → b < B := fun b o ha hn => by
 obtain ⟨b', o', h1, h2, -⟩ := h.2 hn
 rw [ha] at h1
 injection h1 with h1
 injection h1 with h1 _ _
 omega
theorem Sl.capLe {e n size : Nat} {A : Option Addr} {c : Nat} {xs : List Value} {I : List (Nat × BA)} {w0 w : World} {ex : Nat → Prop} {L : List (Nat × BA)} (h : Sl e size (.slice A n c) n xs I) (M : Mem w0 ex w L) (hI : I.Sublist L) : n ≤ c := by
 rcases h with ⟨h1, h2, -, -⟩ | ⟨g, cap, h1, h2⟩
 ·omega
 ·injection h1 with _ _ h3
  subst h3
  obtain ⟨⟨-, h5⟩, h6⟩ := (M.blk (g, .row e size n xs c) (hI.subset (by rw [h2]; exact List.mem_cons_self))).2
  rcases h5 with ⟨h7, -⟩ | ⟨g', cap, cur, h7, -, -, h8, -⟩
  ·cases h7
  ·injection h7 with _ _ h9
   omega
theorem Sl.spV {e n c size : Nat} {A : Option Addr} {xs : List Value} {I : List (Nat × BA)} (h : Sl e size (.slice A n c) n xs I) (hl : xs.length = n * size) : ∃ b o, ∀ (w : World) (ex : Nat → Prop), Sp w ex I A n size b o xs := by
 rcases h with ⟨h1, rfl, rfl, rfl⟩ | ⟨g, cap, h1, rfl⟩
 ·exact ⟨0, 0, fun w ex => Sp.nil⟩
 ·injection h1 with h1 _ h2
  subst h1
  exact ⟨g, 0, fun w ex => Sp.row (by omega)⟩
def lsE (n : Int) : List Int → List Int → Int
 | _, [] => 0
 | b, x :: r => if ¬ (0 ≤ x ∧ x ≤ n - 1) then 3 else if x ∈ b then 4 else lsE n (b ++ [x]) r
def lstE (s : Sk) (g : List Int) : Int := if skErr s ≠ 0 then skErr s else lsE s.ps.length [] g
def gP (s : Sk) (g : List Int) : List Pt := g.map fun x => s.ps.getD x.toNat default
def lstP (s : Sk) (g : List Int) : List Pt := if lstE s g = 0 then gP s g else []
theorem lsE_good {n : Int} : ∀ {g b : List Int}, lsE n b g = 0 → (∀ x ∈ g, 0 ≤ x ∧ x < n ∧ x ∉ b) ∧ g.Nodup
 | [], b, _ => by simp
 | x :: g, b, h => by
  unfold lsE at h
  split at h
  ·omega
  ·split at h
   ·omega
   ·rename_i h1 h2
    obtain ⟨k1, k2⟩ := lsE_good h
    refine ⟨fun y hy => ?_, List.nodup_cons.2 ⟨fun hx => ?_, k2⟩⟩
    ·rcases List.mem_cons.1 hy with rfl | hy
     ·exact ⟨by omega, by omega, h2⟩
     ·obtain ⟨q1, q2, q3⟩ := k1 y hy
      exact ⟨q1, q2, fun hb => q3 (List.mem_append_left _ hb)⟩
    ·exact (k1 x hx).2.2 (List.mem_append_right _ List.mem_cons_self)
theorem lsE_of {n : Int} : ∀ {g b : List Int}, (∀ x ∈ g, 0 ≤ x ∧ x < n ∧ x ∉ b) → g.Nodup → lsE n b g = 0
 | [], b, _, _ => rfl
 | x :: g, b, h, hn => by
  obtain ⟨h1, h2, h3⟩ := h x List.mem_cons_self
  unfold lsE
  rw [if_neg (by omega), if_neg h3]
  obtain ⟨n1, n2⟩ := List.nodup_cons.1 hn
  refine lsE_of (fun y hy => ?_) n2
  obtain ⟨q1, q2, q3⟩ := h y (List.mem_cons_of_mem _ hy)
  refine ⟨q1, q2, fun hb => ?_⟩
  rcases List.mem_append.1 hb with hb | hb
  ·exact q3 hb
  ·exact n1 ((List.mem_singleton.1 hb) ▸ hy)
theorem lstE_iff {s : Sk} {g : List Int} : lstE s g = 0 ↔ s.good ∧ (∀ x ∈ g, 0 ≤ x ∧ x < s.ps.length) ∧ g.Nodup := by
 unfold lstE
 constructor
 ·intro h
  split at h
  ·omega
  ·rename_i h1
   obtain ⟨k1, k2⟩ := lsE_good h
   exact ⟨skErr_iff.1 (by omega), fun x hx => ⟨(k1 x hx).1, (k1 x hx).2.1⟩, k2⟩
 ·rintro ⟨h1, h2, h3⟩
  rw [if_neg (by rw [skErr_iff.2 h1]; simp)]
  exact lsE_of (fun x hx => ⟨(h2 x hx).1, (h2 x hx).2, by simp⟩) h3
theorem nodup_len {α : Type} [DecidableEq α] : ∀ (l m : List α), l.Nodup → (∀ x ∈ l, x ∈ m) → l.length ≤ m.length
 | [], _, _, _ => Nat.zero_le _
 | x :: l, m, hn, hs => by
  obtain ⟨h1, h2⟩ := List.nodup_cons.1 hn
  have hx := hs x List.mem_cons_self
  have ih := nodup_len l (m.erase x) h2 fun y hy => (List.mem_erase_of_ne (a := y) (b := x) (fun e => h1 (by rw [← e]; exact hy))).2 (hs y (List.mem_cons_of_mem _ hy))
  rw [List.length_erase_of_mem hx] at ih
  have := List.length_pos_of_mem hx
  simp only [List.length_cons]
  omega
theorem nodup_short {n : Nat} {g : List Int} (h : ∀ x ∈ g, 0 ≤ x ∧ x < (n : Int)) (hn : g.Nodup) : g.length ≤ n := by
 have h1 : (g.map Int.toNat).Nodup := by
  refine List.pairwise_map.2 (hn.imp_of_mem fun {a b} ha hb hne => ?_)
  have := h a ha
  have := h b hb
  omega
 have h2 : g.map Int.toNat ⊆ List.range n := fun k hk => by
  obtain ⟨x, hx, rfl⟩ := List.mem_map.1 hk
  have := h x hx
  rw [List.mem_range]
  omega
 have h3 := nodup_len _ _ h1 h2
 simpa using h3
theorem gP_good {s : Sk} {g : List Int} (hs : s.good) (h : ∀ x ∈ g, 0 ≤ x ∧ x < s.ps.length) : ∀ p ∈ gP s g, p.good := fun p hp => by
 obtain ⟨x, hx, rfl⟩ := List.mem_map.1 hp
 have := h x hx
 rw [List.getD_eq_getElem?_getD, List.getElem?_eq_getElem (by omega)]
 exact hs.ps _ (List.getElem_mem _)
theorem lstP_good {s : Sk} {g : List Int} (h : lstE s g = 0) : lstP s g = gP s g ∧ (∀ p ∈ gP s g, p.good) ∧ (gP s g).length ≤ 5 := by
 obtain ⟨h1, h2, h3⟩ := lstE_iff.1 h
 refine ⟨if_pos h, gP_good h1 h2, ?_⟩
 have := nodup_short h2 h3
 have := h1.len
 simp only [gP, List.length_map]
 omega
def whR (s : Sk) (L : List Pt) : Rm := ⟨2 ^ L.length - 1, s.lo, s.wi⟩
noncomputable def canS (s : Sk) (su : Bool) (L : List Pt) : Bool := canB (cutA s su) (cutC s su) L (whR s L)
theorem canS_iff {s : Sk} {su : Bool} {L : List Pt} : canS s su L = true ↔ Cut (Fit (cutA s su) (cutC s su)) L s.lo s.wi := by
 unfold canS
 rw [canB_iff]
 unfold canP whR
 rw [sel_all]
noncomputable def planE (s : Sk) (g : List Int) (su : Bool) : Int := if lstE s g ≠ 0 then lstE s g else if canS s su (gP s g) = true then 0 else 11
noncomputable def fitV (s : Sk) (g : List Int) : Int := if lstE s g ≠ 0 then 0 else if canS s true (gP s g) = true then 1 else if canS s false (gP s g) = true then 3 else 2
theorem Lay.det {a c : Int} {L : List Pt} {r : Rm} {x y : Int} {A : List (Nat × Spt)} (h : Lay a c L r x y A) : ∀ {B : List (Nat × Spt)}, Lay a c L r x y B → A = B := by
 induction h with
 | none h1 => intro B h; cases h <;> first | rfl | omega
 | one h1 => intro B h; cases h <;> first | rfl | omega
 | cut h1 h2 _ _ ih1 ih2 =>
  intro B h
  cases h with
  | none => omega
  | one => omega
  | cut k1 k2 k3 k4 =>
   rw [h2] at k2
   injection k2 with k2
   subst k2
   rw [ih1 k3, ih2 k4]
open Classical in
noncomputable def planA (s : Sk) (g : List Int) (su : Bool) : List (Nat × Spt) := if h : ∃ A, Lay (cutA s su) (cutC s su) (gP s g) (whR s (gP s g)) 0 0 A then Classical.choose h else []
theorem planA_eq {s : Sk} {g : List Int} {su : Bool} {A : List (Nat × Spt)} (h : Lay (cutA s su) (cutC s su) (gP s g) (whR s (gP s g)) 0 0 A) : planA s g su = A := by
 unfold planA
 rw [dif_pos ⟨A, h⟩]
 exact (Classical.choose_spec (⟨A, h⟩ : ∃ A, Lay (cutA s su) (cutC s su) (gP s g) (whR s (gP s g)) 0 0 A)).det h
noncomputable def planL (s : Sk) (g : List Int) (su : Bool) : List Spt := if planE s g su = 0 then putS (List.replicate (gP s g).length ⟨0, 0, false⟩) (planA s g su) else []
theorem cut_bd {s : Sk} (h : s.good) (su : Bool) : (0 ≤ cutA s su ∧ cutA s su ≤ 2) ∧ 0 ≤ cutC s su ∧ cutC s su ≤ 2 := by
 obtain ⟨-, -, h3, h4, -, -⟩ := h
 unfold cutA cutC
 split <;> omega
theorem lay_any (s : Sk) (A : Option Addr) (d : Nat) (a c : Int) (ga gc : Nat) (B : Option Addr) (e : Nat) (L : List Pt) (gm n1 : Nat) (ha : 0 ≤ a ∧ a ≤ 2) (hc : 0 ≤ c ∧ c ≤ 2) (hg : ∀ p ∈ L, p.good) (h5 : L.length ≤ 5) (hn1 : n1 ≤ gm) (gs f : Nat) (hsm : gm ≠ gs) (hn2 : n1 ≤ gs) : ∀ n : Nat, LaySpec s A d a c ga gc B e L gm n1 gs f n
 | 0 => fun r x y sp ys w hn => by omega
 | n + 1 => fun r x y sp ys w hn hs hlo hwi hx hy hsl hc9 he hq hq2 => lay_step s A d a c ga gc B e L gm n1 gs f n r x y sp ys w ha hc hg h5 hn1 hsm hn2 (lay_any s A d a c ga gc B e L gm n1 ha hc hg h5 hn1 gs f hsm hn2 n) hn hs hlo hwi hx hy hsl hc9 he hq hq2
def LsPost (size : Nat) (xs : List Value) (n : Nat) (er : Int) (w : World) (e : Ending) (w' : World) : Prop := ∃ A c I, e = .returned (.tuple #[.slice A n c, .int .i64 er]) ∧ n ≤ c ∧ (∃ b o, ∀ (w : World) (ex : Nat → Prop), Sp w ex I A n size b o xs) ∧ Mem w noEx w' I
theorem LsPost.nil {size : Nat} {er : Int} {w w' : World} {L : List (Nat × BA)} (M : Mem w noEx w' L) : LsPost size [] 0 er w (.returned (.tuple #[.slice none 0 0, .int .i64 er])) w' := ⟨none, 0, [], rfl, by simp, ⟨0, 0, fun _ _ => Sp.nil⟩, M.sub (List.nil_sublist _)⟩
theorem index_any (G : Option Addr) (n : Nat) (g : List Int) (v : Int)  (w : World) (hG : Rd w w.heap.size 1 G g.length (ic g)) (nG : g.length ≤ 1000000)  :
   Calls Tryd.prog 114 #[.slice G g.length n, .int .i64 v] w fun e w' => ∃ k : Int, e = .returned (.int .i64 k) ∧ (0 ≤ k ↔ v ∈ g) ∧ Below w.heap.size w w' := by
 obtain ⟨bG, oG, SG⟩ := Sp.old hG
 refine px_enter noEx Tryd.func114 rfl 19 rfl [.slice G g.length n, .int .i64 v] rfl rfl (Mem.init w _) ?_
 intro ac wc T M
 refine wp_seq ?_
 refine wp_region_lit ?_
 refine lq T (ra9 rfl evc) ?_; clear T ac; intro ac T
 refine wpList_nil ?_
 replace T := T.pick [1, 2] rfl
 refine nt9 ?_
 refine wp_seq ?_
 refine wp_seq ?_
 refine wp_region_lit ?_
 refine lq T (rm9 rfl (T.ev 0 rfl)) ?_; clear T ac; intro ac T
 refine lq T (rn_lenS rfl Tryd.underlying27 (T.ev 0 rfl)) ?_; clear T ac; intro ac T
 refine lq T (rm9 rfl evc) ?_; clear T ac; intro ac T
 refine wpList_nil ?_
 replace T := T.pick [0, 1, 3, 4] rfl
 refine nt9 ?_
 refine wp_block ?_
 refine wp_loop_n (fun mz ac wc => ∃ (k : Nat), mz = g.length - k ∧ (k ≤ g.length) ∧ (v ∉ g.take k) ∧ Tm ac 19 [(0, .slice G g.length n), (1, .int .i64 v), (7, .int .i64 ((g.length : Nat) : Int)), (8, .int .i64 (k : Int))] ∧ Mem w noEx wc []) ?_ ?_
 ·exact ⟨_, 0, rfl, (Nat.zero_le _), (by simp), T.pick [2, 3, 1, 0] rfl, M.mask [] rfl⟩
 clear T M
 rintro mz ac wc ⟨k, hmm1, hk, H, T, M⟩
 refine wp_seq ?_
 refine wp_region_lit ?_
 refine lq T (rn_lss rfl (T.ev 3 rfl) (T.ev 2 rfl)) ?_; clear T ac; intro ac T
 refine wpList_nil ?_
 refine nt9 ?_
 refine wp_seq ?_
 refine wp_if (T.ev 0 rfl) ?_ ?_
 ·intro h1
  obtain ⟨x, hkx, -⟩ := ic_next (l := g) (k := k) (by omega)
  refine wp_skip ?_
  refine nt9 ?_
  refine wp_seq ?_
  refine wp_block ?_
  refine wp_seq ?_
  refine wp_region_lit ?_
  refine lq T (rm9 rfl (T.ev 4 rfl)) ?_; clear T ac; intro ac T
  refine lq T (ra9 rfl (T.ev 0 rfl)) ?_; clear T ac; intro ac T
  refine wpList_nil ?_
  replace T := T.pick [0, 3, 4, 5, 6] rfl
  refine nt9 ?_
  refine wp_seq ?_
  refine wp_region_lit ?_
  refine lq T (rm9 rfl (T.ev 2 rfl)) ?_; clear T ac; intro ac T
  refine lq T (rm9 rfl (T.ev 2 rfl)) ?_; clear T ac; intro ac T
  refine lq T (rm9 rfl (T.ev 2 rfl)) ?_; clear T ac; intro ac T
  refine lq T (rn_indexAddr (size := 1) k rfl (T.ev 1 rfl) (T.ev 0 rfl) ⟨_, Tryd.underlying27, by kernel_rfl⟩ rfl (by omega) (SG.at0 (by omega))) ?_; clear T ac; intro ac T
  refine lq T (rn_cell (Sp.ic0 SG M (List.nil_sublist _) hkx) rfl (T.ev 0 rfl)) ?_; clear T ac; intro ac T
  refine lq T (rn_eql rfl (T.ev 4 rfl) (T.ev 0 rfl)) ?_; clear T ac; intro ac T
  refine wpList_nil ?_
  replace T := T.pick [0, 6, 7, 8, 9, 10] rfl
  refine nt9 ?_
  refine wp_if (T.ev 0 rfl) ?_ ?_
  ·intro h2
   refine wp_seq ?_
   refine wp_region_lit ?_
   refine lq T (rm9 rfl (T.ev 1 rfl)) ?_; clear T ac; intro ac T
   refine lq T (ra9 rfl (T.ev 0 rfl)) ?_; clear T ac; intro ac T
   refine wpList_nil ?_
   replace T := T.pick [0] rfl
   refine nt9 ?_
   refine wp_ret ?_
   refine rt_blk ?_
   refine rt_then ?_
   refine rt_then ?_
   refine rt_blk ?_
   refine rt_then ?_
   refine rt_1 T rfl (T.ev 0 rfl) ?_
   exact ⟨_, rfl, ⟨fun _ => by rw [show v = x by omega]; exact List.mem_of_getElem? hkx, fun _ => by omega⟩, M.below⟩
  intro h2
  refine wp_skip ?_
  refine nm_blk ?_
  refine nt9 ?_
  refine wp_region_lit ?_
  refine lq T (rn_add rfl (T.ev 5 rfl) evc (by omega)) ?_; clear T ac; intro ac T
  refine l_q (v := (.int .i64 ((k : Int) + 1))) (T.pick [0, 1, 2, 3, 4, 5] rfl) rfl rfl rfl rfl (rm9 rfl (T.ev 0 rfl)) ?_; clear T ac; intro ac T
  refine wpList_nil ?_
  replace T := T.pick [0, 4, 5, 6] rfl
  refine nt9 ?_
  exact ⟨_, by omega, k + 1, rfl, (by omega), (by rw [List.take_add_one, hkx]; simp only [Option.toList_some, List.mem_append, List.mem_singleton]; rintro (h9 | h9); exact H h9; omega), T.pick [1, 2, 3, 0] rfl, M.mask [] rfl⟩
 intro h1
 rw [List.take_of_length_le (by omega)] at H
 refine wp_exit ?_
 refine ex_then ?_
 refine ex_then ?_
 refine ex_hit ?_
 refine nt9 ?_
 refine wp_seq ?_
 refine wp_region_lit ?_
 refine lq T (ra9 rfl evc) ?_; clear T ac; intro ac T
 refine wpList_nil ?_
 replace T := T.pick [0] rfl
 refine nt9 ?_
 refine wp_ret ?_
 refine rt_1 T rfl (T.ev 0 rfl) ?_
 exact ⟨-1, rfl, ⟨fun h9 => by omega, fun h9 => absurd h9 H⟩, M.below⟩
theorem contains_any (G : Option Addr) (n : Nat) (g : List Int) (v : Int)  (w : World) (hG : Rd w w.heap.size 1 G g.length (ic g)) (nG : g.length ≤ 1000000)  :
  Calls Tryd.prog 99 #[.slice G g.length n, .int .i64 v] w fun e w' => e = .returned (.bool (decide (v ∈ g))) ∧ Below w.heap.size w w' := by
 obtain ⟨bG, oG, SG⟩ := Sp.old hG
 refine px_enter noEx Tryd.func99 rfl 9 rfl [.slice G g.length n, .int .i64 v] rfl rfl (Mem.init w _) ?_
 intro ac wc T M
 refine wp_seq ?_
 refine wp_region_lit ?_
 refine lq T (ra9 rfl evc) ?_; clear T ac; intro ac T
 refine wpList_nil ?_
 replace T := T.pick [1, 2] rfl
 refine nt9 ?_
 refine wp_seq ?_
 refine wp_region_lit ?_
 refine lq T (rm9 rfl (T.ev 0 rfl)) ?_; clear T ac; intro ac T
 refine lq T (rm9 rfl (T.ev 2 rfl)) ?_; clear T ac; intro ac T
 refine l_w rfl ?_; intro K hK
 refine oc9 (first := []) (cap := []) T rfl rfl rfl rfl evf (.cons (T.ev 1 rfl) (.cons (T.ev 0 rfl) .nil)) Tryd.func114 rfl rfl ?_
 refine Calls.mono (index_any G n g v _ (SG.rd M (List.nil_sublist _)) (by omega)) ?_
 clear T
 rintro e wc ⟨ku1, rfl, hku1, hb⟩
 intro ac T
 replace M := M.call hb; clear hb
 refine so9 hK _ _ ?_; clear hK K
 refine lq T (rn_geq rfl (T.ev 0 rfl) evc) ?_; clear T ac; intro ac T
 refine lq T (ra9 rfl (T.ev 0 rfl)) ?_; clear T ac; intro ac T
 refine wpList_nil ?_
 replace T := T.pick [0] rfl
 refine nt9 ?_
 refine wp_ret ?_
 refine rt_1 T rfl (T.ev 0 rfl) ?_
 exact ⟨ret_bool (decide_eq_decide.2 hku1), M.below⟩
set_option maxHeartbeats 2000000 in
theorem listed_any (s : Sk) (A : Option Addr) (d : Nat) (G : Option Addr) (n : Nat) (g : List Int)  (w : World) (hA : Rd w w.heap.size 4 A s.ps.length (pc s.ps)) (hG : Rd w w.heap.size 1 G g.length (ic g)) (nA : s.ps.length ≤ 1000000) (nG : g.length ≤ 1000000) (hgn : g.length ≤ n)  :
   Calls Tryd.prog 69 #[.agg #[.int .i64 s.lo, .int .i64 s.wi, .int .i64 s.a0, .int .i64 s.a1, .int .i64 s.c0, .int .i64 s.c1, .slice A s.ps.length d], .slice G g.length n] w (LsPost 4 (pc (lstP s g)) (lstP s g).length (lstE s g) w) := by
 obtain ⟨bA, oA, SA⟩ := Sp.old hA
 obtain ⟨bG, oG, SG⟩ := Sp.old hG
 refine px_enter noEx Tryd.func69 rfl 44 rfl [.agg #[.int .i64 s.lo, .int .i64 s.wi, .int .i64 s.a0, .int .i64 s.a1, .int .i64 s.c0, .int .i64 s.c1, .slice A s.ps.length d], .slice G g.length n] rfl rfl (Mem.init w _) ?_
 intro ac wc T M
 refine wp_seq ?_
 refine wp_region_lit ?_
 refine l_w rfl ?_; intro K hK
 refine ow_bx M T rfl rfl rfl rfl (T.ev 0 rfl) rfl ?_; clear M T; intro g1 wc ac M T
 refine so9 hK _ _ ?_; clear hK K
 refine lq T (ra9 rfl evc) ?_; clear T ac; intro ac T
 refine lq T (ra9 rfl evc) ?_; clear T ac; intro ac T
 refine wpList_nil ?_
 replace T := T.pick [2, 4] rfl
 refine nt9 ?_
 refine wp_seq ?_
 refine wp_seq ?_
 refine wp_region_lit ?_
 refine lq T (rn_rowO (Mem.nth M 0 rfl) rfl (T.ev 0 rfl) rfl) ?_; clear T ac; intro ac T
 refine l_w rfl ?_; intro K hK
 refine oc9 (first := []) (cap := []) T rfl rfl rfl rfl evf (.cons (T.ev 0 rfl) .nil) Tryd.func60 rfl rfl ?_
 refine Calls.mono (skCheck_any s A d _ (SA.rd M (List.nil_sublist _)) (by omega)) ?_
 clear T
 rintro e wc ⟨rfl, hb⟩
 intro ac T
 replace M := M.call hb; clear hb
 refine so9 hK _ _ ?_; clear hK K
 refine lq T (ra9 rfl (T.ev 0 rfl)) ?_; clear T ac; intro ac T
 refine wpList_nil ?_
 replace T := T.pick [0, 3, 4] rfl
 refine nt9 ?_
 refine wp_seq ?_
 refine wp_region_lit ?_
 refine lq T (rm9 rfl (T.ev 0 rfl)) ?_; clear T ac; intro ac T
 refine lq T (rn_neq rfl (T.ev 0 rfl) evc) ?_; clear T ac; intro ac T
 refine wpList_nil ?_
 replace T := T.pick [0, 2, 3, 4] rfl
 refine nt9 ?_
 refine wp_ifn (T.ev 0 rfl) ?_ ?_
 ·intro h1
  refine wp_seq ?_
  refine wp_region_lit ?_
  refine lq T (rm9 rfl (T.ev 1 rfl)) ?_; clear T ac; intro ac T
  refine lq T (ra9 rfl evc) ?_; clear T ac; intro ac T
  refine lq T (ra9 rfl (T.ev 1 rfl)) ?_; clear T ac; intro ac T
  refine wpList_nil ?_
  replace T := T.pick [0, 1] rfl
  replace M := M.mask [false] rfl
  refine nt9 ?_
  refine wp_ret ?_
  refine rt_then ?_
  refine rt_2 T rfl (T.ev 1 rfl) (T.ev 0 rfl) ?_
  have e9 : lstE s g = skErr s := if_pos (by omega)
  have e8 : lstP s g = [] := if_neg (by omega)
  rw [e9, e8]
  exact LsPost.nil M
 intro h1
 refine wp_skip ?_
 refine nt9 ?_
 refine wp_seq ?_
 refine wp_region_lit ?_
 refine lq T (ra9 rfl evc) ?_; clear T ac; intro ac T
 refine wpList_nil ?_
 replace T := T.pick [0, 3, 4] rfl
 refine nt9 ?_
 refine wp_seq ?_
 refine wp_seq ?_
 refine wp_region_lit ?_
 refine lq T (rm9 rfl (T.ev 2 rfl)) ?_; clear T ac; intro ac T
 refine lq T (rn_lenS rfl Tryd.underlying27 (T.ev 0 rfl)) ?_; clear T ac; intro ac T
 refine lq T (rm9 rfl evc) ?_; clear T ac; intro ac T
 refine wpList_nil ?_
 refine nt9 ?_
 refine wp_block ?_
 refine wp_loop_n (fun mz ac wc => ∃ (k : Nat) (OL : List Pt) (A3 : Option Addr) (c3 : Nat) (Io : List (Nat × BA)), mz = g.length - k ∧ (k ≤ g.length) ∧ (lsE s.ps.length [] g = lsE s.ps.length (g.take k) (g.drop k)) ∧ (OL = gP s (g.take k)) ∧ (OL.length = k) ∧ (Sl 63 4 (.slice A3 OL.length c3) OL.length (pc OL) Io) ∧ Tm ac 44 [(1, .slice G g.length n), (2, .pointer (some ⟨g1, 0, none⟩)), (7, .slice A3 OL.length c3), (15, .slice G g.length n), (16, .int .i64 ((g.length : Nat) : Int)), (17, .int .i64 (k : Int))] ∧ Mem w noEx wc ((g1, .cells [.int .i64 s.lo, .int .i64 s.wi, .int .i64 s.a0, .int .i64 s.a1, .int .i64 s.c0, .int .i64 s.c1, .slice A s.ps.length d]) :: Io)) ?_ ?_
 ·exact ⟨_, 0, [], none, 0, [], rfl, (Nat.zero_le _), rfl, rfl, rfl, (Sl.nil _ _), T.pick [5, 4, 3, 2, 1, 0] rfl, M.mask [true] rfl⟩
 clear T M
 rintro mz ac wc ⟨k, OL, A3, c3, Io, hmm1, hk, H, hO, hOl, hsl, T, M⟩
 refine wp_seq ?_
 refine wp_region_lit ?_
 refine lq T (rn_lss rfl (T.ev 5 rfl) (T.ev 4 rfl)) ?_; clear T ac; intro ac T
 refine wpList_nil ?_
 refine nt9 ?_
 refine wp_seq ?_
 refine wp_if (T.ev 0 rfl) ?_ ?_
 ·intro h2
  obtain ⟨x, hkx, hdx⟩ := ic_next (l := g) (k := k) (by omega)
  rw [hdx, lsE] at H
  refine wp_skip ?_
  refine nt9 ?_
  refine wp_seq ?_
  refine wp_block ?_
  refine wp_seq ?_
  refine wp_region_lit ?_
  refine lq T (rm9 rfl (T.ev 6 rfl)) ?_; clear T ac; intro ac T
  refine lq T (rn_indexAddr (size := 1) k rfl (T.ev 5 rfl) (T.ev 7 rfl) ⟨_, Tryd.underlying27, by kernel_rfl⟩ rfl (by omega) (SG.at0 (by omega))) ?_; clear T ac; intro ac T
  refine lq T (rn_cell (Sp.ic0 SG M (List.nil_sublist _) hkx) rfl (T.ev 0 rfl)) ?_; clear T ac; intro ac T
  refine lq T (ra9 rfl (T.ev 2 rfl)) ?_; clear T ac; intro ac T
  refine lq T (ra9 rfl (T.ev 1 rfl)) ?_; clear T ac; intro ac T
  refine wpList_nil ?_
  replace T := T.pick [0, 1, 6, 7, 8, 9, 10, 11] rfl
  refine nt9 ?_
  refine wp_seq ?_
  refine wp_seq ?_
  refine wp_region_lit ?_
  refine lq T (rm9 rfl (T.ev 0 rfl)) ?_; clear T ac; intro ac T
  refine lq (v := (.pointer (some ⟨g1, 6, none⟩))) T (rf9 (off := 6) rfl (T.ev 4 rfl) (fun _ _ _ => by kernel_rfl)) ?_; clear T ac; intro ac T
  refine lq T (rn_one (Mem.nth M 0 rfl) rfl (T.ev 0 rfl) rfl) ?_; clear T ac; intro ac T
  refine lq T (rn_lenS rfl Tryd.underlying24 (T.ev 0 rfl)) ?_; clear T ac; intro ac T
  refine lq T (rn_sub rfl (T.ev 0 rfl) evc (by omega)) ?_; clear T ac; intro ac T
  refine l_w rfl ?_; intro K hK
  refine oc9 (first := []) (cap := []) T rfl rfl rfl rfl evf (.cons (T.ev 4 rfl) (.cons evc (.cons (T.ev 0 rfl) .nil))) Tryd.func72 rfl rfl ?_
  refine Calls.mono (sin_any x 0 (((s.ps.length : Nat) : Int) - 1) _) ?_
  clear T
  rintro e wc ⟨rfl, hb⟩
  intro ac T
  replace M := M.call hb; clear hb
  refine so9 hK _ _ ?_; clear hK K
  refine lq T (rn_not rfl (T.ev 0 rfl)) ?_; clear T ac; intro ac T
  refine wpList_nil ?_
  replace T := T.pick [0, 7, 8, 9, 10, 11, 12, 13, 14] rfl
  refine nt9 ?_
  refine wp_cond_split (T.ev 0 rfl) ?_ ?_
  ·intro h3
   (try have h3' := h3; try simp only [Bool.and_eq_true, Bool.or_eq_true, Bool.not_eq_true', Bool.and_eq_false_imp, Bool.or_eq_false_iff, decide_eq_true_eq, decide_eq_false_iff_not] at h3')
   have h3b : ¬ (0 ≤ x ∧ x ≤ (s.ps.length : Int) - 1) := by simp [withinB] at h3; omega
   refine wp_seq ?_
   refine wp_region_lit ?_
   refine lq T (ra9 rfl evc) ?_; clear T ac; intro ac T
   refine lq T (ra9 rfl evc) ?_; clear T ac; intro ac T
   refine wpList_nil ?_
   replace T := T.pick [0, 1] rfl
   replace M := M.mask [false] rfl
   refine nt9 ?_
   refine wp_ret ?_
   refine rt_then ?_
   refine rt_blk ?_
   refine rt_then ?_
   refine rt_then ?_
   refine rt_blk ?_
   refine rt_then ?_
   refine rt_2 T rfl (T.ev 1 rfl) (T.ev 0 rfl) ?_
   have e9 : lstE s g = 3 := by unfold lstE; rw [if_neg (by omega), H, if_pos (by omega)]
   have e8 : lstP s g = [] := if_neg (by omega)
   rw [e9, e8]
   exact LsPost.nil M
  intro h3
  (try have h3' := h3; try simp only [Bool.and_eq_true, Bool.or_eq_true, Bool.not_eq_true', Bool.and_eq_false_imp, Bool.or_eq_false_iff, decide_eq_true_eq, decide_eq_false_iff_not] at h3')
  have h3b : 0 ≤ x ∧ x ≤ (s.ps.length : Int) - 1 := by simp [withinB] at h3; omega
  refine wp_skip ?_
  refine nt9 ?_
  refine wp_seq ?_
  refine wp_seq ?_
  refine wp_region_lit ?_
  refine lq T (rm9 rfl (T.ev 3 rfl)) ?_; clear T ac; intro ac T
  refine lq T (rm9 rfl (T.ev 3 rfl)) ?_; clear T ac; intro ac T
  refine lq T (rn_slice (size := 1) (l := 0) (h := k) rfl Tryd.underlying27 (by kernel_rfl) (T.ev 1 rfl) rfl (T.ev 0 rfl) (by omega) (by omega)) ?_; clear T ac; intro ac T
  obtain ⟨Aq1, hAq1⟩ : ∃ q : Option Addr, q = (if n = 0 then G else Option.map (fun x : Addr => x.add (0 * 1)) G) := ⟨_, rfl⟩
  rw [← hAq1] at T
  obtain ⟨lq1, hlq1⟩ : ∃ q, q = (g.drop 0).take (k - 0) := ⟨_, rfl⟩
  have nlq1 : lq1.length = k - 0 := by rw [hlq1, List.length_take, List.length_drop]; (try simp only [List.length_cons, List.length_append, List.length_nil]); omega
  rw [← nlq1] at T
  have SAq1 : Sp w noEx [] Aq1 lq1.length 1 bG (oG + 0 * 1) (ic lq1) := by rw [nlq1, hAq1, hlq1, ← ic_part]; exact SG.sub (by omega) (by omega) (by omega)
  refine lq T (rm9 rfl (T.ev 4 rfl)) ?_; clear T ac; intro ac T
  refine l_w rfl ?_; intro K hK
  refine oc9 (first := []) (cap := []) T rfl rfl rfl rfl evf (.cons (T.ev 1 rfl) (.cons (T.ev 0 rfl) .nil)) Tryd.func99 rfl rfl ?_
  refine Calls.mono (contains_any Aq1 (n - 0) lq1 x _ (SAq1.rd M (List.nil_sublist _)) (by omega)) ?_
  clear T
  rintro e wc ⟨rfl, hb⟩
  intro ac T
  replace M := M.call hb; clear hb
  refine so9 hK _ _ ?_; clear hK K
  refine wpList_nil ?_
  replace T := T.pick [0, 6, 8, 9, 10, 11, 12, 13] rfl
  refine nt9 ?_
  refine wp_if (T.ev 0 rfl) ?_ ?_
  ·intro h4
   have hin9 : x ∈ g.take k := by rw [show g.take k = lq1 by rw [hlq1]; simp]; exact h4
   refine wp_seq ?_
   refine wp_region_lit ?_
   refine lq T (ra9 rfl evc) ?_; clear T ac; intro ac T
   refine lq T (ra9 rfl evc) ?_; clear T ac; intro ac T
   refine wpList_nil ?_
   replace T := T.pick [0, 1] rfl
   replace M := M.mask [false] rfl
   refine nt9 ?_
   refine wp_ret ?_
   refine rt_then ?_
   refine rt_blk ?_
   refine rt_then ?_
   refine rt_then ?_
   refine rt_blk ?_
   refine rt_then ?_
   refine rt_2 T rfl (T.ev 1 rfl) (T.ev 0 rfl) ?_
   have e9 : lstE s g = 4 := by unfold lstE; rw [if_neg (by omega), H, if_neg (by simp; omega), if_pos hin9]
   have e8 : lstP s g = [] := if_neg (by omega)
   rw [e9, e8]
   exact LsPost.nil M
  intro h4
  obtain ⟨xk, hxk⟩ : ∃ q : Nat, x = (q : Int) := ⟨x.toNat, by omega⟩
  obtain ⟨p, hkp, -⟩ := pc_next (l := s.ps) (k := xk) (by omega)
  refine wp_skip ?_
  refine nt9 ?_
  refine wp_region_lit ?_
  refine lq T (rm9 rfl (T.ev 4 rfl)) ?_; clear T ac; intro ac T
  refine lq (v := (.pointer (some ⟨g1, 6, none⟩))) T (rf9 (off := 6) rfl (T.ev 4 rfl) (fun _ _ _ => by kernel_rfl)) ?_; clear T ac; intro ac T
  refine lq T (rn_one (Mem.nth M 0 rfl) rfl (T.ev 0 rfl) rfl) ?_; clear T ac; intro ac T
  refine lq T (rm9 rfl (T.ev 4 rfl)) ?_; clear T ac; intro ac T
  refine lq T (rn_indexAddr (size := 4) xk rfl (T.ev 1 rfl) (T.ev 0 rfl) ⟨_, Tryd.underlying24, by kernel_rfl⟩ hxk (by omega) (SA.at0 (by omega))) ?_; clear T ac; intro ac T
  refine lq (v := (.agg #[.int .i64 p.l, .int .i64 p.w, .bool p.gr, .int .i64 p.pa])) T (rn_rowat (Sp.pcR SA M (List.nil_sublist _) hkp) rfl (T.ev 0 rfl) rfl) ?_; clear T ac; intro ac T
  refine l_w rfl ?_; intro K hK
  refine ow_bs (e := 63) [.int .i64 p.l, .int .i64 p.w, .bool p.gr, .int .i64 p.pa] M T rfl rfl rfl rfl (.cons (T.ev 0 rfl) .nil) (fun _ => by kernel_rfl) ?_; clear M T; intro g2 wc ac M T
  refine so9 hK _ _ ?_; clear hK K
  refine l_w rfl ?_; intro K hK
  refine ow_app ([(g2, .cells [.int .i64 p.l, .int .i64 p.w, .bool p.gr, .int .i64 p.pa]), (g1, .cells [.int .i64 s.lo, .int .i64 s.wi, .int .i64 s.a0, .int .i64 s.a1, .int .i64 s.c0, .int .i64 s.c1, .slice A s.ps.length d])]) Tryd.info63 hsl M (by first | rfl | simp) T rfl rfl rfl rfl Tryd.underlying24 rfl rfl rfl (by omega) (T.ev 6 rfl) (T.ev 0 rfl) (nthE_mem (i := 0) rfl) rfl rfl ?_; clear M T; intro ga1 cga1 wc ac M T
  refine so9 hK _ _ ?_; clear hK K
  refine l_q (v := (.slice (some ⟨ga1, 0, none⟩) (OL.length + 1) cga1)) (T.pick [0, 1, 2, 3, 4, 5, 6, 7, 8, 9, 10, 11, 13, 14, 15] rfl) rfl rfl rfl rfl (ra9 rfl (T.ev 0 rfl)) ?_; clear T ac; intro ac T
  refine wpList_nil ?_
  replace T := T.pick [0, 11, 12, 13, 14, 15] rfl
  replace M := M.mask [true, false, true] rfl
  refine nm_blk ?_
  refine nt9 ?_
  refine wp_region_lit ?_
  refine lq T (rn_add rfl (T.ev 5 rfl) evc (by omega)) ?_; clear T ac; intro ac T
  refine l_q (v := (.int .i64 ((k : Int) + 1))) (T.pick [0, 1, 2, 3, 4, 5] rfl) rfl rfl rfl rfl (rm9 rfl (T.ev 0 rfl)) ?_; clear T ac; intro ac T
  refine wpList_nil ?_
  replace T := T.pick [0, 2, 3, 4, 5, 6] rfl
  refine nt9 ?_
  have e9 : OL.length + 1 = (OL ++ [p]).length := by simp
  have e8 : ((pc OL) ++ [.int .i64 p.l, .int .i64 p.w, .bool p.gr, .int .i64 p.pa]) = pc (OL ++ [p]) := by rw [← pc_snoc]
  rw [e9, e8] at M
  rw [e9] at T
  clear e9 e8
  exact ⟨_, by omega, k + 1, (OL ++ [p]), _, _, [(ga1, .row 63 4 (OL ++ [p]).length (pc (OL ++ [p])) cga1)], rfl, (by omega), (by rw [if_neg (by simp; omega), if_neg (show ¬ x ∈ g.take k by rw [show g.take k = lq1 by rw [hlq1]; simp]; exact h4)] at H; rw [H, List.take_add_one, hkx]; rfl), (by rw [hO, List.take_add_one, hkx]; simp [gP, hxk, List.getD_eq_getElem?_getD, hkp]), (by simp [hOl]), (Sl.row _ _ _ _ _ _), T.pick [2, 3, 1, 4, 5, 0] rfl, ((M.permT [1, 0] 2 rfl rfl rfl rfl).sub (List.sublist_append_left ([(g1, .cells [.int .i64 s.lo, .int .i64 s.wi, .int .i64 s.a0, .int .i64 s.a1, .int .i64 s.c0, .int .i64 s.c1, .slice A s.ps.length d]), (ga1, .row 63 4 (OL ++ [p]).length (pc (OL ++ [p])) cga1)] : List (Nat × BA)) _))⟩
 intro h2
 rw [List.drop_of_length_le (by omega), lsE] at H
 rw [List.take_of_length_le (by omega)] at hO
 refine wp_exit ?_
 refine ex_then ?_
 refine ex_then ?_
 refine ex_hit ?_
 refine nt9 ?_
 refine wp_seq ?_
 refine wp_region_lit ?_
 refine lq T (rm9 rfl (T.ev 3 rfl)) ?_; clear T ac; intro ac T
 refine lq T (ra9 rfl (T.ev 0 rfl)) ?_; clear T ac; intro ac T
 refine lq T (ra9 rfl evc) ?_; clear T ac; intro ac T
 refine wpList_nil ?_
 replace T := T.pick [0, 1] rfl
 replace M := M.mask [false] rfl
 refine nt9 ?_
 refine wp_ret ?_
 refine rt_2 T rfl (T.ev 1 rfl) (T.ev 0 rfl) ?_
 have e9 : lstE s g = 0 := by unfold lstE; rw [if_neg (by omega), H]
 have e8 : lstP s g = OL := (if_pos e9).trans hO.symm
 rw [e9, e8]
 replace M := M.mask [] rfl
 exact ⟨A3, c3, Io, rfl, hsl.capLe M (List.Sublist.refl _), hsl.spV (pc_length _), M⟩
end Go.Proofs.YtehpcclfgjccbaaDoor
end

section
/-
 sheet: Plan, Fits.
-/
namespace Go.Proofs.YtehpcclfgjccbaaDoor
set_option linter.unusedSimpArgs false
set_option linter.unusedVariables false
open Go.RowKit
set_option maxHeartbeats 4000000 in
theorem Plan_any (s : Sk) (A : Option Addr) (d : Nat) (G : Option Addr) (n : Nat) (g : List Int) (su : Bool)  (w : World) (hA : Rd w w.heap.size 4 A s.ps.length (pc s.ps)) (hG : Rd w w.heap.size 1 G g.length (ic g)) (nA : s.ps.length ≤ 1000000) (nG : g.length ≤ 1000000) (hgn : g.length ≤ n) (hT : TabW w)  :
   Calls Tryd.prog 33 #[.agg #[.int .i64 s.lo, .int .i64 s.wi, .int .i64 s.a0, .int .i64 s.a1, .int .i64 s.c0, .int .i64 s.c1, .slice A s.ps.length d], .slice G g.length n, .bool su] w (LsPost 3 (tc (planL s g su)) (planL s g su).length (planE s g su) w) := by
 obtain ⟨bA, oA, SA⟩ := Sp.old hA
 obtain ⟨bG, oG, SG⟩ := Sp.old hG
 refine px_enter noEx Tryd.func33 rfl 40 rfl [.agg #[.int .i64 s.lo, .int .i64 s.wi, .int .i64 s.a0, .int .i64 s.a1, .int .i64 s.c0, .int .i64 s.c1, .slice A s.ps.length d], .slice G g.length n, .bool su] rfl rfl (Mem.init w _) ?_
 intro ac wc T M
 refine wp_seq ?_
 refine wp_region_lit ?_
 refine l_w rfl ?_; intro K hK
 refine ow_bx M T rfl rfl rfl rfl (T.ev 0 rfl) rfl ?_; clear M T; intro g1 wc ac M T
 refine so9 hK _ _ ?_; clear hK K
 refine lq T (ra9 rfl evc) ?_; clear T ac; intro ac T
 refine lq T (ra9 rfl evc) ?_; clear T ac; intro ac T
 refine wpList_nil ?_
 replace T := T.pick [2, 4, 5] rfl
 refine nt9 ?_
 refine wp_seq ?_
 refine wp_region_lit ?_
 refine lq T (rn_rowO (Mem.nth M 0 rfl) rfl (T.ev 0 rfl) rfl) ?_; clear T ac; intro ac T
 refine lq T (rm9 rfl (T.ev 2 rfl)) ?_; clear T ac; intro ac T
 refine l_w rfl ?_; intro K hK
 refine oc9 (first := []) (cap := []) T rfl rfl rfl rfl evf (.cons (T.ev 1 rfl) (.cons (T.ev 0 rfl) .nil)) Tryd.func69 rfl rfl ?_
 refine Calls.mono (listed_any s A d G n g _ (SA.rd M (List.nil_sublist _)) (SG.rd M (List.nil_sublist _)) (by omega) (by omega) (by omega)) ?_
 clear T
 rintro e wc ⟨B, e, IB, rfl, hcpB, SVB, N⟩
 intro ac T
 obtain ⟨bB, oB, SVB⟩ := SVB
 obtain ⟨L, hL9⟩ : ∃ q, q = lstP s g := ⟨_, rfl⟩
 rw [← hL9] at SVB hcpB
 have SB := SVB w noEx
 replace M := (M.join N).swapI
 clear N
 replace M : Mem w noEx wc ((g1, .cells [.int .i64 s.lo, .int .i64 s.wi, .int .i64 s.a0, .int .i64 s.a1, .int .i64 s.c0, .int .i64 s.c1, .slice A s.ps.length d]) :: IB) := M
 rw [← hL9] at T
 refine so9 hK _ _ ?_; clear hK K
 refine lq T (rm9 rfl (T.ev 0 rfl)) ?_; clear T ac; intro ac T
 refine lq T (rn_extract rfl (T.ev 0 rfl) rfl) ?_; clear T ac; intro ac T
 refine lq T (rn_extract rfl (T.ev 1 rfl) rfl) ?_; clear T ac; intro ac T
 refine lq T (ra9 rfl (T.ev 1 rfl)) ?_; clear T ac; intro ac T
 refine lq T (ra9 rfl (T.ev 1 rfl)) ?_; clear T ac; intro ac T
 refine wpList_nil ?_
 replace T := T.pick [0, 1, 8, 10] rfl
 refine nt9 ?_
 refine wp_seq ?_
 refine wp_seq ?_
 refine wp_region_lit ?_
 refine lq T (rm9 rfl (T.ev 0 rfl)) ?_; clear T ac; intro ac T
 refine lq T (rn_neq rfl (T.ev 0 rfl) evc) ?_; clear T ac; intro ac T
 refine wpList_nil ?_
 replace T := T.pick [0, 2, 3, 4, 5] rfl
 refine nt9 ?_
 refine wp_ifn (T.ev 0 rfl) ?_ ?_
 ·intro h1
  refine wp_seq ?_
  refine wp_region_lit ?_
  refine lq T (rm9 rfl (T.ev 1 rfl)) ?_; clear T ac; intro ac T
  refine lq T (ra9 rfl evc) ?_; clear T ac; intro ac T
  refine lq T (ra9 rfl (T.ev 1 rfl)) ?_; clear T ac; intro ac T
  refine wpList_nil ?_
  replace T := T.pick [0, 1] rfl
  replace M := M.mask [false] rfl
  refine nt9 ?_
  refine wp_ret ?_
  refine rt_then ?_
  refine rt_2 T rfl (T.ev 1 rfl) (T.ev 0 rfl) ?_
  have e9 : planE s g su = lstE s g := if_pos (by omega)
  have e8 : planL s g su = [] := if_neg (by omega)
  rw [e9, e8]
  exact LsPost.nil M
 intro h1
 have hl9 : lstE s g = 0 := by omega
 obtain ⟨hp9, hg, h5⟩ := lstP_good hl9
 have hsg := (lstE_iff.1 hl9).1
 rw [hp9] at hL9
 rw [← hL9] at hg h5
 obtain ⟨hb1, hb2, -, -, -, -⟩ := hsg
 have hsg := (lstE_iff.1 hl9).1
 refine wp_skip ?_
 refine nt9 ?_
 refine wp_seq ?_
 refine wp_region_lit ?_
 refine lq T (rn_rowO (Mem.nth M 0 rfl) rfl (T.ev 3 rfl) rfl) ?_; clear T ac; intro ac T
 refine lq T (rm9 rfl (T.ev 5 rfl)) ?_; clear T ac; intro ac T
 refine l_w rfl ?_; intro K hK
 refine oc9 (first := []) (cap := []) T rfl rfl rfl rfl evf (.cons (T.ev 1 rfl) (.cons (T.ev 0 rfl) .nil)) Tryd.func70 rfl rfl ?_
 refine Calls.mono (cut_any s A d su _) ?_
 clear T
 rintro e wc ⟨gau2, gcu2, rfl, N⟩
 intro ac T
 obtain ⟨a, hae⟩ : ∃ q, q = cutA s su := ⟨_, rfl⟩
 obtain ⟨c, hce⟩ : ∃ q, q = cutC s su := ⟨_, rfl⟩
 rw [← hae, ← hce] at N
 obtain ⟨ha, hc⟩ := cut_bd hsg su
 rw [← hae] at ha
 rw [← hce] at hc
 replace M := M.join N; clear N
 replace M := M.mask [true, true, true] rfl
 refine so9 hK _ _ ?_; clear hK K
 refine lq T (rm9 rfl (T.ev 5 rfl)) ?_; clear T ac; intro ac T
 refine l_w rfl ?_; intro K hK
 obtain ⟨n1, hn1e⟩ : ∃ n : Nat, n = wc.heap.size := ⟨_, rfl⟩
 have hLb := (SB.rd M (.cons _ (.cons _ (.cons _ (List.Sublist.refl _))))).blk
 have hla := M.lt (nthE_mem (i := 0) rfl)
 have hlc := M.lt (nthE_mem (i := 1) rfl)
 have hl1 := (hT.mem0 M).lt
 rw [← hn1e] at hLb hla hlc hl1
 refine oc9 (first := []) (cap := []) T rfl rfl rfl rfl evf (.cons (T.ev 1 rfl) (.cons (T.ev 0 rfl) .nil)) Tryd.func80 rfl rfl ?_
 refine Calls.mono (plannerOf_any s A d a c gau2 gcu2 B e L _) ?_
 clear T
 rintro e wc ⟨gmu3, rfl, N⟩
 intro ac T
 have hn1 : n1 ≤ gmu3 := by rw [hn1e]; exact N.ge List.mem_cons_self
 replace M := M.join N; clear N
 replace M := M.mask [true, true, true, true] rfl
 refine so9 hK _ _ ?_; clear hK K
 refine l_w rfl ?_; intro K hK
 refine ow_al M T rfl rfl rfl rfl ?_; clear M T; intro g2 wc ac M T
 refine so9 hK _ _ ?_; clear hK K
 refine l_w rfl ?_; intro K hK
 refine ow_stO M T rfl rfl (T.ev 0 rfl) (T.ev 1 rfl) rfl .head rfl (by simp) rfl (by kernel_rfl) ?_; clear M T; intro wc ac M T
 refine so9 hK _ _ ?_; clear hK K
 refine wpList_nil ?_
 replace T := T.pick [0, 8] rfl
 replace M := M.mask [true, true, true, true, false] rfl
 refine nt9 ?_
 refine wp_seq ?_
 refine wp_seq ?_
 refine g_start2 M (M.mask [true, true, true, true] rfl) 5 (by kernel_rfl) rfl (by kernel_rfl) ?_
 clear M; intro wc M
 refine gq T 0 1 rfl (fun B w' hD hl hS => (rn_rowO (Mem.nth (show Mem w noEx w' _ from hS) 0 rfl) rfl (T.ev 0 rfl) rfl)) ?_; clear T ac; intro ac T
 refine gq T 1 3 rfl (fun B w' hD hl hS => (rn_rowO (Mem.nth (show Mem w noEx w' _ from hS) 0 rfl) rfl (T.ev 1 rfl) rfl)) ?_; clear T ac; intro ac T
 refine gw 2 7 ?_; intro K hK
 refine oc9 (first := []) (cap := []) T rfl rfl rfl rfl evf (.cons (T.ev 0 rfl) .nil) Tryd.func82 rfl rfl ?_
 refine Calls.mono (whole_any s A d a c gau2 gcu2 B e L gmu3 _ h5) ?_
 clear T
 rintro e wc ⟨rfl, hb⟩
 intro ac T
 replace M := M.call hb; clear hb
 refine so9 hK _ _ (M.mask [true, true, true, true] rfl) ?_; clear hK K
 refine gw 3 15 ?_; intro K hK
 refine oc9 (first := []) (cap := []) T rfl rfl rfl rfl evf (.cons (T.ev 2 rfl) (.cons (T.ev 0 rfl) .nil)) Tryd.func81 rfl rfl ?_
 refine Calls.mono (can_any s A d a c gau2 gcu2 B e L gmu3 n1 ha hc hg h5 hn1 6 (⟨(2 ^ L.length - 1 : Nat), s.lo, s.wi⟩ : Rm) _ (pop_lt _) (whole_pow _) (by dsimp only; omega) (by dsimp only; omega) ⟨(M.nth 2 rfl), (M.nth 3 rfl), Rd.bound (SB.rd M (.cons _ (.cons _ (.cons _ (.cons _ (List.Sublist.refl _)))))) hLb, hla, hlc, hl1, Nat.le_trans hn1 (Nat.le_of_lt (M.lt (nthE_mem (i := 1) rfl))), hT.mem0 M⟩ (M.at (nthE_mem (i := 1) rfl))) ?_
 clear T
 rintro e wc ⟨rfl, N⟩
 intro ac T
 replace M := M.joinE N (.tail .head)
 clear N
 refine so9 hK _ _ (M.mask [true, true, true, true] rfl) ?_; clear hK K
 refine gq T 4 31 rfl (fun _ _ _ _ _ => (rn_not rfl (T.ev 0 rfl))) ?_; clear T ac; intro ac T
 refine g_done (by kernel_rfl) ?_
 replace T := T.pick [0, 5, 6] rfl
 refine nt9 ?_
 refine wp_cond_split (T.ev 0 rfl) ?_ ?_
 ·intro h2
  (try have h2' := h2; try simp only [Bool.and_eq_true, Bool.or_eq_true, Bool.not_eq_true', Bool.and_eq_false_imp, Bool.or_eq_false_iff, decide_eq_true_eq, decide_eq_false_iff_not] at h2')
  refine wp_seq ?_
  refine wp_region_lit ?_
  refine lq T (ra9 rfl evc) ?_; clear T ac; intro ac T
  refine lq T (ra9 rfl evc) ?_; clear T ac; intro ac T
  refine wpList_nil ?_
  replace T := T.pick [0, 1] rfl
  replace M := M.mask [false, true, false, false] rfl
  refine nt9 ?_
  refine wp_ret ?_
  refine rt_then ?_
  refine rt_2 T rfl (T.ev 1 rfl) (T.ev 0 rfl) ?_
  have hcs : canS s su (gP s g) = canB a c L (⟨(2 ^ L.length - 1 : Nat), s.lo, s.wi⟩ : Rm) := by rw [hae, hce, hL9]; rfl
  have e9 : planE s g su = 11 := by unfold planE; rw [if_neg (by omega), if_neg (by rw [hcs]; simp_all)]
  have e8 : planL s g su = [] := if_neg (by omega)
  rw [e9, e8]
  exact LsPost.nil M
 intro h2
 (try have h2' := h2; try simp only [Bool.and_eq_true, Bool.or_eq_true, Bool.not_eq_true', Bool.and_eq_false_imp, Bool.or_eq_false_iff, decide_eq_true_eq, decide_eq_false_iff_not] at h2')
 have hcan9 : canB a c L (⟨(2 ^ L.length - 1 : Nat), s.lo, s.wi⟩ : Rm) = true := by simp_all
 refine wp_skip ?_
 refine nt9 ?_
 refine wp_seq ?_
 refine wp_region_lit ?_
 refine lq T (rm9 rfl (T.ev 2 rfl)) ?_; clear T ac; intro ac T
 refine lq T (rn_lenS rfl Tryd.underlying24 (T.ev 0 rfl)) ?_; clear T ac; intro ac T
 refine l_w rfl ?_; intro K hK
 have hlt9 := M.lt (nthE_mem (i := 1) rfl)
 refine ow_msK tcE 3 24 ⟨0, 0, false⟩ rfl (by decide) rfl (m := L.length) M T rfl rfl rfl rfl (T.ev 0 rfl) (T.ev 0 rfl) Tryd.underlying28 Tryd.info30 (by omega) (by decide) (by decide) ?_; clear M T; intro g3 wc ac hgeg3 M T
 obtain ⟨lm1, hlm1⟩ : ∃ q : List Spt, q = List.replicate L.length ⟨0, 0, false⟩ := ⟨_, rfl⟩
 have llm1 : lm1.length = L.length := by rw [hlm1, List.length_replicate]
 replace M : Mem w noEx wc ((g3, .cells (tc lm1 ++ [])) :: (g2, .cells [.int .i64 s.lo, .int .i64 s.wi, .int .i64 s.a0, .int .i64 s.a1, .int .i64 s.c0, .int .i64 s.c1, .slice A s.ps.length d, .func (.func 100) #[] #[.pointer (some ⟨gau2, 0, none⟩)], .func (.func 101) #[] #[.pointer (some ⟨gcu2, 0, none⟩)], .slice B L.length e, .map (some gmu3)]) :: (gmu3, .any (memoQ Tryd.prog 122 (okR a c L))) :: (gau2, .cells [.int .i64 a]) :: (gcu2, .cells [.int .i64 c]) :: IB) := by rw [hlm1]; exact M
 have Ss1 := Sp.pre (w := w) (ex := noEx) (size := 3) (n := lm1.length) (g := g3) (xs := tc lm1) (ys := []) (by simp [tc_length])
 refine so9 hK _ _ ?_; clear hK K
 refine lq T (ra9 rfl (T.ev 0 rfl)) ?_; clear T ac; intro ac T
 refine wpList_nil ?_
 replace T := T.pick [0, 5] rfl
 refine nt9 ?_
 refine wp_seq ?_
 refine g_start2 M (M.mask [false, true, true, true, true] rfl) 5 (by kernel_rfl) rfl (by kernel_rfl) ?_
 clear M; intro wc M
 refine gq T 0 1 rfl (fun B w' hD hl hS => (rn_rowO (Mem.nth (show Mem w noEx w' _ from hS) 0 rfl) rfl (T.ev 1 rfl) rfl)) ?_; clear T ac; intro ac T
 refine gq T 1 3 rfl (fun B w' hD hl hS => (rn_rowO (Mem.nth (show Mem w noEx w' _ from hS) 0 rfl) rfl (T.ev 2 rfl) rfl)) ?_; clear T ac; intro ac T
 refine gq T 3 11 rfl (fun _ _ _ _ _ => (rm9 rfl (T.ev 2 rfl))) ?_; clear T ac; intro ac T
 refine gw 2 15 ?_; intro K hK
 refine oc9 (first := []) (cap := []) T rfl rfl rfl rfl evf (.cons (T.ev 1 rfl) .nil) Tryd.func82 rfl rfl ?_
 refine Calls.mono (whole_any s A d a c gau2 gcu2 B e L gmu3 _ h5) ?_
 clear T
 rintro e wc ⟨rfl, hb⟩
 intro ac T
 replace M := M.call hb; clear hb
 refine so9 hK _ _ (M.mask [false, true, true, true, true] rfl) ?_; clear hK K
 refine gw 4 31 ?_; intro K hK
 have hsm : gmu3 ≠ g3 := by have h9 := M.nd; simp only [List.map_cons, List.cons_append, List.nil_append, List.nodup_cons, List.mem_cons, not_or] at h9; exact fun e9 => by simp_all
 have hn2 : n1 ≤ g3 := by omega
 refine oc9 (first := []) (cap := []) T rfl rfl rfl rfl evf (.cons (T.ev 3 rfl) (.cons (T.ev 0 rfl) (.cons evc (.cons evc (.cons (T.ev 1 rfl) .nil))))) Tryd.func83 rfl rfl ?_
 refine Calls.mono (lay_any s A d a c gau2 gcu2 B e L gmu3 n1 ha hc hg h5 hn1 g3 L.length hsm hn2 6 (⟨(2 ^ L.length - 1 : Nat), s.lo, s.wi⟩ : Rm) 0 0 lm1 [] _ (pop_lt _) (whole_pow _) (by dsimp only; omega) (by dsimp only; omega) (by dsimp only; omega) (by dsimp only; omega) (by omega) hcan9 ⟨(M.nth 3 rfl), (M.nth 4 rfl), Rd.bound (SB.rd M (.cons _ (.cons _ (.cons _ (.cons _ (.cons _ (List.Sublist.refl _))))))) hLb, hla, hlc, hl1, Nat.le_trans hn1 (Nat.le_of_lt (M.lt (nthE_mem (i := 2) rfl))), hT.mem0 M⟩ (M.at (nthE_mem (i := 2) rfl)) (M.at (nthE_mem (i := 0) rfl))) ?_
 clear T
 rintro e wc ⟨rfl, N⟩
 intro ac T
 obtain ⟨A9, hA9, N⟩ := N
 replace M := M.joinE2 N (.tail (.tail .head)) .head
 clear N
 refine so9 hK _ _ (M.mask [false, true, true, true, true] rfl) ?_; clear hK K
 refine g_done (by kernel_rfl) ?_
 replace T := T.pick [5] rfl
 replace M := M.mask [true, false, true, false, false] rfl
 refine nt9 ?_
 refine wp_seq ?_
 refine wp_region_lit ?_
 refine lq T (rm9 rfl (T.ev 0 rfl)) ?_; clear T ac; intro ac T
 refine lq T (ra9 rfl (T.ev 0 rfl)) ?_; clear T ac; intro ac T
 refine lq T (ra9 rfl evc) ?_; clear T ac; intro ac T
 refine wpList_nil ?_
 replace T := T.pick [0, 1] rfl
 refine nt9 ?_
 refine wp_ret ?_
 refine rt_2 T rfl (T.ev 1 rfl) (T.ev 0 rfl) ?_
 have hcs : canS s su (gP s g) = canB a c L (⟨(2 ^ L.length - 1 : Nat), s.lo, s.wi⟩ : Rm) := by rw [hae, hce, hL9]; rfl
 have e9 : planE s g su = 0 := by unfold planE; rw [if_neg (by omega), if_pos (by rw [hcs]; exact hcan9)]
 have e7 : planA s g su = A9 := planA_eq (by rw [← hL9, ← hae, ← hce]; exact hA9)
 have e8 : planL s g su = putS lm1 A9 := by unfold planL; rw [if_pos e9, e7, hlm1, hL9]
 have e6 : (planL s g su).length = L.length := by rw [e8, putS_length]; omega
 rw [e9, e6, e8]
 replace M : Mem w noEx wc [(g3, .cells (tc (putS lm1 A9) ++ []))] := (M.permT [0] 2 rfl rfl rfl rfl).sub (List.sublist_append_left _ _)
 exact ⟨_, _, _, rfl, Nat.le_refl _, ⟨g3, 0, fun w ex => Sp.pre (by rw [tc_length, putS_length]; omega)⟩, M⟩
set_option maxHeartbeats 2000000 in
theorem Fits_any (s : Sk) (A : Option Addr) (d : Nat) (G : Option Addr) (n : Nat) (g : List Int)  (w : World) (hA : Rd w w.heap.size 4 A s.ps.length (pc s.ps)) (hG : Rd w w.heap.size 1 G g.length (ic g)) (nA : s.ps.length ≤ 1000000) (nG : g.length ≤ 1000000) (hgn : g.length ≤ n) (hT : TabW w)  :
   Calls Tryd.prog 46 #[.agg #[.int .i64 s.lo, .int .i64 s.wi, .int .i64 s.a0, .int .i64 s.a1, .int .i64 s.c0, .int .i64 s.c1, .slice A s.ps.length d], .slice G g.length n] w fun e w' => e = .returned (.tuple #[.int .i64 (fitV s g), .int .i64 (lstE s g)]) ∧ Below w.heap.size w w' := by
 obtain ⟨bA, oA, SA⟩ := Sp.old hA
 obtain ⟨bG, oG, SG⟩ := Sp.old hG
 refine px_enter noEx Tryd.func46 rfl 28 rfl [.agg #[.int .i64 s.lo, .int .i64 s.wi, .int .i64 s.a0, .int .i64 s.a1, .int .i64 s.c0, .int .i64 s.c1, .slice A s.ps.length d], .slice G g.length n] rfl rfl (Mem.init w _) ?_
 intro ac wc T M
 refine wp_seq ?_
 refine wp_region_lit ?_
 refine l_w rfl ?_; intro K hK
 refine ow_bx M T rfl rfl rfl rfl (T.ev 0 rfl) rfl ?_; clear M T; intro g1 wc ac M T
 refine so9 hK _ _ ?_; clear hK K
 refine lq T (ra9 rfl evc) ?_; clear T ac; intro ac T
 refine lq T (ra9 rfl evc) ?_; clear T ac; intro ac T
 refine wpList_nil ?_
 replace T := T.pick [2, 4] rfl
 refine nt9 ?_
 refine wp_seq ?_
 refine wp_region_lit ?_
 refine lq T (rn_rowO (Mem.nth M 0 rfl) rfl (T.ev 0 rfl) rfl) ?_; clear T ac; intro ac T
 refine lq T (rm9 rfl (T.ev 2 rfl)) ?_; clear T ac; intro ac T
 refine l_w rfl ?_; intro K hK
 refine oc9 (first := []) (cap := []) T rfl rfl rfl rfl evf (.cons (T.ev 1 rfl) (.cons (T.ev 0 rfl) .nil)) Tryd.func69 rfl rfl ?_
 refine Calls.mono (listed_any s A d G n g _ (SA.rd M (List.nil_sublist _)) (SG.rd M (List.nil_sublist _)) (by omega) (by omega) (by omega)) ?_
 clear T
 rintro e wc ⟨B, e, IB, rfl, hcpB, SVB, N⟩
 intro ac T
 obtain ⟨bB, oB, SVB⟩ := SVB
 obtain ⟨L, hL9⟩ : ∃ q, q = lstP s g := ⟨_, rfl⟩
 rw [← hL9] at SVB hcpB
 have SB := SVB w noEx
 replace M := (M.join N).swapI
 clear N
 replace M : Mem w noEx wc ((g1, .cells [.int .i64 s.lo, .int .i64 s.wi, .int .i64 s.a0, .int .i64 s.a1, .int .i64 s.c0, .int .i64 s.c1, .slice A s.ps.length d]) :: IB) := M
 rw [← hL9] at T
 refine so9 hK _ _ ?_; clear hK K
 refine lq T (rm9 rfl (T.ev 0 rfl)) ?_; clear T ac; intro ac T
 refine lq T (rn_extract rfl (T.ev 0 rfl) rfl) ?_; clear T ac; intro ac T
 refine lq T (rn_extract rfl (T.ev 1 rfl) rfl) ?_; clear T ac; intro ac T
 refine lq T (ra9 rfl (T.ev 1 rfl)) ?_; clear T ac; intro ac T
 refine lq T (ra9 rfl (T.ev 1 rfl)) ?_; clear T ac; intro ac T
 refine wpList_nil ?_
 replace T := T.pick [0, 1, 8] rfl
 refine nt9 ?_
 refine wp_seq ?_
 refine wp_block ?_
 refine wp_seq ?_
 refine wp_region_lit ?_
 refine lq T (rm9 rfl (T.ev 0 rfl)) ?_; clear T ac; intro ac T
 refine lq T (rn_neq rfl (T.ev 0 rfl) evc) ?_; clear T ac; intro ac T
 refine lq T (ra9 rfl (T.ev 0 rfl)) ?_; clear T ac; intro ac T
 refine wpList_nil ?_
 replace T := T.pick [0, 3, 4, 5] rfl
 refine nt9 ?_
 refine wp_ifn (T.ev 0 rfl) ?_ ?_
 ·intro h1
  refine wp_seq ?_
  refine wp_region_lit ?_
  refine lq T (rm9 rfl (T.ev 1 rfl)) ?_; clear T ac; intro ac T
  refine lq T (ra9 rfl evc) ?_; clear T ac; intro ac T
  refine lq T (ra9 rfl (T.ev 1 rfl)) ?_; clear T ac; intro ac T
  refine wpList_nil ?_
  replace T := T.pick [0, 1] rfl
  replace M := M.mask [false] rfl
  refine nt9 ?_
  refine wp_ret ?_
  refine rt_blk ?_
  refine rt_then ?_
  refine rt_2 T rfl (T.ev 1 rfl) (T.ev 0 rfl) ?_
  have e9 : fitV s g = 0 := if_pos (by omega)
  rw [e9]
  exact ⟨rfl, M.below⟩
 intro h1
 have hl9 : lstE s g = 0 := by omega
 obtain ⟨hp9, hg, h5⟩ := lstP_good hl9
 have hsg := (lstE_iff.1 hl9).1
 rw [hp9] at hL9
 rw [← hL9] at hg h5
 obtain ⟨hb1, hb2, -, -, -, -⟩ := hsg
 have hsg := (lstE_iff.1 hl9).1
 refine wp_seq ?_
 refine wp_region_lit ?_
 refine lq T (rn_rowO (Mem.nth M 0 rfl) rfl (T.ev 3 rfl) rfl) ?_; clear T ac; intro ac T
 refine l_w rfl ?_; intro K hK
 refine oc9 (first := []) (cap := []) T rfl rfl rfl rfl evf (.cons (T.ev 0 rfl) (.cons evc .nil)) Tryd.func70 rfl rfl ?_
 refine Calls.mono (cut_any s A d true _) ?_
 clear T
 rintro e wc ⟨gau2, gcu2, rfl, N⟩
 intro ac T
 obtain ⟨a, hae⟩ : ∃ q, q = cutA s true := ⟨_, rfl⟩
 obtain ⟨c, hce⟩ : ∃ q, q = cutC s true := ⟨_, rfl⟩
 rw [← hae, ← hce] at N
 obtain ⟨ha, hc⟩ := cut_bd hsg true
 rw [← hae] at ha
 rw [← hce] at hc
 replace M := M.join N; clear N
 replace M := M.mask [true, true, true] rfl
 refine so9 hK _ _ ?_; clear hK K
 refine lq T (rm9 rfl (T.ev 4 rfl)) ?_; clear T ac; intro ac T
 refine l_w rfl ?_; intro K hK
 obtain ⟨n1, hn1e⟩ : ∃ n : Nat, n = wc.heap.size := ⟨_, rfl⟩
 refine oc9 (first := []) (cap := []) T rfl rfl rfl rfl evf (.cons (T.ev 1 rfl) (.cons (T.ev 0 rfl) .nil)) Tryd.func89 rfl rfl ?_
 refine Calls.mono (fit_any s A d a c gau2 gcu2 B e L wc.heap.size _ ha hc hg h5 (by omega) (by omega) (Nat.le_refl _) ⟨(M.nth 0 rfl), (M.nth 1 rfl), SB.rd M (.cons _ (.cons _ (.cons _ (List.Sublist.refl _)))), M.lt (nthE_mem (i := 0) rfl), M.lt (nthE_mem (i := 1) rfl), (hT.mem0 M).lt, Nat.le_refl _, hT.mem0 M⟩) ?_
 clear T
 rintro e wc ⟨rfl, hb⟩
 intro ac T
 replace M := M.call hb; clear hb
 have hcsT : canS s true (gP s g) = canB a c L (⟨(2 ^ L.length - 1 : Nat), s.lo, s.wi⟩ : Rm) := by rw [hae, hce, hL9]; rfl
 rw [← hcsT] at T
 refine so9 hK _ _ ?_; clear hK K
 refine lq T (ra9 rfl (T.ev 0 rfl)) ?_; clear T ac; intro ac T
 refine wpList_nil ?_
 replace T := T.pick [0, 7, 8] rfl
 replace M := M.mask [false, false, true] rfl
 refine nt9 ?_
 refine wp_cond_split (T.ev 0 rfl) ?_ ?_
 ·intro h2
  refine wp_seq ?_
  refine wp_region_lit ?_
  refine lq T (ra9 rfl evc) ?_; clear T ac; intro ac T
  refine lq T (ra9 rfl evc) ?_; clear T ac; intro ac T
  refine wpList_nil ?_
  replace T := T.pick [0, 1] rfl
  replace M := M.mask [false] rfl
  refine nt9 ?_
  refine wp_ret ?_
  refine rt_blk ?_
  refine rt_then ?_
  refine rt_2 T rfl (T.ev 1 rfl) (T.ev 0 rfl) ?_
  have e9 : fitV s g = 1 := by unfold fitV; rw [if_neg (by omega)]; simp_all
  have e8 : lstE s g = 0 := by omega
  rw [e9, e8]
  exact ⟨rfl, M.below⟩
 intro h2
 refine wp_seq ?_
 refine wp_region_lit ?_
 refine lq T (rn_rowO (Mem.nth M 0 rfl) rfl (T.ev 2 rfl) rfl) ?_; clear T ac; intro ac T
 refine l_w rfl ?_; intro K hK
 refine oc9 (first := []) (cap := []) T rfl rfl rfl rfl evf (.cons (T.ev 0 rfl) (.cons evc .nil)) Tryd.func70 rfl rfl ?_
 refine Calls.mono (cut_any s A d false _) ?_
 clear T
 rintro e wc ⟨gau4, gcu4, rfl, N⟩
 intro ac T
 obtain ⟨a, hae⟩ : ∃ q, q = cutA s false := ⟨_, rfl⟩
 obtain ⟨c, hce⟩ : ∃ q, q = cutC s false := ⟨_, rfl⟩
 rw [← hae, ← hce] at N
 obtain ⟨ha, hc⟩ := cut_bd hsg false
 rw [← hae] at ha
 rw [← hce] at hc
 replace M := M.join N; clear N
 replace M := M.mask [true, true, true] rfl
 refine so9 hK _ _ ?_; clear hK K
 refine lq T (rm9 rfl (T.ev 3 rfl)) ?_; clear T ac; intro ac T
 refine l_w rfl ?_; intro K hK
 obtain ⟨n1, hn1e⟩ : ∃ n : Nat, n = wc.heap.size := ⟨_, rfl⟩
 refine oc9 (first := []) (cap := []) T rfl rfl rfl rfl evf (.cons (T.ev 1 rfl) (.cons (T.ev 0 rfl) .nil)) Tryd.func89 rfl rfl ?_
 refine Calls.mono (fit_any s A d a c gau4 gcu4 B e L wc.heap.size _ ha hc hg h5 (by omega) (by omega) (Nat.le_refl _) ⟨(M.nth 0 rfl), (M.nth 1 rfl), SB.rd M (.cons _ (.cons _ (.cons _ (List.Sublist.refl _)))), M.lt (nthE_mem (i := 0) rfl), M.lt (nthE_mem (i := 1) rfl), (hT.mem0 M).lt, Nat.le_refl _, hT.mem0 M⟩) ?_
 clear T
 rintro e wc ⟨rfl, hb⟩
 intro ac T
 replace M := M.call hb; clear hb
 have hcsF : canS s false (gP s g) = canB a c L (⟨(2 ^ L.length - 1 : Nat), s.lo, s.wi⟩ : Rm) := by rw [hae, hce, hL9]; rfl
 rw [← hcsF] at T
 refine so9 hK _ _ ?_; clear hK K
 refine lq T (ra9 rfl (T.ev 0 rfl)) ?_; clear T ac; intro ac T
 refine wpList_nil ?_
 replace T := T.pick [0] rfl
 replace M := M.mask [false, false, false] rfl
 refine nt9 ?_
 refine wp_cond_split (T.ev 0 rfl) ?_ ?_
 ·intro h3
  refine wp_seq ?_
  refine wp_region_lit ?_
  refine lq T (ra9 rfl evc) ?_; clear T ac; intro ac T
  refine lq T (ra9 rfl evc) ?_; clear T ac; intro ac T
  refine wpList_nil ?_
  replace T := T.pick [0, 1] rfl
  refine nt9 ?_
  refine wp_ret ?_
  refine rt_blk ?_
  refine rt_then ?_
  refine rt_2 T rfl (T.ev 1 rfl) (T.ev 0 rfl) ?_
  have e9 : fitV s g = 3 := by unfold fitV; rw [if_neg (by omega)]; simp_all
  have e8 : lstE s g = 0 := by omega
  rw [e9, e8]
  exact ⟨rfl, M.below⟩
 intro h3
 refine wp_skip ?_
 refine nm_blk ?_
 refine nt9 ?_
 refine wp_seq ?_
 refine wp_region_lit ?_
 refine lq T (ra9 rfl evc) ?_; clear T ac; intro ac T
 refine lq T (ra9 rfl evc) ?_; clear T ac; intro ac T
 refine wpList_nil ?_
 replace T := T.pick [0, 1] rfl
 refine nt9 ?_
 refine wp_ret ?_
 refine rt_2 T rfl (T.ev 1 rfl) (T.ev 0 rfl) ?_
 have e9 : fitV s g = 2 := by unfold fitV; rw [if_neg (by omega)]; simp_all
 have e8 : lstE s g = 0 := by omega
 rw [e9, e8]
 exact ⟨rfl, M.below⟩
end Go.Proofs.YtehpcclfgjccbaaDoor
end

section
/-
 Sheets, in plain Lean: which blanks come from which sheet.
-/
namespace Go.Proofs.YtehpcclfgjccbaaDoor
set_option linter.unusedSimpArgs false
set_option linter.unusedVariables false
def clsP (ps : List Pt) (l : List Int) (n : Int) : List Pt := ((ps.zip l).filter fun q => decide (q.2 = n)).map (·.1)
def maskP : List Int → Int → Nat
 | [], _ => 0
 | x :: l, n => (if x = n then 1 else 0) + 2 * maskP l n
theorem maskP_snoc : ∀ (l : List Int) (x n : Int), maskP (l ++ [x]) n = maskP l n + if x = n then 2 ^ l.length else 0
 | [], x, n => by simp [maskP]
 | y :: l, x, n => by
  simp only [List.cons_append, maskP, maskP_snoc l x n, List.length_cons, Nat.pow_succ]
  split <;> split <;> omega
theorem clsP_snoc (ps : List Pt) (l : List Int) (p : Pt) (x n : Int) (h : ps.length = l.length) : clsP (ps ++ [p]) (l ++ [x]) n = clsP ps l n ++ if x = n then [p] else [] := by
 unfold clsP
 rw [List.zip_append h, List.filter_append, List.map_append]
 congr 1
 by_cases hx : x = n <;> simp [hx]
theorem clsP_sel : ∀ (ps : List Pt) (l : List Int) (n : Int), ps.length = l.length → clsP ps l n = sel ps (maskP l n)
 | [], l, n, h => by simp [clsP, sel]
 | p :: ps, [], n, h => by simp at h
 | p :: ps, x :: l, n, h => by
  have ih := clsP_sel ps l n (by simpa using h)
  by_cases hx : x = n
  ·have hm : maskP (x :: l) n = 1 + 2 * maskP l n := by simp [maskP, hx]
   rw [hm, sel, if_pos (by omega), show (1 + 2 * maskP l n) / 2 = maskP l n by omega, ← ih]
   simp [clsP, hx]
  ·have hm : maskP (x :: l) n = 2 * maskP l n := by simp [maskP, hx]
   rw [hm, sel, if_neg (by omega), show (2 * maskP l n) / 2 = maskP l n by omega, ← ih]
   simp [clsP, hx]
def asgP : Nat → List Int → Nat → List (List Int × Nat)
 | 0, b, sh => [(b, sh)]
 | k + 1, b, sh => (List.range (sh + 1)).flatMap fun n : Nat => asgP k (b ++ [(n : Int)]) (max sh (n + 1))
inductive RG : Nat → List Int → Nat → Prop
 | nil {sh : Nat} : RG sh [] sh
 | cons {sh x n : Nat} {t : List Int} : x ≤ sh → RG (max sh (x + 1)) t n → RG sh ((x : Int) :: t) n
theorem mem_asg : ∀ (k : Nat) (b : List Int) (sh : Nat) (l : List Int) (n : Nat), (l, n) ∈ asgP k b sh ↔ ∃ t, t.length = k ∧ l = b ++ t ∧ RG sh t n
 | 0, b, sh, l, n => by
  simp only [asgP, List.mem_singleton, Prod.mk.injEq]
  constructor
  ·rintro ⟨rfl, rfl⟩; exact ⟨[], rfl, by simp, .nil⟩
  ·rintro ⟨t, h1, h2, h3⟩
   rw [List.eq_nil_of_length_eq_zero h1] at h2 h3
   cases h3
   exact ⟨by simpa using h2, rfl⟩
 | k + 1, b, sh, l, n => by
  simp only [asgP, List.mem_flatMap, List.mem_range, mem_asg k]
  constructor
  ·rintro ⟨x, hx, t, h1, h2, h3⟩
   exact ⟨(x : Int) :: t, by simp [h1], by simp [h2], .cons (by omega) h3⟩
  ·rintro ⟨t, h1, h2, h3⟩
   cases h3 with
   | nil => simp at h1
   | @cons _ x _ t h4 h5 => exact ⟨x, by omega, t, by simpa using h1, by simp [h2], h5⟩
theorem RG.le {sh n : Nat} {t : List Int} (h : RG sh t n) : sh ≤ n ∧ n ≤ sh + t.length := by
 induction h with
 | nil => simp
 | cons h1 _ ih => simp only [List.length_cons]; omega
theorem RG.mem {sh n : Nat} {t : List Int} (h : RG sh t n) : ∀ x ∈ t, 0 ≤ x ∧ x < (n : Int) := by
 induction h with
 | nil => simp
 | cons h1 h2 ih =>
  intro y hy
  have := h2.le
  rcases List.mem_cons.1 hy with rfl | hy
  ·omega
  ·exact ih y hy
def numP (l : List Int) : Nat := l.foldl (fun n x => max n (x + 1).toNat) 0
theorem RG.num {sh n : Nat} {t : List Int} (h : RG sh t n) : t.foldl (fun n x => max n (x + 1).toNat) sh = n := by
 induction h with
 | nil => rfl
 | @cons sh x n t h1 h2 ih =>
  rw [List.foldl_cons, show ((x : Int) + 1).toNat = x + 1 by omega]
  exact ih
theorem RG.rel {β : Type} [DecidableEq β] : ∀ (seen col : List β), seen.Nodup → ∃ (t : List Int) (sn : List β), t.length = col.length ∧ sn.Nodup ∧ seen <+: sn ∧ (∀ x ∈ sn, x ∈ seen ∨ x ∈ col) ∧ RG seen.length t sn.length ∧ ∀ q ∈ col.zip t, (∃ m : Nat, q.2 = (m : Int) ∧ sn[m]? = some q.1)
 | seen, [], hn => ⟨[], seen, rfl, hn, List.prefix_refl _, fun _ h => .inl h, .nil, by simp⟩
 | seen, c :: col, hn => by
  by_cases hc : c ∈ seen
  ·obtain ⟨t, sn, h1, h2, h3, h4, h5, h6⟩ := RG.rel seen col hn
   have hi := List.idxOf_lt_length_of_mem hc
   refine ⟨((seen.idxOf c : Nat) : Int) :: t, sn, by simp [h1], h2, h3, fun x hx => (h4 x hx).imp id (List.mem_cons_of_mem _), .cons (by omega) (by rw [show max seen.length (seen.idxOf c + 1) = seen.length by omega]; exact h5), ?_⟩
   intro q hq
   rw [List.zip_cons_cons] at hq
   rcases List.mem_cons.1 hq with rfl | hq
   ·refine ⟨seen.idxOf c, rfl, ?_⟩
    obtain ⟨r, rfl⟩ := h3
    rw [List.getElem?_append_left hi, List.getElem?_eq_getElem hi, List.getElem_idxOf hi]
   ·exact h6 q hq
  ·have hn2 : (seen ++ [c]).Nodup := by
    rw [List.nodup_append]
    exact ⟨hn, by simp, fun a ha b hb e => by simp at hb; exact hc (hb ▸ e ▸ ha)⟩
   obtain ⟨t, sn, h1, h2, h3, h4, h5, h6⟩ := RG.rel (seen ++ [c]) col hn2
   refine ⟨((seen.length : Nat) : Int) :: t, sn, by simp [h1], h2, (List.prefix_append _ _).trans h3, fun x hx => ?_, .cons (Nat.le_refl _) (by rw [show max seen.length (seen.length + 1) = (seen ++ [c]).length by simp]; exact h5), ?_⟩
   ·rcases h4 x hx with h | h
    ·rcases List.mem_append.1 h with h | h
     ·exact .inl h
     ·simp at h; exact .inr (by simp [h])
    ·exact .inr (List.mem_cons_of_mem _ h)
   ·intro q hq
    rw [List.zip_cons_cons] at hq
    rcases List.mem_cons.1 hq with rfl | hq
    ·refine ⟨seen.length, rfl, ?_⟩
     obtain ⟨r, rfl⟩ := h3
     simp
    ·exact h6 q hq
def patP (ps : List Pt) (l : List Int) : Prop := ∀ q ∈ ps.zip l, ∀ r ∈ ps.zip l, 0 < q.1.pa → q.1.pa = r.1.pa → q.2 = r.2
def willQ (f : Pt → Int → Int → Prop) (ps : List Pt) (lo wi : Int) (l : List Int) (n : Nat) : Prop := patP ps l ∧ ∀ k : Nat, k < n → Cut f (clsP ps l (k : Int)) lo wi
def ColP (f : Pt → Int → Int → Prop) (lo wi : Int) (ps : List Pt) (n : Nat) : Prop := ∃ Q : List (Pt × Int), Q.map (·.1) = ps ∧ (∀ q ∈ Q, ∀ r ∈ Q, 0 < q.1.pa → q.1.pa = r.1.pa → q.2 = r.2) ∧ (∀ c : Int, Cut f ((Q.filter fun q => decide (q.2 = c)).map (·.1)) lo wi) ∧ ∃ S : List Int, S.length ≤ n ∧ ∀ q ∈ Q, q.2 ∈ S
theorem map_zip_fst {α β : Type} : ∀ (l : List α) (k : List β), l.length = k.length → (l.zip k).map (·.1) = l
 | [], _, _ => by simp
 | x :: l, [], h => by simp at h
 | x :: l, y :: k, h => by simp [map_zip_fst l k (by simpa using h)]
theorem ColP.of_will {f : Pt → Int → Int → Prop} {ps : List Pt} {lo wi : Int} {l : List Int} {n : Nat} (hl : ps.length = l.length) (hb : ∀ x ∈ l, 0 ≤ x ∧ x < (n : Int)) (h : willQ f ps lo wi l n) : ColP f lo wi ps n := by
 refine ⟨ps.zip l, map_zip_fst _ _ hl, h.1, fun c => ?_, (List.range n).map Int.ofNat, by simp, fun q hq => ?_⟩
 ·by_cases hc : 0 ≤ c ∧ c < (n : Int)
  ·have := h.2 c.toNat (by omega)
   rw [show ((c.toNat : Nat) : Int) = c by omega] at this
   exact this
  ·have e : (ps.zip l).filter (fun q => decide (q.2 = c)) = [] := by
    rw [List.filter_eq_nil_iff]
    intro q hq h2
    have h3 := hb q.2 (List.of_mem_zip hq).2
    simp at h2
    omega
   rw [e]
   exact .nil
 ·have h3 := hb q.2 (List.of_mem_zip hq).2
  exact List.mem_map.2 ⟨q.2.toNat, List.mem_range.2 (by omega), by show ((q.2.toNat : Nat) : Int) = q.2; omega⟩
theorem nodup_inj {α : Type} {l : List α} (h : l.Nodup) {i j : Nat} (hi : i < l.length) (hj : j < l.length) (he : l[i] = l[j]) : i = j := by
 have hp := List.pairwise_iff_getElem.1 h
 rcases Nat.lt_trichotomy i j with h1 | h1 | h1
 · exact absurd he (hp i j hi hj h1)
 · exact h1
 · exact absurd he.symm (hp j i hj hi h1)
theorem ColP.to_will {f : Pt → Int → Int → Prop} {ps : List Pt} {lo wi : Int} {n : Nat} (h : ColP f lo wi ps n) : ∃ (l : List Int) (m : Nat), m ≤ n ∧ (l, m) ∈ asgP ps.length [] 0 ∧ willQ f ps lo wi l m := by
 obtain ⟨Q, rfl, h1, h2, S, h3, h4⟩ := h
 obtain ⟨t, sn, k1, k2, -, k4, k5, k6⟩ := RG.rel ([] : List Int) (Q.map (·.2)) List.nodup_nil
 have hsub : sn.length ≤ S.length := by
   have hs : ∀ x ∈ sn, x ∈ S := fun x hx => by
     rcases k4 x hx with h | h
     · cases h
     · obtain ⟨q, hq, rfl⟩ := List.mem_map.1 h
       exact h4 q hq
   have key : ∀ (sn S : List Int), sn.Nodup → (∀ x ∈ sn, x ∈ S) → sn.length ≤ S.length := by
     intro sn
     induction sn with
     | nil => simp
     | cons x sn ih =>
       intro S hn hs
       have hx := hs x List.mem_cons_self
       have := ih (S.erase x) (List.nodup_cons.1 hn).2 fun y hy => (List.mem_erase_of_ne (by rintro rfl; exact (List.nodup_cons.1 hn).1 hy)).2 (hs y (List.mem_cons_of_mem _ hy))
       have hl := List.length_erase_of_mem hx
       have := List.length_pos_of_mem hx
       simp only [List.length_cons]
       omega
   exact key sn S k2 hs
 have hlen : t.length = Q.length := by rw [k1, List.length_map]
 -- a blank's number tells the colour
 have hz : ∀ i, i < Q.length → ∃ m : Nat, t[i]? = some (m : Int) ∧ sn[m]? = (Q[i]?).map (·.2) := fun i hi => by
   have hit : i < t.length := by omega
   have hm : ((Q.map (·.2))[i]'(by simpa using hi), t[i]) ∈ (Q.map (·.2)).zip t := by
     rw [List.mem_iff_getElem]
     exact ⟨i, by simp; omega, by simp⟩
   obtain ⟨m, m1, m2⟩ := k6 _ hm
   refine ⟨m, ?_, ?_⟩
   · rw [List.getElem?_eq_getElem hit]; exact congrArg some m1
   · rw [m2]; simp [List.getElem?_eq_getElem hi]
 have hinj : ∀ (a b : Nat) (c : Int), sn[a]? = some c → sn[b]? = some c → a = b := fun a b c ha hb => by
   obtain ⟨ha1, ha2⟩ := List.getElem?_eq_some_iff.1 ha
   obtain ⟨hb1, hb2⟩ := List.getElem?_eq_some_iff.1 hb
   exact nodup_inj k2 ha1 hb1 (ha2.trans hb2.symm)
 have hcl : ∀ (Q : List (Pt × Int)) (t : List Int), t.length = Q.length → (∀ i, i < Q.length → ∃ m : Nat, t[i]? = some (m : Int) ∧ sn[m]? = (Q[i]?).map (·.2)) → ∀ (k : Nat) (c : Int), sn[k]? = some c → clsP (Q.map (·.1)) t (k : Int) = (Q.filter fun q => decide (q.2 = c)).map (·.1) := by
   intro Q
   induction Q with
   | nil => intro t _ _ k c _; simp [clsP]
   | cons q Q ih =>
     intro t ht hz k c hk
     cases t with
     | nil => simp at ht
     | cons y t =>
       have ih2 := ih t (by simpa using ht) (fun i hi => by simpa using hz (i + 1) (by simpa using hi)) k c hk
       obtain ⟨m, m1, m2⟩ := hz 0 (by simp)
       simp only [List.getElem?_cons_zero, Option.map_some, Option.some.injEq] at m1 m2
       subst m1
       simp only [clsP, List.map_cons, List.zip_cons_cons, List.filter_cons] at ih2 ⊢
       by_cases hq : q.2 = c
       · have : m = k := hinj m k c (by rw [m2, hq]) hk
         subst this
         simp [hq, ih2]
       · have : m ≠ k := fun e => hq (by rw [e, hk] at m2; exact (Option.some.inj m2).symm)
         have h2 : ¬ ((m : Int) = (k : Int)) := by omega
         simp [hq, h2, ih2]
 refine ⟨t, sn.length, by omega, (mem_asg _ _ _ _ _).2 ⟨t, by simpa using hlen, by simp, k5⟩, ?_, fun k hk => ?_⟩
 · intro q hq r hr hp he
   obtain ⟨i, hi, rfl⟩ := List.mem_iff_getElem.1 hq
   obtain ⟨j, hj, rfl⟩ := List.mem_iff_getElem.1 hr
   simp only [List.length_zip, List.length_map] at hi hj
   have hiq : i < Q.length := by omega
   have hjq : j < Q.length := by omega
   obtain ⟨m, m1, m2⟩ := hz i hiq
   obtain ⟨m', m1', m2'⟩ := hz j hjq
   simp only [List.getElem_zip, List.getElem_map] at hp he ⊢
   have := h1 _ (List.getElem_mem hiq) _ (List.getElem_mem hjq) hp he
   rw [List.getElem?_eq_getElem (by omega), Option.some.injEq] at m1 m1'
   rw [m1, m1']
   rw [List.getElem?_eq_getElem hiq] at m2
   rw [List.getElem?_eq_getElem hjq, Option.map_some, ← this] at m2'
   rw [hinj m m' _ m2 m2']
 · rw [hcl Q t hlen hz k sn[k] (List.getElem?_eq_getElem hk)]
   exact h2 _
section
variable {f : Pt → Int → Int → Prop} {lo wi : Int}
theorem ColP.le {ps : List Pt} {n m : Nat} (h : ColP f lo wi ps n) (hm : n ≤ m) : ColP f lo wi ps m := by
 obtain ⟨Q, h1, h2, h3, S, h4, h5⟩ := h
 exact ⟨Q, h1, h2, h3, S, by omega, h5⟩
theorem perm_lift {α β : Type} {f : α → β} {xs ys : List β} (hp : xs.Perm ys) : ∀ Q : List α, Q.map f = xs → ∃ R : List α, R.Perm Q ∧ R.map f = ys := by
 induction hp with
 | nil => intro Q h; exact ⟨Q, .refl _, h⟩
 | cons x _ ih =>
  intro Q h
  cases Q with
  | nil => simp at h
  | cons q Q =>
   simp only [List.map_cons, List.cons.injEq] at h
   obtain ⟨R, h1, h2⟩ := ih Q h.2
   exact ⟨q :: R, h1.cons q, by simp [h.1, h2]⟩
 | swap x y l =>
  intro Q h
  match Q, h with
  | a :: b :: Q, h =>
   simp only [List.map_cons, List.cons.injEq] at h
   exact ⟨b :: a :: Q, .swap a b Q, by simp [h.1, h.2.1, h.2.2]⟩
 | trans _ _ ih1 ih2 =>
  intro Q h
  obtain ⟨R, h1, h2⟩ := ih1 Q h
  obtain ⟨T, h3, h4⟩ := ih2 R h2
  exact ⟨T, h3.trans h1, h4⟩
theorem ColP.perm {ps qs : List Pt} {n : Nat} (h : ColP f lo wi ps n) (hp : ps.Perm qs) : ColP f lo wi qs n := by
 obtain ⟨Q, h1, h2, h3, S, h4, h5⟩ := h
 obtain ⟨R, hr, hm⟩ := perm_lift hp Q h1
 exact ⟨R, hm, fun q hq r hr' => h2 q (hr.subset hq) r (hr.subset hr'), fun c => (h3 c).perm ((hr.filter _).map _), S, h4, fun q hq => h5 q (hr.subset hq)⟩
theorem ColP.map {g : Pt → Int → Int → Prop} {lo' wi' : Int} (m : Pt → Pt) {ps : List Pt} {n : Nat} (hpa : ∀ p ∈ ps, ∀ q ∈ ps, 0 < (m p).pa → (m p).pa = (m q).pa → 0 < p.pa ∧ p.pa = q.pa) (hc : ∀ xs : List Pt, (∀ x ∈ xs, x ∈ ps) → Cut f xs lo wi → Cut g (xs.map m) lo' wi') (h : ColP f lo wi ps n) : ColP g lo' wi' (ps.map m) n := by
 obtain ⟨Q, h1, h2, h3, S, h4, h5⟩ := h
 have hm : ∀ q ∈ Q, q.1 ∈ ps := fun q hq => h1 ▸ List.mem_map_of_mem hq
 refine ⟨Q.map fun q => (m q.1, q.2), ?_, ?_, fun c => ?_, S, h4, ?_⟩
 ·rw [← h1, List.map_map, List.map_map]; rfl
 ·intro q' hq' r' hr'
  obtain ⟨q, hq, rfl⟩ := List.mem_map.1 hq'
  obtain ⟨r, hr, rfl⟩ := List.mem_map.1 hr'
  intro hp he
  obtain ⟨k1, k2⟩ := hpa _ (hm q hq) _ (hm r hr) hp he
  exact h2 q hq r hr k1 k2
 ·have e : ((Q.map fun q => (m q.1, q.2)).filter fun q => decide (q.2 = c)).map (·.1) = ((Q.filter fun q => decide (q.2 = c)).map (·.1)).map m := by
   rw [List.filter_map, List.map_map, List.map_map]; rfl
  rw [e]
  refine hc _ (fun x hx => ?_) (h3 c)
  obtain ⟨q, hq, rfl⟩ := List.mem_map.1 hx
  exact hm q (List.mem_filter.1 hq).1
 ·intro q' hq'
  obtain ⟨q, hq, rfl⟩ := List.mem_map.1 hq'
  exact h5 q hq
theorem sum_perm {α : Type} {a : α → Int} {xs ys : List α} (h : xs.Perm ys) : (xs.map a).sum = (ys.map a).sum := by
 induction h with
 | nil => rfl
 | cons x _ ih => simp [ih]
 | swap x y l => simp; omega
 | trans _ _ h1 h2 => exact h1.trans h2
theorem sum_split {α : Type} (a : α → Int) (t : α → Bool) : ∀ xs : List α, (xs.map a).sum = ((xs.filter t).map a).sum + ((xs.filter fun x => !t x).map a).sum
 | [] => by simp
 | x :: xs => by
  have := sum_split a t xs
  by_cases h : t x = true
  ·simp [h] at this ⊢; omega
  ·simp [h] at this ⊢; omega
theorem Cut.area {a : Pt → Int} (hf : ∀ p lo wi, f p lo wi → a p ≤ lo * wi) {xs : List Pt} {lo wi : Int} (h : Cut f xs lo wi) : 0 ≤ lo → 0 ≤ wi → (xs.map a).sum ≤ lo * wi := by
 induction h with
 | nil => intro h1 h2; simpa using Int.mul_nonneg h1 h2
 | one h => intro _ _; simpa using hf _ _ _ h
 | along h1 h2 h3 _ _ _ _ ih1 ih2 =>
  intro k1 k2
  have i1 := ih1 (by omega) k2
  have i2 := ih2 (by omega) k2
  rw [sum_perm h3, List.map_append, List.sum_append]
  rw [Int.sub_mul] at i2
  omega
 | across h1 h2 h3 _ _ _ _ ih1 ih2 =>
  intro k1 k2
  have i1 := ih1 k1 (by omega)
  have i2 := ih2 k1 (by omega)
  rw [sum_perm h3, List.map_append, List.sum_append]
  rw [Int.mul_sub] at i2
  omega
theorem ColP.area {a : Pt → Int} (hf : ∀ p lo wi, f p lo wi → a p ≤ lo * wi) (hlo : 0 ≤ lo) (hwi : 0 ≤ wi) {ps : List Pt} {n : Nat} (h : ColP f lo wi ps n) : (ps.map a).sum ≤ (n : Int) * (lo * wi) := by
 obtain ⟨Q, rfl, -, h3, S, h4, h5⟩ := h
 have key : ∀ (S : List Int) (Q : List (Pt × Int)), (∀ c : Int, Cut f ((Q.filter fun q => decide (q.2 = c)).map (·.1)) lo wi) → (∀ q ∈ Q, q.2 ∈ S) → ((Q.map (·.1)).map a).sum ≤ (S.length : Int) * (lo * wi) := by
   intro S
   induction S with
   | nil =>
     intro Q _ h
     cases Q with
     | nil => simp
     | cons q Q => exact absurd (h q List.mem_cons_self) (by simp)
   | cons c S ih =>
     intro Q hc hS
     have e := sum_split (fun q : Pt × Int => a q.1) (fun q => decide (q.2 = c)) Q
     have h1 := (hc c).area hf hlo hwi
     have h2 := ih (Q.filter fun q => !decide (q.2 = c)) (fun d => ?_) (fun q hq => ?_)
     · rw [List.map_map] at h1 h2 ⊢
       simp only [Function.comp_def] at h1 h2 ⊢
       rw [e]
       simp only [List.length_cons]
       rw [show ((S.length + 1 : Nat) : Int) * (lo * wi) = (S.length : Int) * (lo * wi) + lo * wi by rw [Int.natCast_add, Int.add_mul]; simp]
       omega
     · by_cases hd : d = c
       · have : (Q.filter fun q => !decide (q.2 = c)).filter (fun q => decide (q.2 = d)) = [] := by
           rw [List.filter_eq_nil_iff]
           intro q hq h2
           have := (List.mem_filter.1 hq).2
           simp at this h2
           exact this (h2.trans hd)
         rw [this]; exact .nil
       · have : (Q.filter fun q => !decide (q.2 = c)).filter (fun q => decide (q.2 = d)) = Q.filter (fun q => decide (q.2 = d)) := by
           rw [List.filter_filter]
           apply List.filter_congr
           intro q _
           by_cases h2 : q.2 = d
           · simp [h2, hd]
           · simp [h2]
         rw [this]; exact hc d
     · have h2 := (List.mem_filter.1 hq)
       rcases List.mem_cons.1 (hS q h2.1) with h | h
       · simp [h] at h2
       · exact h
 have h6 := key S Q h3 h5
 have h7 : (S.length : Int) * (lo * wi) ≤ (n : Int) * (lo * wi) := Int.mul_le_mul_of_nonneg_right (by omega) (Int.mul_nonneg hlo hwi)
 omega
end
def fewS {α : Type} (p : α × Nat → Bool) (b : Option (α × Nat)) (x : α × Nat) : Option (α × Nat) := if (b.all fun y => decide (x.2 < y.2)) && p x then some x else b
def fewF {α : Type} (p : α × Nat → Bool) (l : List (α × Nat)) : Option (α × Nat) := l.foldl (fewS p) none
theorem fewF_snoc {α : Type} (p : α × Nat → Bool) (l : List (α × Nat)) (x : α × Nat) : fewF p (l ++ [x]) = fewS p (fewF p l) x := by simp [fewF, List.foldl_append]
theorem fewF_spec {α : Type} (p : α × Nat → Bool) (l : List (α × Nat)) : (fewF p l = none → ∀ x ∈ l, p x = false) ∧ ∀ y, fewF p l = some y → (l.find? fun x => decide (x.2 = y.2) && p x) = some y ∧ p y = true ∧ y ∈ l ∧ ∀ x ∈ l, p x = true → y.2 ≤ x.2 := by
 have key : ∀ (k : Nat), (fewF p (l.take k) = none → ∀ x ∈ l.take k, p x = false) ∧ ∀ y, fewF p (l.take k) = some y → ((l.take k).find? fun x => decide (x.2 = y.2) && p x) = some y ∧ p y = true ∧ y ∈ l.take k ∧ ∀ x ∈ l.take k, p x = true → y.2 ≤ x.2 := by
  intro k
  induction k with
  | zero => simp [fewF]
  | succ k ih =>
   by_cases hk : k < l.length
   ·rw [List.take_add_one, List.getElem?_eq_getElem hk, Option.toList_some, fewF_snoc]
    cases hb : fewF p (l.take k) with
    | none =>
     have ih1 := ih.1 hb
     unfold fewS
     simp only [Option.all_none, Bool.true_and]
     by_cases hp : p l[k] = true
     ·rw [if_pos hp]
      refine ⟨by simp, fun y hy => ?_⟩
      obtain rfl := Option.some.inj hy
      refine ⟨?_, hp, List.mem_append_right _ List.mem_cons_self, fun x hx h => ?_⟩
      ·rw [List.find?_append, List.find?_eq_none.2 (fun x hx => by simp [ih1 x hx])]
       simp [hp]
      ·rcases List.mem_append.1 hx with hx | hx
       ·rw [ih1 x hx] at h; cases h
       ·simp at hx; rw [hx]; exact Nat.le_refl _
     ·rw [if_neg hp]
      refine ⟨fun _ x hx => ?_, by simp⟩
      rcases List.mem_append.1 hx with hx | hx
      ·exact ih1 x hx
      ·simp at hx; rw [hx]; simpa using hp
    | some z =>
     obtain ⟨i1, i2, i3, i4⟩ := ih.2 z hb
     unfold fewS
     simp only [Option.all_some]
     by_cases hp : (decide (l[k].2 < z.2) && p l[k]) = true
     ·rw [if_pos hp]
      simp only [Bool.and_eq_true, decide_eq_true_eq] at hp
      refine ⟨by simp, fun y hy => ?_⟩
      obtain rfl := Option.some.inj hy
      refine ⟨?_, hp.2, List.mem_append_right _ List.mem_cons_self, fun x hx h => ?_⟩
      ·rw [List.find?_append, List.find?_eq_none.2 (fun x hx h => ?_)]
       ·simp [hp.2]
       ·simp only [Bool.and_eq_true, decide_eq_true_eq] at h
        have := i4 x hx h.2
        omega
      ·rcases List.mem_append.1 hx with hx | hx
       ·have := i4 x hx h
        omega
       ·simp at hx; rw [hx]; exact Nat.le_refl _
     ·rw [if_neg hp]
      refine ⟨by simp, fun y hy => ?_⟩
      obtain rfl := Option.some.inj hy
      refine ⟨?_, i2, List.mem_append_left _ i3, fun x hx h => ?_⟩
      ·rw [List.find?_append, i1]; rfl
      ·rcases List.mem_append.1 hx with hx | hx
       ·exact i4 x hx h
       ·simp at hx
        rw [hx] at h ⊢
        simp only [Bool.and_eq_true, decide_eq_true_eq, h, and_true] at hp
        omega
   ·have : l.take (k + 1) = l.take k := by rw [List.take_of_length_le (by omega), List.take_of_length_le (by omega)]
    rw [this]; exact ih
 have := key l.length
 rwa [List.take_length] at this
end Go.Proofs.YtehpcclfgjccbaaDoor
end

section
/-
 Sheets, in plain Lean: spots that can be cut.
-/
namespace Go.Proofs.YtehpcclfgjccbaaDoor
set_option linter.unusedSimpArgs false
set_option linter.unusedVariables false
structure Ar where
 l : Int
 n : Int
 r : Int
 f : Int
deriving DecidableEq, Inhabited
structure Ld where
 l : Int
 n : Int
 r : Int
 f : Int
 p : Int
deriving DecidableEq, Inhabited
def Ld.ar (x : Ld) : Ar := ⟨x.l, x.n, x.r, x.f⟩
def overP (a b : Ar) : Bool := decide (a.l < b.r) && decide (b.l < a.r) && decide (a.n < b.f) && decide (b.n < a.f)
def inP (a b : Ar) : Bool := decide (b.l ≤ a.l) && decide (a.r ≤ b.r) && decide (b.n ≤ a.n) && decide (a.f ≤ b.f)
def spA (l : List Ld) (one : Ar) : List Ld := l.filter fun x => inP x.ar one
def spB (l : List Ld) (one two : Ar) : List Ld := l.filter fun x => !inP x.ar one && inP x.ar two
def spOk (l : List Ld) (one two : Ar) : Bool := l.all fun x => inP x.ar one || inP x.ar two
def splA (l : List Ld) (one two : Ar) : List Ld := if spOk l one two = true then spA l one else []
def splB (l : List Ld) (one two : Ar) : List Ld := if spOk l one two = true then spB l one two else []
def splI (l : List Ld) (one two : Ar) : Bool := spOk l one two && decide (0 < (spA l one).length) && decide (0 < (spB l one two).length)
theorem sp_len (l : List Ld) (one two : Ar) (h : spOk l one two = true) : (spA l one).length + (spB l one two).length = l.length := by
 induction l with
 | nil => rfl
 | cons x l ih =>
  simp only [spOk, List.all_cons, Bool.and_eq_true] at h
  have := ih h.2
  simp only [spA, spB, List.filter_cons] at this ⊢
  cases h1 : inP x.ar one <;> cases h2 : inP x.ar two <;> simp_all <;> omega
theorem splI_len {l : List Ld} {one two : Ar} (h : splI l one two = true) : (splA l one two).length < l.length ∧ (splB l one two).length < l.length := by
 simp only [splI, Bool.and_eq_true, decide_eq_true_eq] at h
 have := sp_len l one two h.1.1
 simp only [splA, splB, if_pos h.1.1]
 omega
def Ar.al (a : Ar) (x : Int) : Ar := ⟨a.l, a.n, x, a.f⟩
def Ar.ar (a : Ar) (x : Int) : Ar := ⟨x, a.n, a.r, a.f⟩
def Ar.cl (a : Ar) (y : Int) : Ar := ⟨a.l, a.n, a.r, y⟩
def Ar.cr (a : Ar) (y : Int) : Ar := ⟨a.l, y, a.r, a.f⟩
inductive Saw : List Ld → Ar → Prop
 | few {l : List Ld} {a : Ar} : l.length < 2 → Saw l a
 | along {l : List Ld} {a : Ar} (x : Int) : a.l < x → x < a.r → splI l (a.al x) (a.ar x) = true → Saw (splA l (a.al x) (a.ar x)) (a.al x) → Saw (splB l (a.al x) (a.ar x)) (a.ar x) → Saw l a
 | across {l : List Ld} {a : Ar} (y : Int) : a.n < y → y < a.f → splI l (a.cl y) (a.cr y) = true → Saw (splA l (a.cl y) (a.cr y)) (a.cl y) → Saw (splB l (a.cl y) (a.cr y)) (a.cr y) → Saw l a
open Classical in
noncomputable def sawB (l : List Ld) (a : Ar) : Bool := decide (Saw l a)
theorem sawB_iff {l : List Ld} {a : Ar} : sawB l a = true ↔ Saw l a := by simp [sawB]
theorem saw_few {l : List Ld} {a : Ar} (h : l.length < 2) : sawB l a = true := sawB_iff.2 (.few h)
theorem saw_along {l : List Ld} {a : Ar} (x : Int) (h1 : a.l < x) (h2 : x < a.r) (h3 : splI l (a.al x) (a.ar x) = true) (h4 : sawB (splA l (a.al x) (a.ar x)) (a.al x) = true) (h5 : sawB (splB l (a.al x) (a.ar x)) (a.ar x) = true) : sawB l a = true := sawB_iff.2 (.along x h1 h2 h3 (sawB_iff.1 h4) (sawB_iff.1 h5))
theorem saw_across {l : List Ld} {a : Ar} (x : Int) (h1 : a.n < x) (h2 : x < a.f) (h3 : splI l (a.cl x) (a.cr x) = true) (h4 : sawB (splA l (a.cl x) (a.cr x)) (a.cl x) = true) (h5 : sawB (splB l (a.cl x) (a.cr x)) (a.cr x) = true) : sawB l a = true := sawB_iff.2 (.across x h1 h2 h3 (sawB_iff.1 h4) (sawB_iff.1 h5))
theorem saw_not {l : List Ld} {a : Ar} (h : 2 ≤ l.length) (h1 : ∀ x, a.l < x → x < a.r → ¬ (splI l (a.al x) (a.ar x) = true ∧ sawB (splA l (a.al x) (a.ar x)) (a.al x) = true ∧ sawB (splB l (a.al x) (a.ar x)) (a.ar x) = true)) (h2 : ∀ x, a.n < x → x < a.f → ¬ (splI l (a.cl x) (a.cr x) = true ∧ sawB (splA l (a.cl x) (a.cr x)) (a.cl x) = true ∧ sawB (splB l (a.cl x) (a.cr x)) (a.cr x) = true)) : sawB l a = false := by
 rw [Bool.eq_false_iff]
 intro hs
 cases sawB_iff.1 hs with
 | few h3 => omega
 | along x k1 k2 k3 k4 k5 => exact h1 x k1 k2 ⟨k3, sawB_iff.2 k4, sawB_iff.2 k5⟩
 | across x k1 k2 k3 k4 k5 => exact h2 x k1 k2 ⟨k3, sawB_iff.2 k4, sawB_iff.2 k5⟩
def ldOf (a c : Int) (p : Pt) (q : Spt) (i : Nat) : Ld := ⟨q.x, q.y, q.x + sizeL a c p q.t, q.y + sizeW a c p q.t, (i : Int)⟩
def badP (a c lo wi : Int) (p : Pt) (q : Spt) : Bool := (q.t && p.gr) || !(decide (0 ≤ q.x) && decide (q.x ≤ lo - sizeL a c p q.t)) || !(decide (0 ≤ q.y) && decide (q.y ≤ wi - sizeW a c p q.t))
def hitP (all : List Ld) (o : Ld) : Bool := all.any fun z => decide (z.ar = o.ar) || overP z.ar o.ar
def plP (a c lo wi : Int) : List Ld → List Pt → List Spt → Option (List Ld)
 | all, p :: L, q :: S => if badP a c lo wi p q = true then none else if hitP all (ldOf a c p q all.length) = true then none else plP a c lo wi (all ++ [ldOf a c p q all.length]) L S
 | all, _, _ => some all
noncomputable def cutsB (a c lo wi : Int) (L : List Pt) (S : List Spt) : Bool := match plP a c lo wi [] L S with
 | none => false
 | some all => sawB all ⟨0, 0, lo, wi⟩
end Go.Proofs.YtehpcclfgjccbaaDoor
end

section
/-
 Sheets, in plain Lean: the same, as it can be computed.
-/
namespace Go.Proofs.YtehpcclfgjccbaaDoor
set_option linter.unusedSimpArgs false
set_option linter.unusedVariables false
def canC (a c : Int) (L : List Pt) : Nat → Rm → Bool
 | 0, _ => false
 | n + 1, r => if popP r.s = 0 then true else if popP r.s = 1 then (fitsP a c (L.getD (onlyP r.s) default) r.lo r.wi).2 else (roomsP r).any fun q => canC a c L n q.a && canC a c L n q.b
theorem canC_eq {a c : Int} {L : List Pt} (h5 : L.length ≤ 5) : ∀ (n : Nat) (r : Rm), popP r.s < n → r.s < 2 ^ L.length → canC a c L n r = canB a c L r
 | 0, _, h, _ => by omega
 | n + 1, r, h, hs => by
  have h32 : r.s < 32 := by have := Nat.pow_le_pow_right (n := 2) (by omega) h5; omega
  unfold canC
  rw [Bool.eq_iff_iff, canB_iff]
  by_cases h0 : popP r.s = 0
  ·rw [if_pos h0]
   exact ⟨fun _ => can_none hs h5 h0, fun _ => rfl⟩
  ·rw [if_neg h0]
   by_cases h1 : popP r.s = 1
   ·rw [if_pos h1, can_one hs h5 h1, fitsP_iff]
   ·rw [if_neg h1, can_cut hs h5 (by omega), List.any_eq_true]
    constructor
    ·rintro ⟨q, hq, hb⟩
     obtain ⟨-, p1, p2⟩ := rooms_pop h32 hq
     obtain ⟨s1, s2⟩ := rooms_pow hs h5 hq
     rw [canC_eq h5 n q.a (by omega) s1, canC_eq h5 n q.b (by omega) s2, Bool.and_eq_true, canB_iff, canB_iff] at hb
     exact ⟨q, hq, hb⟩
    ·rintro ⟨q, hq, hb⟩
     obtain ⟨-, p1, p2⟩ := rooms_pop h32 hq
     obtain ⟨s1, s2⟩ := rooms_pow hs h5 hq
     refine ⟨q, hq, ?_⟩
     rw [canC_eq h5 n q.a (by omega) s1, canC_eq h5 n q.b (by omega) s2, Bool.and_eq_true, canB_iff, canB_iff]
     exact hb
def layC (a c : Int) (L : List Pt) : Nat → Rm → Int → Int → List (Nat × Spt)
 | 0, _, _, _ => []
 | n + 1, r, x, y => if popP r.s = 0 then [] else if popP r.s = 1 then [(onlyP r.s, ⟨x, y, (fitsP a c (L.getD (onlyP r.s) default) r.lo r.wi).1⟩)] else
  match (roomsP r).find? fun q => canC a c L 6 q.a && canC a c L 6 q.b with
  | none => []
  | some q => layC a c L n q.a x y ++ layC a c L n q.b (x + q.x) (y + q.y)
theorem layC_find {a c : Int} {L : List Pt} (h5 : L.length ≤ 5) {r : Rm} (hs : r.s < 2 ^ L.length) : ((roomsP r).find? fun q => canC a c L 6 q.a && canC a c L 6 q.b) = (roomsP r).find? fun q => canB a c L q.a && canB a c L q.b := by
 have key : ∀ (l : List Two2), (∀ q ∈ l, q ∈ roomsP r) → (l.find? fun q => canC a c L 6 q.a && canC a c L 6 q.b) = l.find? fun q => canB a c L q.a && canB a c L q.b := by
  intro l
  induction l with
  | nil => intro _; rfl
  | cons q l ih =>
   intro h
   obtain ⟨s1, s2⟩ := rooms_pow hs h5 (h q List.mem_cons_self)
   rw [List.find?_cons, List.find?_cons, canC_eq h5 6 q.a (pop_lt _) s1, canC_eq h5 6 q.b (pop_lt _) s2, ih fun z hz => h z (List.mem_cons_of_mem _ hz)]
 exact key _ fun _ h => h
theorem layC_eq {a c : Int} {L : List Pt} (h5 : L.length ≤ 5) {r : Rm} {x y : Int} {A : List (Nat × Spt)} (h : Lay a c L r x y A) : ∀ n : Nat, popP r.s < n → r.s < 2 ^ L.length → layC a c L n r x y = A := by
 induction h with
 | none h0 =>
  intro n hn _
  obtain ⟨m, rfl⟩ : ∃ m, n = m + 1 := ⟨n - 1, by omega⟩
  unfold layC
  rw [if_pos h0]
 | one h1 =>
  intro n hn _
  obtain ⟨m, rfl⟩ : ∃ m, n = m + 1 := ⟨n - 1, by omega⟩
  unfold layC
  rw [if_neg (by omega), if_pos h1]
 | @cut r x y q A B h2 hf _ _ ih1 ih2 =>
  intro n hn hs
  have h32 : r.s < 32 := by have := Nat.pow_le_pow_right (n := 2) (by omega) h5; omega
  obtain ⟨m, rfl⟩ : ∃ m, n = m + 1 := ⟨n - 1, by omega⟩
  have hq := List.mem_of_find?_eq_some hf
  obtain ⟨-, p1, p2⟩ := rooms_pop h32 hq
  obtain ⟨s1, s2⟩ := rooms_pow hs h5 hq
  unfold layC
  rw [if_neg (by omega), if_neg (by omega), layC_find h5 hs, hf]
  dsimp only
  rw [ih1 m (by omega) s1, ih2 m (by omega) s2]
theorem lay_ex {a c : Int} {L : List Pt} (h5 : L.length ≤ 5) : ∀ (n : Nat) (r : Rm) (x y : Int), popP r.s < n → r.s < 2 ^ L.length → canB a c L r = true → ∃ A, Lay a c L r x y A
 | 0, _, _, _, h, _, _ => by omega
 | n + 1, r, x, y, h, hs, hc => by
  have h32 : r.s < 32 := by have := Nat.pow_le_pow_right (n := 2) (by omega) h5; omega
  by_cases h0 : popP r.s = 0
  ·exact ⟨_, .none h0⟩
  ·by_cases h1 : popP r.s = 1
   ·exact ⟨_, .one h1⟩
   ·obtain ⟨q, hq, k1, k2⟩ := (can_cut hs h5 (by omega)).1 (canB_iff.1 hc)
    cases hf : (roomsP r).find? fun q => canB a c L q.a && canB a c L q.b with
    | none => exact absurd (List.find?_eq_none.1 hf q hq) (by simp [canB_iff.2 k1, canB_iff.2 k2])
    | some z =>
     have hz := List.mem_of_find?_eq_some hf
     have hb := List.find?_some hf
     simp only [Bool.and_eq_true] at hb
     obtain ⟨-, p1, p2⟩ := rooms_pop h32 hz
     obtain ⟨s1, s2⟩ := rooms_pow hs h5 hz
     obtain ⟨A, hA⟩ := lay_ex h5 n z.a x y (by omega) s1 hb.1
     obtain ⟨B, hB⟩ := lay_ex h5 n z.b (x + z.x) (y + z.y) (by omega) s2 hb.2
     exact ⟨_, .cut (by omega) hf hA hB⟩
def canSC (s : Sk) (su : Bool) (L : List Pt) : Bool := canC (cutA s su) (cutC s su) L 6 (whR s L)
theorem canSC_eq {s : Sk} {su : Bool} {L : List Pt} (h5 : L.length ≤ 5) : canSC s su L = canS s su L := canC_eq h5 6 _ (pop_lt _) (whole_pow _)
def planC (s : Sk) (g : List Int) (su : Bool) : List Spt × Int := if lstE s g ≠ 0 then ([], lstE s g) else if canSC s su (gP s g) = true then (putS (List.replicate (gP s g).length ⟨0, 0, false⟩) (layC (cutA s su) (cutC s su) (gP s g) 6 (whR s (gP s g)) 0 0), 0) else ([], 11)
theorem planC_eq (s : Sk) (g : List Int) (su : Bool) : planC s g su = (planL s g su, planE s g su) := by
 unfold planC planL planE
 by_cases h1 : lstE s g ≠ 0
 ·rw [if_pos h1, if_pos h1, if_neg h1]
 ·rw [if_neg h1, if_neg h1]
  obtain ⟨-, -, h5⟩ := lstP_good (s := s) (g := g) (by omega)
  rw [canSC_eq h5]
  by_cases h2 : canS s su (gP s g) = true
  ·rw [if_pos h2, if_pos h2, if_pos rfl]
   obtain ⟨A, hA⟩ := lay_ex h5 6 (whR s (gP s g)) 0 0 (pop_lt _) (whole_pow _) h2
   rw [planA_eq hA, layC_eq h5 hA 6 (pop_lt _) (whole_pow _)]
  ·rw [if_neg h2, if_neg h2, if_neg (by decide)]
def sawC : Nat → List Ld → Ar → Bool
 | 0, _, _ => false
 | n + 1, l, a => if l.length < 2 then true else
  ((List.range (a.r - a.l).toNat).any fun k => decide (0 < k) && splI l (a.al (a.l + k)) (a.ar (a.l + k)) && sawC n (splA l (a.al (a.l + k)) (a.ar (a.l + k))) (a.al (a.l + k)) && sawC n (splB l (a.al (a.l + k)) (a.ar (a.l + k))) (a.ar (a.l + k))) ||
  (List.range (a.f - a.n).toNat).any fun k => decide (0 < k) && splI l (a.cl (a.n + k)) (a.cr (a.n + k)) && sawC n (splA l (a.cl (a.n + k)) (a.cr (a.n + k))) (a.cl (a.n + k)) && sawC n (splB l (a.cl (a.n + k)) (a.cr (a.n + k))) (a.cr (a.n + k))
theorem sawC_eq : ∀ (n : Nat) (l : List Ld) (a : Ar), l.length < n → sawC n l a = sawB l a
 | 0, _, _, h => by omega
 | n + 1, l, a, h => by
  unfold sawC
  by_cases h2 : l.length < 2
  ·rw [if_pos h2, saw_few h2]
  ·rw [if_neg h2]
   rw [Bool.eq_iff_iff]
   constructor
   ·intro hb
    rcases Bool.or_eq_true _ _ |>.mp hb with hb | hb
    ·obtain ⟨k, hk, hb⟩ := List.any_eq_true.1 hb
     rw [List.mem_range] at hk
     simp only [Bool.and_eq_true, decide_eq_true_eq] at hb
     obtain ⟨⟨⟨k0, k1⟩, k2⟩, k3⟩ := hb
     have hl := splI_len k1
     rw [sawC_eq n _ _ (by omega)] at k2 k3
     exact saw_along (a.l + k) (by omega) (by omega) k1 k2 k3
    ·obtain ⟨k, hk, hb⟩ := List.any_eq_true.1 hb
     rw [List.mem_range] at hk
     simp only [Bool.and_eq_true, decide_eq_true_eq] at hb
     obtain ⟨⟨⟨k0, k1⟩, k2⟩, k3⟩ := hb
     have hl := splI_len k1
     rw [sawC_eq n _ _ (by omega)] at k2 k3
     exact saw_across (a.n + k) (by omega) (by omega) k1 k2 k3
   ·intro hb
    rw [Bool.or_eq_true, List.any_eq_true, List.any_eq_true]
    cases sawB_iff.1 hb with
    | few h3 => omega
    | along x k1 k2 k3 k4 k5 =>
     have hl := splI_len k3
     refine .inl ⟨(x - a.l).toNat, List.mem_range.2 (by omega), ?_⟩
     rw [show a.l + ((x - a.l).toNat : Int) = x by omega, sawC_eq n _ _ (by omega), sawC_eq n _ _ (by omega), k3, sawB_iff.2 k4, sawB_iff.2 k5]
     simp only [Bool.and_true, decide_eq_true_eq]
     omega
    | across x k1 k2 k3 k4 k5 =>
     have hl := splI_len k3
     refine .inr ⟨(x - a.n).toNat, List.mem_range.2 (by omega), ?_⟩
     rw [show a.n + ((x - a.n).toNat : Int) = x by omega, sawC_eq n _ _ (by omega), sawC_eq n _ _ (by omega), k3, sawB_iff.2 k4, sawB_iff.2 k5]
     simp only [Bool.and_true, decide_eq_true_eq]
     omega
def patB (ps : List Pt) (l : List Int) : Bool := (ps.zip l).all fun q => (ps.zip l).all fun r => !(decide (0 < q.1.pa) && decide (q.1.pa = r.1.pa) && decide (q.2 ≠ r.2))
theorem patB_iff {ps : List Pt} {l : List Int} : patB ps l = true ↔ patP ps l := by
 unfold patB patP
 simp only [List.all_eq_true, Bool.not_eq_true', Bool.and_eq_false_iff, decide_eq_false_iff_not]
 constructor
 ·intro h q hq r hr h1 h2
  rcases h q hq r hr with (h3 | h3) | h3
  ·exact absurd h1 h3
  ·exact absurd h2 h3
  ·exact Decidable.of_not_not h3
 ·intro h q hq r hr
  by_cases h1 : 0 < q.1.pa
  ·by_cases h2 : q.1.pa = r.1.pa
   ·exact .inr (fun h3 => h3 (h q hq r hr h1 h2))
   ·exact .inl (.inr h2)
  ·exact .inl (.inl h1)
noncomputable def willB (s : Sk) (su : Bool) (l : List Int) (n : Nat) : Bool := patB s.ps l && (List.range n).all fun k => canS s su (clsP s.ps l (k : Int))
theorem willB_iff {s : Sk} {su : Bool} {l : List Int} {n : Nat} : willB s su l n = true ↔ willQ (Fit (cutA s su) (cutC s su)) s.ps s.lo s.wi l n := by
 unfold willB willQ
 rw [Bool.and_eq_true, patB_iff, List.all_eq_true]
 simp only [List.mem_range, canS_iff]
noncomputable def shF (s : Sk) (su : Bool) : Option (List Int × Nat) := fewF (fun x => willB s su x.1 x.2) (asgP s.ps.length [] 0)
noncomputable def shE (s : Sk) (su : Bool) : Int := if skErr s ≠ 0 then skErr s else if (shF s su).isSome = true then 0 else 11
noncomputable def shL (s : Sk) (su : Bool) : List Int := if shE s su = 0 then ((shF s su).getD ([], 0)).1 else []
noncomputable def shN (s : Sk) (su : Bool) : Nat := if shE s su = 0 then ((shF s su).getD ([], 0)).2 else 0
def willC (s : Sk) (su : Bool) (l : List Int) (n : Nat) : Bool := patB s.ps l && (List.range n).all fun k => canSC s su (clsP s.ps l (k : Int))
theorem clsP_len (ps : List Pt) (l : List Int) (n : Int) : (clsP ps l n).length ≤ ps.length := by
 unfold clsP
 rw [List.length_map]
 refine Nat.le_trans (List.length_filter_le _ _) ?_
 rw [List.length_zip]
 omega
theorem willC_eq {s : Sk} {su : Bool} (h5 : s.ps.length ≤ 5) (l : List Int) (n : Nat) : willC s su l n = willB s su l n := by
 unfold willC willB
 congr 1
 congr 1
 funext k
 exact canSC_eq (Nat.le_trans (clsP_len _ _ _) h5)
def shFC (s : Sk) (su : Bool) : Option (List Int × Nat) := fewF (fun x => willC s su x.1 x.2) (asgP s.ps.length [] 0)
theorem shFC_eq {s : Sk} {su : Bool} (h5 : s.ps.length ≤ 5) : shFC s su = shF s su := by
 unfold shFC shF
 congr 1
 funext x
 exact willC_eq h5 _ _
theorem shF_col {s : Sk} {su : Bool} : (shF s su = none → ∀ n, ¬ ColP (Fit (cutA s su) (cutC s su)) s.lo s.wi s.ps n) ∧ ∀ l m, shF s su = some (l, m) → ColP (Fit (cutA s su) (cutC s su)) s.lo s.wi s.ps m ∧ ∀ n, ColP (Fit (cutA s su) (cutC s su)) s.lo s.wi s.ps n → m ≤ n := by
 obtain ⟨h1, h2⟩ := fewF_spec (fun x => willB s su x.1 x.2) (asgP s.ps.length [] 0)
 constructor
 ·intro h n hc
  obtain ⟨l, m, -, hm, hw⟩ := hc.to_will
  have := h1 h _ hm
  rw [willB_iff.2 hw] at this
  cases this
 ·intro l m h
  obtain ⟨-, k2, k3, k4⟩ := h2 _ h
  obtain ⟨t, t1, t2, t3⟩ := (mem_asg _ _ _ _ _).1 k3
  simp only [List.nil_append] at t2
  subst t2
  refine ⟨ColP.of_will t1.symm t3.mem (willB_iff.1 k2), fun n hc => ?_⟩
  obtain ⟨l', m', hm1, hm, hw⟩ := hc.to_will
  exact Nat.le_trans (k4 _ hm (willB_iff.2 hw)) hm1
theorem shF_some {s : Sk} {su : Bool} {n : Nat} (h : ColP (Fit (cutA s su) (cutC s su)) s.lo s.wi s.ps n) : ∃ l m, shF s su = some (l, m) ∧ m ≤ n := by
 cases hf : shF s su with
 | none => exact absurd h (shF_col.1 hf n)
 | some x => exact ⟨x.1, x.2, rfl, (shF_col.2 x.1 x.2 hf).2 n h⟩
end Go.Proofs.YtehpcclfgjccbaaDoor
end

section
/-
 sheet: spots that can be cut.
-/
namespace Go.Proofs.YtehpcclfgjccbaaDoor
set_option linter.unusedSimpArgs false
set_option linter.unusedVariables false
open Go.RowKit
theorem Tryd.info108 : (Tryd.prog.info? 108).map (fun i => (i.zero, i.size, i.bytes)) = some (some (.agg #[.int .i64 0, .int .i64 0, .int .i64 0, .int .i64 0, .int .i64 0]), 5, 40) := by kernel_rfl
theorem Mem.swapU {w0 w : World} {ex : Nat → Prop} (L I J : List (Nat × BA)) (M : Mem w0 ex w (L ++ (I ++ J))) : Mem w0 ex w (L ++ (J ++ I)) :=
 ⟨M.os, M.tape, M.output, M.size, M.block, fun p hp => M.blk p (by simp only [List.mem_append] at hp ⊢; rcases hp with h | h | h; exact .inl h; exact .inr (.inr h); exact .inr (.inl h)),
  ((List.Perm.append_left L (List.perm_append_comm (l₁ := J) (l₂ := I))).map (fun q : Nat × BA => q.1)).nodup_iff.2 M.nd⟩
def dcE (p : Ld) : List Value := [.int .i64 p.l, .int .i64 p.n, .int .i64 p.r, .int .i64 p.f, .int .i64 p.p]
def dc (l : List Ld) : List Value := l.flatMap dcE
theorem dc_length (l : List Ld) : (dc l).length = l.length * 5 := by
 induction l with
 | nil => rfl
 | cons x l ih =>
  show (dcE x ++ dc l).length = _
  rw [List.length_append, ih, List.length_cons]
  show 5 + _ = _
  omega
theorem dc_get : ∀ (l : List Ld) (k : Nat) {x : Ld}, l[k]? = some x → ∀ (i : Nat) (v : Value), (dcE x)[i]? = some v → (dc l)[k * 5 + i]? = some v
 | [], k, x, h => by simp at h
 | y :: l, 0, x, h => by
  intro i v hv
  simp only [List.getElem?_cons_zero, Option.some.injEq] at h
  subst h
  show (dcE y ++ dc l)[0 * 5 + i]? = some v
  rw [Nat.zero_mul, Nat.zero_add, List.getElem?_append_left (List.getElem?_eq_some_iff.1 hv).1]
  exact hv
 | y :: l, k + 1, x, h => by
  intro i v hv
  have := dc_get l k (by simpa using h) i v hv
  show (dcE y ++ dc l)[(k + 1) * 5 + i]? = some v
  have e : (dcE y).length = 5 := rfl
  rw [List.getElem?_append_right (by rw [e]; omega), e, show (k + 1) * 5 + i - 5 = k * 5 + i by omega]
  exact this
theorem dc_snoc (l : List Ld) (p : Ld) : dc l ++ [.int .i64 p.l, .int .i64 p.n, .int .i64 p.r, .int .i64 p.f, .int .i64 p.p] = dc (l ++ [p]) := by simp [dc, dcE]
theorem dc_next {l : List Ld} {k : Nat} (h : k < l.length) : ∃ x, l[k]? = some x ∧ l.drop k = x :: l.drop (k + 1) := ⟨l[k], List.getElem?_eq_getElem h, List.drop_eq_getElem_cons h⟩
section
variable {w w' : World} {ex : Nat → Prop} {I L : List (Nat × BA)} {n b o k : Nat} {A : Option Addr} {l : List Ld} {p : Ld}
theorem Sp.dcA (S : Sp w ex I A n 5 b o (dc l)) (M : Mem w ex w' L) (hI : I.Sublist L) (h : l[k]? = some p) (f : Nat) (v : Value) (hv : (dcE p)[f]? = some v) : w'.cell? ⟨b, o + k * 5 + f, none⟩ = some v := by
 have := S.cell w' L M hI _ _ (dc_get l k h f v hv)
 rwa [← Nat.add_assoc] at this
theorem Sp.dcR (S : Sp w ex I A n 5 b o (dc l)) (M : Mem w ex w' L) (hI : I.Sublist L) (h : l[k]? = some p) : w'.rangeAt b (o + k * 5) [.int .i64 p.l, .int .i64 p.n, .int .i64 p.r, .int .i64 p.f, .int .i64 p.p] := fun j v hv => S.dcA M hI h j v hv
end
def SplPost (l : List Ld) (one two : Ar) (w : World) (e : Ending) (w' : World) : Prop := ∃ A1 c1 I1 A2 c2 I2, e = .returned (.tuple #[.slice A1 (splA l one two).length c1, .slice A2 (splB l one two).length c2, .bool (splI l one two)]) ∧ (∃ b o, ∀ (w : World) (ex : Nat → Prop), Sp w ex I1 A1 (splA l one two).length 5 b o (dc (splA l one two))) ∧ (∃ b o, ∀ (w : World) (ex : Nat → Prop), Sp w ex I2 A2 (splB l one two).length 5 b o (dc (splB l one two))) ∧ Mem w noEx w' (I1 ++ I2)
theorem spOk_no {l : List Ld} {one two : Ar} {x : Ld} (hx : x ∈ l) (h1 : ¬ inP x.ar one = true) (h2 : ¬ inP x.ar two = true) : spOk l one two = false := by
 rw [spOk, List.all_eq_false]
 exact ⟨x, hx, by simp [h1, h2]⟩
theorem arover_any (a b : Ar) (w : World)  :
   Calls Tryd.prog 73 #[.agg #[.int .i64 a.l, .int .i64 a.n, .int .i64 a.r, .int .i64 a.f], .agg #[.int .i64 b.l, .int .i64 b.n, .int .i64 b.r, .int .i64 b.f]] w fun e w' => e = .returned (.bool (overP a b)) ∧ Below w.heap.size w w' := by
 refine px_enter noEx Tryd.func73 rfl 31 rfl [.agg #[.int .i64 a.l, .int .i64 a.n, .int .i64 a.r, .int .i64 a.f], .agg #[.int .i64 b.l, .int .i64 b.n, .int .i64 b.r, .int .i64 b.f]] rfl rfl (Mem.init w _) ?_
 intro ac wc T M
 refine wp_seq ?_
 refine wp_region_lit ?_
 refine l_w rfl ?_; intro K hK
 refine ow_bx M T rfl rfl rfl rfl (T.ev 0 rfl) rfl ?_; clear M T; intro g1 wc ac M T
 refine so9 hK _ _ ?_; clear hK K
 refine l_w rfl ?_; intro K hK
 refine ow_bx M T rfl rfl rfl rfl (T.ev 2 rfl) rfl ?_; clear M T; intro g2 wc ac M T
 refine so9 hK _ _ ?_; clear hK K
 refine lq T (ra9 rfl evc) ?_; clear T ac; intro ac T
 refine wpList_nil ?_
 replace T := T.pick [1, 2] rfl
 refine nt9 ?_
 refine cut_seq (fun ac wc => Tm ac 31 [(4, .bool ((decide (a.l < b.r)) && ((decide (b.l < a.r)) && ((decide (a.n < b.f)) && (decide (b.n < a.f))))))] ∧ Mem w noEx wc []) ?_ ?_
 ·refine wp_region_lit ?_
  refine lq (v := (.pointer (some ⟨g1, 0, none⟩))) T (rf9 (off := 0) rfl (T.ev 1 rfl) (fun _ _ _ => by kernel_rfl)) ?_; clear T ac; intro ac T
  refine lq T (rn_one (Mem.nth M 1 rfl) rfl (T.ev 0 rfl) rfl) ?_; clear T ac; intro ac T
  refine lq (v := (.pointer (some ⟨g2, 2, none⟩))) T (rf9 (off := 2) rfl (T.ev 2 rfl) (fun _ _ _ => by kernel_rfl)) ?_; clear T ac; intro ac T
  refine lq T (rn_one (Mem.nth M 0 rfl) rfl (T.ev 0 rfl) rfl) ?_; clear T ac; intro ac T
  refine lq T (rn_lss rfl (T.ev 2 rfl) (T.ev 0 rfl)) ?_; clear T ac; intro ac T
  refine lq T (rm9 rfl (T.ev 0 rfl)) ?_; clear T ac; intro ac T
  rcases Bool.eq_false_or_eq_true (decide (a.l < b.r)) with h1 | h1
  ·replace h1 := of_decide_eq_true h1
   refine lw (v := (.pointer (some ⟨g2, 0, none⟩))) T (wy9 rfl rfl (T.ev 0 rfl) (decide_eq_true h1)) (rf9 (off := 0) rfl (T.ev 6 rfl) (fun _ _ _ => by kernel_rfl)) ?_; clear T ac; intro ac T
   refine lw T (wy9 rfl rfl (T.ev 1 rfl) (decide_eq_true h1)) (rn_one (Mem.nth M 0 rfl) rfl (T.ev 0 rfl) rfl) ?_; clear T ac; intro ac T
   refine lw (v := (.pointer (some ⟨g1, 2, none⟩))) T (wy9 rfl rfl (T.ev 2 rfl) (decide_eq_true h1)) (rf9 (off := 2) rfl (T.ev 9 rfl) (fun _ _ _ => by kernel_rfl)) ?_; clear T ac; intro ac T
   refine lw T (wy9 rfl rfl (T.ev 3 rfl) (decide_eq_true h1)) (rn_one (Mem.nth M 1 rfl) rfl (T.ev 0 rfl) rfl) ?_; clear T ac; intro ac T
   refine lw T (wy9 rfl rfl (T.ev 4 rfl) (decide_eq_true h1)) (rn_lss rfl (T.ev 2 rfl) (T.ev 0 rfl)) ?_; clear T ac; intro ac T
   refine lq T (rn_pick1 rfl (T.ev 5 rfl) (decide_eq_true h1) (T.ev 0 rfl)) ?_; clear T ac; intro ac T
   refine lq T (rm9 rfl (T.ev 0 rfl)) ?_; clear T ac; intro ac T
   rcases Bool.eq_false_or_eq_true (decide (b.l < a.r)) with h2 | h2
   ·replace h2 := of_decide_eq_true h2
    refine lw (v := (.pointer (some ⟨g1, 1, none⟩))) T (wy9 rfl rfl (T.ev 0 rfl) (decide_eq_true h2)) (rf9 (off := 1) rfl (T.ev 14 rfl) (fun _ _ _ => by kernel_rfl)) ?_; clear T ac; intro ac T
    refine lw T (wy9 rfl rfl (T.ev 1 rfl) (decide_eq_true h2)) (rn_one (Mem.nth M 1 rfl) rfl (T.ev 0 rfl) rfl) ?_; clear T ac; intro ac T
    refine lw (v := (.pointer (some ⟨g2, 3, none⟩))) T (wy9 rfl rfl (T.ev 2 rfl) (decide_eq_true h2)) (rf9 (off := 3) rfl (T.ev 15 rfl) (fun _ _ _ => by kernel_rfl)) ?_; clear T ac; intro ac T
    refine lw T (wy9 rfl rfl (T.ev 3 rfl) (decide_eq_true h2)) (rn_one (Mem.nth M 0 rfl) rfl (T.ev 0 rfl) rfl) ?_; clear T ac; intro ac T
    refine lw T (wy9 rfl rfl (T.ev 4 rfl) (decide_eq_true h2)) (rn_lss rfl (T.ev 2 rfl) (T.ev 0 rfl)) ?_; clear T ac; intro ac T
    refine lq T (rn_pick1 rfl (T.ev 5 rfl) (decide_eq_true h2) (T.ev 0 rfl)) ?_; clear T ac; intro ac T
    refine lq T (rm9 rfl (T.ev 0 rfl)) ?_; clear T ac; intro ac T
    rcases Bool.eq_false_or_eq_true (decide (a.n < b.f)) with h3 | h3
    ·replace h3 := of_decide_eq_true h3
     refine lw (v := (.pointer (some ⟨g2, 1, none⟩))) T (wy9 rfl rfl (T.ev 0 rfl) (decide_eq_true h3)) (rf9 (off := 1) rfl (T.ev 20 rfl) (fun _ _ _ => by kernel_rfl)) ?_; clear T ac; intro ac T
     refine lw T (wy9 rfl rfl (T.ev 1 rfl) (decide_eq_true h3)) (rn_one (Mem.nth M 0 rfl) rfl (T.ev 0 rfl) rfl) ?_; clear T ac; intro ac T
     refine lw (v := (.pointer (some ⟨g1, 3, none⟩))) T (wy9 rfl rfl (T.ev 2 rfl) (decide_eq_true h3)) (rf9 (off := 3) rfl (T.ev 23 rfl) (fun _ _ _ => by kernel_rfl)) ?_; clear T ac; intro ac T
     refine lw T (wy9 rfl rfl (T.ev 3 rfl) (decide_eq_true h3)) (rn_one (Mem.nth M 1 rfl) rfl (T.ev 0 rfl) rfl) ?_; clear T ac; intro ac T
     refine lw T (wy9 rfl rfl (T.ev 4 rfl) (decide_eq_true h3)) (rn_lss rfl (T.ev 2 rfl) (T.ev 0 rfl)) ?_; clear T ac; intro ac T
     refine lq T (rn_pick1 rfl (T.ev 5 rfl) (decide_eq_true h3) (T.ev 0 rfl)) ?_; clear T ac; intro ac T
     refine lq T (ra9 rfl (T.ev 0 rfl)) ?_; clear T ac; intro ac T
     refine wpList_nil ?_
     replace T := T.pick [0] rfl
     replace M := M.mask [false, false] rfl
     exact ⟨(T.pick (E' := [(4, .bool (decide (b.n < a.f)))]) [0] rfl).as (by (try rw [show (decide (a.l < b.r)) = true from (decide_eq_true h1)]); (try rw [show (decide (b.l < a.r)) = true from (decide_eq_true h2)]); (try rw [show (decide (a.n < b.f)) = true from (decide_eq_true h3)]); (try rfl)), M.mask [] rfl⟩
    replace h3 := of_decide_eq_false h3
    refine lp T (wn9 rfl rfl (T.ev 0 rfl) (decide_eq_false h3)) ?_; clear T ac; intro ac T
    refine lp T (wn9 rfl rfl (T.ev 1 rfl) (decide_eq_false h3)) ?_; clear T ac; intro ac T
    refine lp T (wn9 rfl rfl (T.ev 2 rfl) (decide_eq_false h3)) ?_; clear T ac; intro ac T
    refine lp T (wn9 rfl rfl (T.ev 3 rfl) (decide_eq_false h3)) ?_; clear T ac; intro ac T
    refine lp T (wn9 rfl rfl (T.ev 4 rfl) (decide_eq_false h3)) ?_; clear T ac; intro ac T
    refine lq T (rn_pick0 rfl (T.ev 5 rfl) (decide_eq_false h3) evc) ?_; clear T ac; intro ac T
    refine lq T (ra9 rfl (T.ev 0 rfl)) ?_; clear T ac; intro ac T
    refine wpList_nil ?_
    replace T := T.pick [0] rfl
    replace M := M.mask [false, false] rfl
    exact ⟨(T.pick (E' := [(4, .bool false)]) [0] rfl).as (by (try rw [show (decide (a.l < b.r)) = true from (decide_eq_true h1)]); (try rw [show (decide (b.l < a.r)) = true from (decide_eq_true h2)]); (try rw [show (decide (a.n < b.f)) = false from (decide_eq_false h3)]); (try rfl)), M.mask [] rfl⟩
   replace h2 := of_decide_eq_false h2
   refine lp T (wn9 rfl rfl (T.ev 0 rfl) (decide_eq_false h2)) ?_; clear T ac; intro ac T
   refine lp T (wn9 rfl rfl (T.ev 1 rfl) (decide_eq_false h2)) ?_; clear T ac; intro ac T
   refine lp T (wn9 rfl rfl (T.ev 2 rfl) (decide_eq_false h2)) ?_; clear T ac; intro ac T
   refine lp T (wn9 rfl rfl (T.ev 3 rfl) (decide_eq_false h2)) ?_; clear T ac; intro ac T
   refine lp T (wn9 rfl rfl (T.ev 4 rfl) (decide_eq_false h2)) ?_; clear T ac; intro ac T
   refine lq T (rn_pick0 rfl (T.ev 5 rfl) (decide_eq_false h2) evc) ?_; clear T ac; intro ac T
   refine lq T (rm9 rfl (T.ev 0 rfl)) ?_; clear T ac; intro ac T
   refine lp T (wn9 rfl rfl (T.ev 0 rfl) rfl) ?_; clear T ac; intro ac T
   refine lp T (wn9 rfl rfl (T.ev 1 rfl) rfl) ?_; clear T ac; intro ac T
   refine lp T (wn9 rfl rfl (T.ev 2 rfl) rfl) ?_; clear T ac; intro ac T
   refine lp T (wn9 rfl rfl (T.ev 3 rfl) rfl) ?_; clear T ac; intro ac T
   refine lp T (wn9 rfl rfl (T.ev 4 rfl) rfl) ?_; clear T ac; intro ac T
   refine lq T (rn_pick0 rfl (T.ev 5 rfl) rfl evc) ?_; clear T ac; intro ac T
   refine lq T (ra9 rfl (T.ev 0 rfl)) ?_; clear T ac; intro ac T
   refine wpList_nil ?_
   replace T := T.pick [0] rfl
   replace M := M.mask [false, false] rfl
   exact ⟨(T.pick (E' := [(4, .bool false)]) [0] rfl).as (by (try rw [show (decide (a.l < b.r)) = true from (decide_eq_true h1)]); (try rw [show (decide (b.l < a.r)) = false from (decide_eq_false h2)]); (try rfl)), M.mask [] rfl⟩
  replace h1 := of_decide_eq_false h1
  refine lp T (wn9 rfl rfl (T.ev 0 rfl) (decide_eq_false h1)) ?_; clear T ac; intro ac T
  refine lp T (wn9 rfl rfl (T.ev 1 rfl) (decide_eq_false h1)) ?_; clear T ac; intro ac T
  refine lp T (wn9 rfl rfl (T.ev 2 rfl) (decide_eq_false h1)) ?_; clear T ac; intro ac T
  refine lp T (wn9 rfl rfl (T.ev 3 rfl) (decide_eq_false h1)) ?_; clear T ac; intro ac T
  refine lp T (wn9 rfl rfl (T.ev 4 rfl) (decide_eq_false h1)) ?_; clear T ac; intro ac T
  refine lq T (rn_pick0 rfl (T.ev 5 rfl) (decide_eq_false h1) evc) ?_; clear T ac; intro ac T
  refine lq T (rm9 rfl (T.ev 0 rfl)) ?_; clear T ac; intro ac T
  refine lp T (wn9 rfl rfl (T.ev 0 rfl) rfl) ?_; clear T ac; intro ac T
  refine lp T (wn9 rfl rfl (T.ev 1 rfl) rfl) ?_; clear T ac; intro ac T
  refine lp T (wn9 rfl rfl (T.ev 2 rfl) rfl) ?_; clear T ac; intro ac T
  refine lp T (wn9 rfl rfl (T.ev 3 rfl) rfl) ?_; clear T ac; intro ac T
  refine lp T (wn9 rfl rfl (T.ev 4 rfl) rfl) ?_; clear T ac; intro ac T
  refine lq T (rn_pick0 rfl (T.ev 5 rfl) rfl evc) ?_; clear T ac; intro ac T
  refine lq T (rm9 rfl (T.ev 0 rfl)) ?_; clear T ac; intro ac T
  refine lp T (wn9 rfl rfl (T.ev 0 rfl) rfl) ?_; clear T ac; intro ac T
  refine lp T (wn9 rfl rfl (T.ev 1 rfl) rfl) ?_; clear T ac; intro ac T
  refine lp T (wn9 rfl rfl (T.ev 2 rfl) rfl) ?_; clear T ac; intro ac T
  refine lp T (wn9 rfl rfl (T.ev 3 rfl) rfl) ?_; clear T ac; intro ac T
  refine lp T (wn9 rfl rfl (T.ev 4 rfl) rfl) ?_; clear T ac; intro ac T
  refine lq T (rn_pick0 rfl (T.ev 5 rfl) rfl evc) ?_; clear T ac; intro ac T
  refine lq T (ra9 rfl (T.ev 0 rfl)) ?_; clear T ac; intro ac T
  refine wpList_nil ?_
  replace T := T.pick [0] rfl
  replace M := M.mask [false, false] rfl
  exact ⟨(T.pick (E' := [(4, .bool false)]) [0] rfl).as (by (try rw [show (decide (a.l < b.r)) = false from (decide_eq_false h1)]); (try rfl)), M.mask [] rfl⟩
 clear T M
 rintro ac wc ⟨T, M⟩
 refine wp_ret ?_
 refine rt_1 T rfl (T.ev 0 rfl) ?_
 exact ⟨ret_bool (by try simp only [overP, inP, Bool.and_assoc]), M.below⟩
theorem arwithin_any (a b : Ar) (w : World)  :
   Calls Tryd.prog 115 #[.agg #[.int .i64 a.l, .int .i64 a.n, .int .i64 a.r, .int .i64 a.f], .agg #[.int .i64 b.l, .int .i64 b.n, .int .i64 b.r, .int .i64 b.f]] w fun e w' => e = .returned (.bool (inP a b)) ∧ Below w.heap.size w w' := by
 refine px_enter noEx Tryd.func115 rfl 31 rfl [.agg #[.int .i64 a.l, .int .i64 a.n, .int .i64 a.r, .int .i64 a.f], .agg #[.int .i64 b.l, .int .i64 b.n, .int .i64 b.r, .int .i64 b.f]] rfl rfl (Mem.init w _) ?_
 intro ac wc T M
 refine wp_seq ?_
 refine wp_region_lit ?_
 refine l_w rfl ?_; intro K hK
 refine ow_bx M T rfl rfl rfl rfl (T.ev 0 rfl) rfl ?_; clear M T; intro g1 wc ac M T
 refine so9 hK _ _ ?_; clear hK K
 refine l_w rfl ?_; intro K hK
 refine ow_bx M T rfl rfl rfl rfl (T.ev 2 rfl) rfl ?_; clear M T; intro g2 wc ac M T
 refine so9 hK _ _ ?_; clear hK K
 refine lq T (ra9 rfl evc) ?_; clear T ac; intro ac T
 refine wpList_nil ?_
 replace T := T.pick [1, 2] rfl
 refine nt9 ?_
 refine cut_seq (fun ac wc => Tm ac 31 [(4, .bool ((decide (b.l ≤ a.l)) && ((decide (a.r ≤ b.r)) && ((decide (b.n ≤ a.n)) && (decide (a.f ≤ b.f))))))] ∧ Mem w noEx wc []) ?_ ?_
 ·refine wp_region_lit ?_
  refine lq (v := (.pointer (some ⟨g2, 0, none⟩))) T (rf9 (off := 0) rfl (T.ev 0 rfl) (fun _ _ _ => by kernel_rfl)) ?_; clear T ac; intro ac T
  refine lq T (rn_one (Mem.nth M 0 rfl) rfl (T.ev 0 rfl) rfl) ?_; clear T ac; intro ac T
  refine lq (v := (.pointer (some ⟨g1, 0, none⟩))) T (rf9 (off := 0) rfl (T.ev 3 rfl) (fun _ _ _ => by kernel_rfl)) ?_; clear T ac; intro ac T
  refine lq T (rn_one (Mem.nth M 1 rfl) rfl (T.ev 0 rfl) rfl) ?_; clear T ac; intro ac T
  refine lq T (rn_leq rfl (T.ev 2 rfl) (T.ev 0 rfl)) ?_; clear T ac; intro ac T
  refine lq T (rm9 rfl (T.ev 0 rfl)) ?_; clear T ac; intro ac T
  rcases Bool.eq_false_or_eq_true (decide (b.l ≤ a.l)) with h1 | h1
  ·replace h1 := of_decide_eq_true h1
   refine lw (v := (.pointer (some ⟨g1, 2, none⟩))) T (wy9 rfl rfl (T.ev 0 rfl) (decide_eq_true h1)) (rf9 (off := 2) rfl (T.ev 7 rfl) (fun _ _ _ => by kernel_rfl)) ?_; clear T ac; intro ac T
   refine lw T (wy9 rfl rfl (T.ev 1 rfl) (decide_eq_true h1)) (rn_one (Mem.nth M 1 rfl) rfl (T.ev 0 rfl) rfl) ?_; clear T ac; intro ac T
   refine lw (v := (.pointer (some ⟨g2, 2, none⟩))) T (wy9 rfl rfl (T.ev 2 rfl) (decide_eq_true h1)) (rf9 (off := 2) rfl (T.ev 8 rfl) (fun _ _ _ => by kernel_rfl)) ?_; clear T ac; intro ac T
   refine lw T (wy9 rfl rfl (T.ev 3 rfl) (decide_eq_true h1)) (rn_one (Mem.nth M 0 rfl) rfl (T.ev 0 rfl) rfl) ?_; clear T ac; intro ac T
   refine lw T (wy9 rfl rfl (T.ev 4 rfl) (decide_eq_true h1)) (rn_leq rfl (T.ev 2 rfl) (T.ev 0 rfl)) ?_; clear T ac; intro ac T
   refine lq T (rn_pick1 rfl (T.ev 5 rfl) (decide_eq_true h1) (T.ev 0 rfl)) ?_; clear T ac; intro ac T
   refine lq T (rm9 rfl (T.ev 0 rfl)) ?_; clear T ac; intro ac T
   rcases Bool.eq_false_or_eq_true (decide (a.r ≤ b.r)) with h2 | h2
   ·replace h2 := of_decide_eq_true h2
    refine lw (v := (.pointer (some ⟨g2, 1, none⟩))) T (wy9 rfl rfl (T.ev 0 rfl) (decide_eq_true h2)) (rf9 (off := 1) rfl (T.ev 13 rfl) (fun _ _ _ => by kernel_rfl)) ?_; clear T ac; intro ac T
    refine lw T (wy9 rfl rfl (T.ev 1 rfl) (decide_eq_true h2)) (rn_one (Mem.nth M 0 rfl) rfl (T.ev 0 rfl) rfl) ?_; clear T ac; intro ac T
    refine lw (v := (.pointer (some ⟨g1, 1, none⟩))) T (wy9 rfl rfl (T.ev 2 rfl) (decide_eq_true h2)) (rf9 (off := 1) rfl (T.ev 16 rfl) (fun _ _ _ => by kernel_rfl)) ?_; clear T ac; intro ac T
    refine lw T (wy9 rfl rfl (T.ev 3 rfl) (decide_eq_true h2)) (rn_one (Mem.nth M 1 rfl) rfl (T.ev 0 rfl) rfl) ?_; clear T ac; intro ac T
    refine lw T (wy9 rfl rfl (T.ev 4 rfl) (decide_eq_true h2)) (rn_leq rfl (T.ev 2 rfl) (T.ev 0 rfl)) ?_; clear T ac; intro ac T
    refine lq T (rn_pick1 rfl (T.ev 5 rfl) (decide_eq_true h2) (T.ev 0 rfl)) ?_; clear T ac; intro ac T
    refine lq T (rm9 rfl (T.ev 0 rfl)) ?_; clear T ac; intro ac T
    rcases Bool.eq_false_or_eq_true (decide (b.n ≤ a.n)) with h3 | h3
    ·replace h3 := of_decide_eq_true h3
     refine lw (v := (.pointer (some ⟨g1, 3, none⟩))) T (wy9 rfl rfl (T.ev 0 rfl) (decide_eq_true h3)) (rf9 (off := 3) rfl (T.ev 21 rfl) (fun _ _ _ => by kernel_rfl)) ?_; clear T ac; intro ac T
     refine lw T (wy9 rfl rfl (T.ev 1 rfl) (decide_eq_true h3)) (rn_one (Mem.nth M 1 rfl) rfl (T.ev 0 rfl) rfl) ?_; clear T ac; intro ac T
     refine lw (v := (.pointer (some ⟨g2, 3, none⟩))) T (wy9 rfl rfl (T.ev 2 rfl) (decide_eq_true h3)) (rf9 (off := 3) rfl (T.ev 22 rfl) (fun _ _ _ => by kernel_rfl)) ?_; clear T ac; intro ac T
     refine lw T (wy9 rfl rfl (T.ev 3 rfl) (decide_eq_true h3)) (rn_one (Mem.nth M 0 rfl) rfl (T.ev 0 rfl) rfl) ?_; clear T ac; intro ac T
     refine lw T (wy9 rfl rfl (T.ev 4 rfl) (decide_eq_true h3)) (rn_leq rfl (T.ev 2 rfl) (T.ev 0 rfl)) ?_; clear T ac; intro ac T
     refine lq T (rn_pick1 rfl (T.ev 5 rfl) (decide_eq_true h3) (T.ev 0 rfl)) ?_; clear T ac; intro ac T
     refine lq T (ra9 rfl (T.ev 0 rfl)) ?_; clear T ac; intro ac T
     refine wpList_nil ?_
     replace T := T.pick [0] rfl
     replace M := M.mask [false, false] rfl
     exact ⟨(T.pick (E' := [(4, .bool (decide (a.f ≤ b.f)))]) [0] rfl).as (by (try rw [show (decide (b.l ≤ a.l)) = true from (decide_eq_true h1)]); (try rw [show (decide (a.r ≤ b.r)) = true from (decide_eq_true h2)]); (try rw [show (decide (b.n ≤ a.n)) = true from (decide_eq_true h3)]); (try rfl)), M.mask [] rfl⟩
    replace h3 := of_decide_eq_false h3
    refine lp T (wn9 rfl rfl (T.ev 0 rfl) (decide_eq_false h3)) ?_; clear T ac; intro ac T
    refine lp T (wn9 rfl rfl (T.ev 1 rfl) (decide_eq_false h3)) ?_; clear T ac; intro ac T
    refine lp T (wn9 rfl rfl (T.ev 2 rfl) (decide_eq_false h3)) ?_; clear T ac; intro ac T
    refine lp T (wn9 rfl rfl (T.ev 3 rfl) (decide_eq_false h3)) ?_; clear T ac; intro ac T
    refine lp T (wn9 rfl rfl (T.ev 4 rfl) (decide_eq_false h3)) ?_; clear T ac; intro ac T
    refine lq T (rn_pick0 rfl (T.ev 5 rfl) (decide_eq_false h3) evc) ?_; clear T ac; intro ac T
    refine lq T (ra9 rfl (T.ev 0 rfl)) ?_; clear T ac; intro ac T
    refine wpList_nil ?_
    replace T := T.pick [0] rfl
    replace M := M.mask [false, false] rfl
    exact ⟨(T.pick (E' := [(4, .bool false)]) [0] rfl).as (by (try rw [show (decide (b.l ≤ a.l)) = true from (decide_eq_true h1)]); (try rw [show (decide (a.r ≤ b.r)) = true from (decide_eq_true h2)]); (try rw [show (decide (b.n ≤ a.n)) = false from (decide_eq_false h3)]); (try rfl)), M.mask [] rfl⟩
   replace h2 := of_decide_eq_false h2
   refine lp T (wn9 rfl rfl (T.ev 0 rfl) (decide_eq_false h2)) ?_; clear T ac; intro ac T
   refine lp T (wn9 rfl rfl (T.ev 1 rfl) (decide_eq_false h2)) ?_; clear T ac; intro ac T
   refine lp T (wn9 rfl rfl (T.ev 2 rfl) (decide_eq_false h2)) ?_; clear T ac; intro ac T
   refine lp T (wn9 rfl rfl (T.ev 3 rfl) (decide_eq_false h2)) ?_; clear T ac; intro ac T
   refine lp T (wn9 rfl rfl (T.ev 4 rfl) (decide_eq_false h2)) ?_; clear T ac; intro ac T
   refine lq T (rn_pick0 rfl (T.ev 5 rfl) (decide_eq_false h2) evc) ?_; clear T ac; intro ac T
   refine lq T (rm9 rfl (T.ev 0 rfl)) ?_; clear T ac; intro ac T
   refine lp T (wn9 rfl rfl (T.ev 0 rfl) rfl) ?_; clear T ac; intro ac T
   refine lp T (wn9 rfl rfl (T.ev 1 rfl) rfl) ?_; clear T ac; intro ac T
   refine lp T (wn9 rfl rfl (T.ev 2 rfl) rfl) ?_; clear T ac; intro ac T
   refine lp T (wn9 rfl rfl (T.ev 3 rfl) rfl) ?_; clear T ac; intro ac T
   refine lp T (wn9 rfl rfl (T.ev 4 rfl) rfl) ?_; clear T ac; intro ac T
   refine lq T (rn_pick0 rfl (T.ev 5 rfl) rfl evc) ?_; clear T ac; intro ac T
   refine lq T (ra9 rfl (T.ev 0 rfl)) ?_; clear T ac; intro ac T
   refine wpList_nil ?_
   replace T := T.pick [0] rfl
   replace M := M.mask [false, false] rfl
   exact ⟨(T.pick (E' := [(4, .bool false)]) [0] rfl).as (by (try rw [show (decide (b.l ≤ a.l)) = true from (decide_eq_true h1)]); (try rw [show (decide (a.r ≤ b.r)) = false from (decide_eq_false h2)]); (try rfl)), M.mask [] rfl⟩
  replace h1 := of_decide_eq_false h1
  refine lp T (wn9 rfl rfl (T.ev 0 rfl) (decide_eq_false h1)) ?_; clear T ac; intro ac T
  refine lp T (wn9 rfl rfl (T.ev 1 rfl) (decide_eq_false h1)) ?_; clear T ac; intro ac T
  refine lp T (wn9 rfl rfl (T.ev 2 rfl) (decide_eq_false h1)) ?_; clear T ac; intro ac T
  refine lp T (wn9 rfl rfl (T.ev 3 rfl) (decide_eq_false h1)) ?_; clear T ac; intro ac T
  refine lp T (wn9 rfl rfl (T.ev 4 rfl) (decide_eq_false h1)) ?_; clear T ac; intro ac T
  refine lq T (rn_pick0 rfl (T.ev 5 rfl) (decide_eq_false h1) evc) ?_; clear T ac; intro ac T
  refine lq T (rm9 rfl (T.ev 0 rfl)) ?_; clear T ac; intro ac T
  refine lp T (wn9 rfl rfl (T.ev 0 rfl) rfl) ?_; clear T ac; intro ac T
  refine lp T (wn9 rfl rfl (T.ev 1 rfl) rfl) ?_; clear T ac; intro ac T
  refine lp T (wn9 rfl rfl (T.ev 2 rfl) rfl) ?_; clear T ac; intro ac T
  refine lp T (wn9 rfl rfl (T.ev 3 rfl) rfl) ?_; clear T ac; intro ac T
  refine lp T (wn9 rfl rfl (T.ev 4 rfl) rfl) ?_; clear T ac; intro ac T
  refine lq T (rn_pick0 rfl (T.ev 5 rfl) rfl evc) ?_; clear T ac; intro ac T
  refine lq T (rm9 rfl (T.ev 0 rfl)) ?_; clear T ac; intro ac T
  refine lp T (wn9 rfl rfl (T.ev 0 rfl) rfl) ?_; clear T ac; intro ac T
  refine lp T (wn9 rfl rfl (T.ev 1 rfl) rfl) ?_; clear T ac; intro ac T
  refine lp T (wn9 rfl rfl (T.ev 2 rfl) rfl) ?_; clear T ac; intro ac T
  refine lp T (wn9 rfl rfl (T.ev 3 rfl) rfl) ?_; clear T ac; intro ac T
  refine lp T (wn9 rfl rfl (T.ev 4 rfl) rfl) ?_; clear T ac; intro ac T
  refine lq T (rn_pick0 rfl (T.ev 5 rfl) rfl evc) ?_; clear T ac; intro ac T
  refine lq T (ra9 rfl (T.ev 0 rfl)) ?_; clear T ac; intro ac T
  refine wpList_nil ?_
  replace T := T.pick [0] rfl
  replace M := M.mask [false, false] rfl
  exact ⟨(T.pick (E' := [(4, .bool false)]) [0] rfl).as (by (try rw [show (decide (b.l ≤ a.l)) = false from (decide_eq_false h1)]); (try rfl)), M.mask [] rfl⟩
 clear T M
 rintro ac wc ⟨T, M⟩
 refine wp_ret ?_
 refine rt_1 T rfl (T.ev 0 rfl) ?_
 exact ⟨ret_bool (by try simp only [overP, inP, Bool.and_assoc]), M.below⟩
theorem spA_snoc {l : List Ld} {k : Nat} {x : Ld} {one : Ar} (h : l[k]? = some x) : spA (l.take (k + 1)) one = spA (l.take k) one ++ if inP x.ar one = true then [x] else [] := by
 rw [List.take_add_one, h, spA, List.filter_append]
 congr 1
 by_cases h1 : inP x.ar one = true <;> simp [h1]
theorem spB_snoc {l : List Ld} {k : Nat} {x : Ld} {one two : Ar} (h : l[k]? = some x) : spB (l.take (k + 1)) one two = spB (l.take k) one two ++ if (!inP x.ar one && inP x.ar two) = true then [x] else [] := by
 rw [List.take_add_one, h, spB, List.filter_append]
 congr 1
 by_cases h1 : (!inP x.ar one && inP x.ar two) = true <;> simp [h1]
theorem spOk_snoc {l : List Ld} {k : Nat} {x : Ld} {one two : Ar} (h : l[k]? = some x) : spOk (l.take (k + 1)) one two = (spOk (l.take k) one two && (inP x.ar one || inP x.ar two)) := by
 rw [List.take_add_one, h, spOk, List.all_append]
 simp [spOk]
set_option maxHeartbeats 2000000 in
theorem split_any (L : Option Addr) (n : Nat) (l : List Ld) (one two : Ar) (w : World) (hL : Rd w w.heap.size 5 L l.length (dc l)) (nL : l.length ≤ 1000000)  :
   Calls Tryd.prog 103 #[.slice L l.length n, .agg #[.int .i64 one.l, .int .i64 one.n, .int .i64 one.r, .int .i64 one.f], .agg #[.int .i64 two.l, .int .i64 two.n, .int .i64 two.r, .int .i64 two.f]] w (SplPost l one two w) := by
 obtain ⟨bL, oL, SL⟩ := Sp.old hL
 refine px_enter noEx Tryd.func103 rfl 46 rfl [.slice L l.length n, .agg #[.int .i64 one.l, .int .i64 one.n, .int .i64 one.r, .int .i64 one.f], .agg #[.int .i64 two.l, .int .i64 two.n, .int .i64 two.r, .int .i64 two.f]] rfl rfl (Mem.init w _) ?_
 intro ac wc T M
 refine wp_seq ?_
 refine wp_region_lit ?_
 refine l_w rfl ?_; intro K hK
 refine ow_bx M T rfl rfl rfl rfl (T.ev 1 rfl) rfl ?_; clear M T; intro g1 wc ac M T
 refine so9 hK _ _ ?_; clear hK K
 refine l_w rfl ?_; intro K hK
 refine ow_bx M T rfl rfl rfl rfl (T.ev 3 rfl) rfl ?_; clear M T; intro g2 wc ac M T
 refine so9 hK _ _ ?_; clear hK K
 refine lq T (ra9 rfl evc) ?_; clear T ac; intro ac T
 refine lq T (ra9 rfl evc) ?_; clear T ac; intro ac T
 refine lq T (ra9 rfl evc) ?_; clear T ac; intro ac T
 refine wpList_nil ?_
 replace T := T.pick [1, 2, 3, 4, 5] rfl
 refine nt9 ?_
 refine wp_seq ?_
 refine wp_seq ?_
 refine wp_region_lit ?_
 refine lq T (rm9 rfl (T.ev 4 rfl)) ?_; clear T ac; intro ac T
 refine lq T (rn_lenS rfl Tryd.underlying103 (T.ev 0 rfl)) ?_; clear T ac; intro ac T
 refine lq T (rm9 rfl evc) ?_; clear T ac; intro ac T
 refine wpList_nil ?_
 replace T := T.pick [0, 1, 2, 3, 4, 5, 6] rfl
 refine nt9 ?_
 refine wp_block ?_
 refine wp_loop_n (fun mz ac wc => ∃ (k : Nat) (AL BL : List Ld) (A3 : Option Addr) (c3 : Nat) (A4 : Option Addr) (c4 : Nat) (Ia Ib : List (Nat × BA)), mz = l.length - k ∧ (k ≤ l.length) ∧ (AL = spA (l.take k) one) ∧ (BL = spB (l.take k) one two) ∧ (spOk (l.take k) one two = true) ∧ (Sl 108 5 (.slice A3 AL.length c3) AL.length (dc AL) Ia) ∧ (Sl 108 5 (.slice A4 BL.length c4) BL.length (dc BL) Ib) ∧ Tm ac 46 [(4, .pointer (some ⟨g1, 0, none⟩)), (5, .pointer (some ⟨g2, 0, none⟩)), (6, .slice A3 AL.length c3), (7, .slice A4 BL.length c4), (11, .slice L l.length n), (12, .int .i64 ((l.length : Nat) : Int)), (13, .int .i64 (k : Int))] ∧ Mem w noEx wc ((g2, .cells [.int .i64 two.l, .int .i64 two.n, .int .i64 two.r, .int .i64 two.f]) :: (g1, .cells [.int .i64 one.l, .int .i64 one.n, .int .i64 one.r, .int .i64 one.f]) :: (Ia ++ Ib))) ?_ ?_
 ·exact ⟨_, 0, [], [], none, 0, none, 0, [], [], rfl, (Nat.zero_le _), rfl, rfl, rfl, (Sl.nil _ _), (Sl.nil _ _), T.pick [6, 5, 4, 3, 2, 1, 0] rfl, M.mask [true, true] rfl⟩
 clear T M
 rintro mz ac wc ⟨k, AL, BL, A3, c3, A4, c4, Ia, Ib, hmm1, hk, hA, hB, hok, hslA, hslB, T, M⟩
 refine wp_seq ?_
 refine wp_region_lit ?_
 refine lq T (rn_lss rfl (T.ev 6 rfl) (T.ev 5 rfl)) ?_; clear T ac; intro ac T
 refine wpList_nil ?_
 refine nt9 ?_
 refine wp_seq ?_
 refine wp_if (T.ev 0 rfl) ?_ ?_
 ·intro h1
  obtain ⟨x, hkx, -⟩ := dc_next (l := l) (k := k) (by omega)
  have hAl : AL.length ≤ 1000000 := by rw [hA]; exact Nat.le_trans (List.length_filter_le _ _) (Nat.le_trans (List.length_take_le _ _) (by omega))
  have hBl : BL.length ≤ 1000000 := by rw [hB]; exact Nat.le_trans (List.length_filter_le _ _) (Nat.le_trans (List.length_take_le _ _) (by omega))
  refine wp_skip ?_
  refine nt9 ?_
  refine wp_seq ?_
  refine wp_block ?_
  refine wp_seq ?_
  refine wp_region_lit ?_
  refine lq T (rn_indexAddr (size := 5) k rfl (T.ev 5 rfl) (T.ev 7 rfl) ⟨_, Tryd.underlying103, by kernel_rfl⟩ rfl (by omega) (SL.at0 (by omega))) ?_; clear T ac; intro ac T
  refine lq (v := (.agg #[.int .i64 x.l, .int .i64 x.n, .int .i64 x.r, .int .i64 x.f, .int .i64 x.p])) T (rn_rowat (Sp.dcR SL M (List.nil_sublist _) hkx) rfl (T.ev 0 rfl) rfl) ?_; clear T ac; intro ac T
  refine l_w rfl ?_; intro K hK
  refine ow_al M T rfl rfl rfl rfl ?_; clear M T; intro g3 wc ac M T
  refine so9 hK _ _ ?_; clear hK K
  refine l_w rfl ?_; intro K hK
  refine ow_stO M T rfl rfl (T.ev 0 rfl) (T.ev 1 rfl) rfl .head rfl (by simp) rfl (by kernel_rfl) ?_; clear M T; intro wc ac M T
  refine so9 hK _ _ ?_; clear hK K
  refine wpList_nil ?_
  replace T := T.pick [0, 4, 5, 6, 7, 8, 9, 10] rfl
  refine nt9 ?_
  refine wp_block ?_
  refine wp_seq ?_
  refine wp_region_lit ?_
  refine lq (v := (.pointer (some ⟨g3, 0, none⟩))) T (rf9 (off := 0) rfl (T.ev 0 rfl) (fun _ _ _ => by kernel_rfl)) ?_; clear T ac; intro ac T
  refine lq T (rn_rowO (Mem.nth M 0 rfl) rfl (T.ev 0 rfl) rfl) ?_; clear T ac; intro ac T
  refine lq T (rn_rowO (Mem.nth M 2 rfl) rfl (T.ev 3 rfl) rfl) ?_; clear T ac; intro ac T
  refine l_w rfl ?_; intro K hK
  refine oc9 (first := []) (cap := []) T rfl rfl rfl rfl evf (.cons (T.ev 1 rfl) (.cons (T.ev 0 rfl) .nil)) Tryd.func115 rfl rfl ?_
  refine Calls.mono (arwithin_any x.ar one _) ?_
  clear T
  rintro e wc ⟨rfl, hb⟩
  intro ac T
  replace M := M.call hb; clear hb
  refine so9 hK _ _ ?_; clear hK K
  refine lq T (ra9 rfl (T.ev 0 rfl)) ?_; clear T ac; intro ac T
  refine wpList_nil ?_
  replace T := T.pick [0, 5, 6, 7, 8, 9, 10, 11, 12] rfl
  refine nt9 ?_
  refine wp_cond_split (T.ev 0 rfl) ?_ ?_
  ·intro h2
   refine wp_region_lit ?_
   refine lq T (rm9 rfl (T.ev 4 rfl)) ?_; clear T ac; intro ac T
   refine lq T (rn_rowO (Mem.nth M 0 rfl) rfl (T.ev 2 rfl) rfl) ?_; clear T ac; intro ac T
   refine l_w rfl ?_; intro K hK
   refine ow_bs (e := 108) [.int .i64 x.l, .int .i64 x.n, .int .i64 x.r, .int .i64 x.f, .int .i64 x.p] M T rfl rfl rfl rfl (.cons (T.ev 0 rfl) .nil) (fun _ => by kernel_rfl) ?_; clear M T; intro g4 wc ac M T
   refine so9 hK _ _ ?_; clear hK K
   refine l_w rfl ?_; intro K hK
   replace M := Mem.swapU [(g4, .cells [.int .i64 x.l, .int .i64 x.n, .int .i64 x.r, .int .i64 x.f, .int .i64 x.p]), (g3, .cells [.int .i64 x.l, .int .i64 x.n, .int .i64 x.r, .int .i64 x.f, .int .i64 x.p]), (g2, .cells [.int .i64 two.l, .int .i64 two.n, .int .i64 two.r, .int .i64 two.f]), (g1, .cells [.int .i64 one.l, .int .i64 one.n, .int .i64 one.r, .int .i64 one.f])] Ia Ib M
   refine ow_app (((g4, .cells [.int .i64 x.l, .int .i64 x.n, .int .i64 x.r, .int .i64 x.f, .int .i64 x.p]) :: (g3, .cells [.int .i64 x.l, .int .i64 x.n, .int .i64 x.r, .int .i64 x.f, .int .i64 x.p]) :: (g2, .cells [.int .i64 two.l, .int .i64 two.n, .int .i64 two.r, .int .i64 two.f]) :: (g1, .cells [.int .i64 one.l, .int .i64 one.n, .int .i64 one.r, .int .i64 one.f]) :: Ib)) Tryd.info108 hslA M (by first | rfl | simp) T rfl rfl rfl rfl Tryd.underlying103 rfl rfl rfl (by omega) (T.ev 2 rfl) (T.ev 0 rfl) (nthE_mem (i := 0) rfl) rfl rfl ?_; clear M T; intro ga1 cga1 wc ac M T
   refine so9 hK _ _ ?_; clear hK K
   refine l_q (v := (.slice (some ⟨ga1, 0, none⟩) (AL.length + 1) cga1)) (T.pick [0, 1, 2, 3, 4, 5, 6, 7, 9, 10, 11, 12] rfl) rfl rfl rfl rfl (ra9 rfl (T.ev 0 rfl)) ?_; clear T ac; intro ac T
   refine wpList_nil ?_
   replace T := T.pick [0, 7, 8, 9, 10, 11, 12] rfl
   replace M := M.mask [true, false, false, true, true] rfl
   refine nm_blk ?_
   refine nm_blk ?_
   refine nt9 ?_
   refine wp_region_lit ?_
   refine lq T (rn_add rfl (T.ev 6 rfl) evc (by omega)) ?_; clear T ac; intro ac T
   refine l_q (v := (.int .i64 ((k : Int) + 1))) (T.pick [0, 1, 2, 3, 4, 5, 6] rfl) rfl rfl rfl rfl (rm9 rfl (T.ev 0 rfl)) ?_; clear T ac; intro ac T
   refine wpList_nil ?_
   replace T := T.pick [0, 2, 3, 4, 5, 6, 7] rfl
   refine nt9 ?_
   have e9 : AL.length + 1 = (AL ++ [x]).length := by simp
   have e8 : ((dc AL) ++ [.int .i64 x.l, .int .i64 x.n, .int .i64 x.r, .int .i64 x.f, .int .i64 x.p]) = dc (AL ++ [x]) := by rw [← dc_snoc]
   rw [e9, e8] at M
   rw [e9] at T
   clear e9 e8
   exact ⟨_, by omega, k + 1, (AL ++ [x]), BL, _, _, _, _, [(ga1, .row 108 5 (AL ++ [x]).length (dc (AL ++ [x])) cga1)], Ib, rfl, (by omega), (by rw [spA_snoc hkx, ← hA, if_pos (by simp_all)]), (by rw [spB_snoc hkx, ← hB, if_neg (by simp_all), List.append_nil]), (by rw [spOk_snoc hkx, hok]; simp_all), (Sl.row _ _ _ _ _ _), hslB, T.pick [2, 3, 1, 4, 5, 6, 0] rfl, (M.permT [1, 2, 0] 3 rfl rfl rfl rfl)⟩
  intro h2
  refine wp_seq ?_
  refine wp_region_lit ?_
  refine lq (v := (.pointer (some ⟨g3, 0, none⟩))) T (rf9 (off := 0) rfl (T.ev 1 rfl) (fun _ _ _ => by kernel_rfl)) ?_; clear T ac; intro ac T
  refine lq T (rn_rowO (Mem.nth M 0 rfl) rfl (T.ev 0 rfl) rfl) ?_; clear T ac; intro ac T
  refine lq T (rn_rowO (Mem.nth M 1 rfl) rfl (T.ev 5 rfl) rfl) ?_; clear T ac; intro ac T
  refine l_w rfl ?_; intro K hK
  refine oc9 (first := []) (cap := []) T rfl rfl rfl rfl evf (.cons (T.ev 1 rfl) (.cons (T.ev 0 rfl) .nil)) Tryd.func115 rfl rfl ?_
  refine Calls.mono (arwithin_any x.ar two _) ?_
  clear T
  rintro e wc ⟨rfl, hb⟩
  intro ac T
  replace M := M.call hb; clear hb
  refine so9 hK _ _ ?_; clear hK K
  refine lq T (ra9 rfl (T.ev 0 rfl)) ?_; clear T ac; intro ac T
  refine wpList_nil ?_
  replace T := T.pick [0, 6, 7, 8, 9, 10, 11, 12, 13] rfl
  refine nt9 ?_
  refine wp_cond_split (T.ev 0 rfl) ?_ ?_
  ·intro h3
   refine wp_region_lit ?_
   refine lq T (rm9 rfl (T.ev 5 rfl)) ?_; clear T ac; intro ac T
   refine lq T (rn_rowO (Mem.nth M 0 rfl) rfl (T.ev 2 rfl) rfl) ?_; clear T ac; intro ac T
   refine l_w rfl ?_; intro K hK
   refine ow_bs (e := 108) [.int .i64 x.l, .int .i64 x.n, .int .i64 x.r, .int .i64 x.f, .int .i64 x.p] M T rfl rfl rfl rfl (.cons (T.ev 0 rfl) .nil) (fun _ => by kernel_rfl) ?_; clear M T; intro g5 wc ac M T
   refine so9 hK _ _ ?_; clear hK K
   refine l_w rfl ?_; intro K hK
   refine ow_app (((g5, .cells [.int .i64 x.l, .int .i64 x.n, .int .i64 x.r, .int .i64 x.f, .int .i64 x.p]) :: (g3, .cells [.int .i64 x.l, .int .i64 x.n, .int .i64 x.r, .int .i64 x.f, .int .i64 x.p]) :: (g2, .cells [.int .i64 two.l, .int .i64 two.n, .int .i64 two.r, .int .i64 two.f]) :: (g1, .cells [.int .i64 one.l, .int .i64 one.n, .int .i64 one.r, .int .i64 one.f]) :: Ia)) Tryd.info108 hslB M (by first | rfl | simp) T rfl rfl rfl rfl Tryd.underlying103 rfl rfl rfl (by omega) (T.ev 2 rfl) (T.ev 0 rfl) (nthE_mem (i := 0) rfl) rfl rfl ?_; clear M T; intro ga2 cga2 wc ac M T
   refine so9 hK _ _ ?_; clear hK K
   refine l_q (v := (.slice (some ⟨ga2, 0, none⟩) (BL.length + 1) cga2)) (T.pick [0, 1, 2, 3, 4, 5, 6, 7, 8, 10, 11, 12] rfl) rfl rfl rfl rfl (ra9 rfl (T.ev 0 rfl)) ?_; clear T ac; intro ac T
   refine wpList_nil ?_
   replace T := T.pick [0, 7, 8, 9, 10, 11, 12] rfl
   replace M := M.mask [true, false, false, true, true] rfl
   refine nm_blk ?_
   refine nm_blk ?_
   refine nt9 ?_
   refine wp_region_lit ?_
   refine lq T (rn_add rfl (T.ev 6 rfl) evc (by omega)) ?_; clear T ac; intro ac T
   refine l_q (v := (.int .i64 ((k : Int) + 1))) (T.pick [0, 1, 2, 3, 4, 5, 6] rfl) rfl rfl rfl rfl (rm9 rfl (T.ev 0 rfl)) ?_; clear T ac; intro ac T
   refine wpList_nil ?_
   replace T := T.pick [0, 2, 3, 4, 5, 6, 7] rfl
   refine nt9 ?_
   have e9 : BL.length + 1 = (BL ++ [x]).length := by simp
   have e8 : ((dc BL) ++ [.int .i64 x.l, .int .i64 x.n, .int .i64 x.r, .int .i64 x.f, .int .i64 x.p]) = dc (BL ++ [x]) := by rw [← dc_snoc]
   rw [e9, e8] at M
   rw [e9] at T
   clear e9 e8
   exact ⟨_, by omega, k + 1, AL, (BL ++ [x]), _, _, _, _, Ia, [(ga2, .row 108 5 (BL ++ [x]).length (dc (BL ++ [x])) cga2)], rfl, (by omega), (by rw [spA_snoc hkx, ← hA, if_neg (by simp_all), List.append_nil]), (by rw [spB_snoc hkx, ← hB, if_pos (by simp_all)]), (by rw [spOk_snoc hkx, hok]; simp_all), hslA, (Sl.row _ _ _ _ _ _), T.pick [2, 3, 4, 1, 5, 6, 0] rfl, (Mem.swapU [(g2, .cells [.int .i64 two.l, .int .i64 two.n, .int .i64 two.r, .int .i64 two.f]), (g1, .cells [.int .i64 one.l, .int .i64 one.n, .int .i64 one.r, .int .i64 one.f])] [(ga2, .row 108 5 (BL ++ [x]).length (dc (BL ++ [x])) cga2)] Ia (M.permT [1, 2, 0] 3 rfl rfl rfl rfl))⟩
  intro h3
  refine wp_seq ?_
  refine wp_region_lit ?_
  refine l_q (v := (.slice none 0 0)) (T.pick [0, 1, 2, 3, 5, 6, 7, 8] rfl) rfl rfl rfl rfl (ra9 rfl evc) ?_; clear T ac; intro ac T
  refine l_q (v := (.slice none 0 0)) (T.pick [0, 1, 2, 3, 4, 6, 7, 8] rfl) rfl rfl rfl rfl (ra9 rfl evc) ?_; clear T ac; intro ac T
  refine lq T (ra9 rfl evc) ?_; clear T ac; intro ac T
  refine wpList_nil ?_
  replace T := T.pick [0, 1, 2] rfl
  replace M := M.mask [false, false, false] rfl
  refine nt9 ?_
  refine wp_ret ?_
  refine rt_blk ?_
  refine rt_blk ?_
  refine rt_then ?_
  refine rt_then ?_
  refine rt_blk ?_
  refine rt_then ?_
  refine rt_3 T rfl (T.ev 2 rfl) (T.ev 1 rfl) (T.ev 0 rfl) ?_
  have hno := spOk_no (List.mem_of_getElem? hkx) (one := one) (two := two) (by simp_all) (by simp_all)
  have e1 : splA l one two = [] := by simp [splA, hno]
  have e2 : splB l one two = [] := by simp [splB, hno]
  have e3 : splI l one two = false := by simp [splI, hno]
  unfold SplPost
  rw [e1, e2, e3]
  exact ⟨none, 0, [], none, 0, [], rfl, ⟨0, 0, fun _ _ => Sp.nil⟩, ⟨0, 0, fun _ _ => Sp.nil⟩, M.sub (List.nil_sublist _)⟩
 intro h1
 rw [List.take_of_length_le (by omega)] at hA hB hok
 have hAl : AL.length ≤ 1000000 := by rw [hA]; exact Nat.le_trans (List.length_filter_le _ _) (by omega)
 have hBl : BL.length ≤ 1000000 := by rw [hB]; exact Nat.le_trans (List.length_filter_le _ _) (by omega)
 refine wp_exit ?_
 refine ex_then ?_
 refine ex_then ?_
 refine ex_hit ?_
 refine nt9 ?_
 refine cut_seq (fun ac wc => Tm ac 46 [(6, .slice A3 AL.length c3), (7, .slice A4 BL.length c4), (8, .bool ((decide (0 < ((AL.length : Nat) : Int))) && (decide (0 < ((BL.length : Nat) : Int)))))] ∧ Mem w noEx wc ((Ia ++ Ib))) ?_ ?_
 ·refine wp_region_lit ?_
  refine lq T (rm9 rfl (T.ev 3 rfl)) ?_; clear T ac; intro ac T
  refine lq T (rm9 rfl (T.ev 5 rfl)) ?_; clear T ac; intro ac T
  refine lq T (rm9 rfl (T.ev 5 rfl)) ?_; clear T ac; intro ac T
  refine lq T (rn_lenS rfl Tryd.underlying103 (T.ev 0 rfl)) ?_; clear T ac; intro ac T
  refine lq T (rn_gtr rfl (T.ev 0 rfl) evc) ?_; clear T ac; intro ac T
  refine lq T (rm9 rfl (T.ev 0 rfl)) ?_; clear T ac; intro ac T
  rcases Bool.eq_false_or_eq_true (decide (0 < ((AL.length : Nat) : Int))) with h4 | h4
  ·replace h4 := of_decide_eq_true h4
   refine lw T (wy9 rfl rfl (T.ev 0 rfl) (decide_eq_true h4)) (rm9 rfl (T.ev 10 rfl)) ?_; clear T ac; intro ac T
   refine lw T (wy9 rfl rfl (T.ev 1 rfl) (decide_eq_true h4)) (rn_lenS rfl Tryd.underlying103 (T.ev 0 rfl)) ?_; clear T ac; intro ac T
   refine lw T (wy9 rfl rfl (T.ev 2 rfl) (decide_eq_true h4)) (rn_gtr rfl (T.ev 0 rfl) evc) ?_; clear T ac; intro ac T
   refine lq T (rn_pick1 rfl (T.ev 3 rfl) (decide_eq_true h4) (T.ev 0 rfl)) ?_; clear T ac; intro ac T
   refine l_q (v := (.slice A3 AL.length c3)) (T.pick [0, 1, 2, 3, 4, 5, 6, 7, 8, 9, 10, 11, 12, 14, 15, 16, 17] rfl) rfl rfl rfl rfl (ra9 rfl (T.ev 9 rfl)) ?_; clear T ac; intro ac T
   refine l_q (v := (.slice A4 BL.length c4)) (T.pick [0, 1, 2, 3, 4, 5, 6, 7, 8, 9, 10, 11, 12, 13, 15, 16, 17] rfl) rfl rfl rfl rfl (ra9 rfl (T.ev 9 rfl)) ?_; clear T ac; intro ac T
   refine lq T (ra9 rfl (T.ev 2 rfl)) ?_; clear T ac; intro ac T
   refine wpList_nil ?_
   replace T := T.pick [0, 1, 2] rfl
   replace M := M.mask [false, false] rfl
   exact ⟨(T.pick (E' := [(6, .slice A3 AL.length c3), (7, .slice A4 BL.length c4), (8, .bool (decide (0 < ((BL.length : Nat) : Int))))]) [2, 1, 0] rfl).as (by (try rw [show (decide (0 < ((AL.length : Nat) : Int))) = true from (decide_eq_true h4)]); (try rfl)), M.mask [] rfl⟩
  replace h4 := of_decide_eq_false h4
  refine lp T (wn9 rfl rfl (T.ev 0 rfl) (decide_eq_false h4)) ?_; clear T ac; intro ac T
  refine lp T (wn9 rfl rfl (T.ev 1 rfl) (decide_eq_false h4)) ?_; clear T ac; intro ac T
  refine lp T (wn9 rfl rfl (T.ev 2 rfl) (decide_eq_false h4)) ?_; clear T ac; intro ac T
  refine lq T (rn_pick0 rfl (T.ev 3 rfl) (decide_eq_false h4) evc) ?_; clear T ac; intro ac T
  refine l_q (v := (.slice A3 AL.length c3)) (T.pick [0, 1, 2, 3, 4, 5, 6, 7, 8, 9, 10, 11, 12, 14, 15, 16, 17] rfl) rfl rfl rfl rfl (ra9 rfl (T.ev 9 rfl)) ?_; clear T ac; intro ac T
  refine l_q (v := (.slice A4 BL.length c4)) (T.pick [0, 1, 2, 3, 4, 5, 6, 7, 8, 9, 10, 11, 12, 13, 15, 16, 17] rfl) rfl rfl rfl rfl (ra9 rfl (T.ev 9 rfl)) ?_; clear T ac; intro ac T
  refine lq T (ra9 rfl (T.ev 2 rfl)) ?_; clear T ac; intro ac T
  refine wpList_nil ?_
  replace T := T.pick [0, 1, 2] rfl
  replace M := M.mask [false, false] rfl
  exact ⟨(T.pick (E' := [(6, .slice A3 AL.length c3), (7, .slice A4 BL.length c4), (8, .bool false)]) [2, 1, 0] rfl).as (by (try rw [show (decide (0 < ((AL.length : Nat) : Int))) = false from (decide_eq_false h4)]); (try rfl)), M.mask [] rfl⟩
 clear T M
 rintro ac wc ⟨T, M⟩
 refine wp_ret ?_
 refine rt_3 T rfl (T.ev 0 rfl) (T.ev 1 rfl) (T.ev 2 rfl) ?_
 have e1 : splA l one two = AL := by rw [splA, if_pos hok, hA]
 have e2 : splB l one two = BL := by rw [splB, if_pos hok, hB]
 have e3 : splI l one two = (decide (0 < AL.length) && decide (0 < BL.length)) := by rw [splI, hok, hA, hB]; rfl
 unfold SplPost
 rw [e1, e2, e3]
 replace M : Mem w noEx wc (Ia ++ Ib) := M.sub (List.sublist_append_right [] _)
 refine ⟨A3, c3, Ia, A4, c4, Ib, ?_, hslA.spV (dc_length _), hslB.spV (dc_length _), M⟩
 first | rfl | (congr 4; simp_all)
theorem splA_le {l : List Ld} {one two : Ar} : (splA l one two).length ≤ l.length := by unfold splA; split; exact List.length_filter_le _ _; exact Nat.zero_le _
theorem splB_le {l : List Ld} {one two : Ar} : (splB l one two).length ≤ l.length := by unfold splB; split; exact List.length_filter_le _ _; exact Nat.zero_le _
def SawSpec (gc m : Nat) : Prop := ∀ (l : List Ld) (L : Option Addr) (n : Nat) (a : Ar) (w : World), l.length < m → l.length ≤ 1000000 → ((0 ≤ a.l ∧ a.l ≤ 1000) ∧ (0 ≤ a.n ∧ a.n ≤ 1000) ∧ (0 ≤ a.r ∧ a.r ≤ 1000) ∧ (0 ≤ a.f ∧ a.f ≤ 1000)) → Rd w w.heap.size 5 L l.length (dc l) → Bk w gc #[.func (.func 102) #[] #[.pointer (some ⟨gc, 0, none⟩)]] →
 Calls Tryd.prog 102 #[.slice L l.length n, .agg #[.int .i64 a.l, .int .i64 a.n, .int .i64 a.r, .int .i64 a.f], .pointer (some ⟨gc, 0, none⟩)] w (fun e w' => e = .returned (.bool (sawB l a)) ∧ Below w.heap.size w w')
set_option maxHeartbeats 4000000 in
theorem saw_step (gc m : Nat) (l : List Ld) (L : Option Addr) (n : Nat) (a : Ar) (w : World) (ih : SawSpec gc m) (hm : l.length < m + 1) (nL : l.length ≤ 1000000) (hb : (0 ≤ a.l ∧ a.l ≤ 1000) ∧ (0 ≤ a.n ∧ a.n ≤ 1000) ∧ (0 ≤ a.r ∧ a.r ≤ 1000) ∧ (0 ≤ a.f ∧ a.f ≤ 1000)) (hL : Rd w w.heap.size 5 L l.length (dc l)) (qc : Bk w gc #[.func (.func 102) #[] #[.pointer (some ⟨gc, 0, none⟩)]]) :
   Calls Tryd.prog 102 #[.slice L l.length n, .agg #[.int .i64 a.l, .int .i64 a.n, .int .i64 a.r, .int .i64 a.f], .pointer (some ⟨gc, 0, none⟩)] w fun e w' => e = .returned (.bool (sawB l a)) ∧ Below w.heap.size w w' := by
 obtain ⟨bL, oL, SL⟩ := Sp.old hL
 obtain ⟨⟨hb1, hb2⟩, ⟨hb3, hb4⟩, ⟨hb5, hb6⟩, hb7, hb8⟩ := hb
 refine px_enter noEx Tryd.func102 rfl 113 rfl [.slice L l.length n, .agg #[.int .i64 a.l, .int .i64 a.n, .int .i64 a.r, .int .i64 a.f], .pointer (some ⟨gc, 0, none⟩)] rfl rfl (Mem.init w _) ?_
 intro ac wc T M
 refine wp_seq ?_
 refine wp_region_lit ?_
 refine l_w rfl ?_; intro K hK
 refine ow_bx M T rfl rfl rfl rfl (T.ev 1 rfl) rfl ?_; clear M T; intro g1 wc ac M T
 refine so9 hK _ _ ?_; clear hK K
 refine lq T (ra9 rfl evc) ?_; clear T ac; intro ac T
 refine wpList_nil ?_
 replace T := T.pick [1, 2, 4] rfl
 refine nt9 ?_
 refine wp_seq ?_
 refine wp_seq ?_
 refine wp_region_lit ?_
 refine lq T (rm9 rfl (T.ev 1 rfl)) ?_; clear T ac; intro ac T
 refine lq T (rn_lenS rfl Tryd.underlying103 (T.ev 0 rfl)) ?_; clear T ac; intro ac T
 refine lq T (rn_lss rfl (T.ev 0 rfl) evc) ?_; clear T ac; intro ac T
 refine wpList_nil ?_
 replace T := T.pick [0, 3, 4, 5] rfl
 refine nt9 ?_
 refine wp_if (T.ev 0 rfl) ?_ ?_
 ·intro h1
  refine wp_seq ?_
  refine wp_region_lit ?_
  refine lq T (ra9 rfl evc) ?_; clear T ac; intro ac T
  refine wpList_nil ?_
  replace T := T.pick [0] rfl
  replace M := M.mask [false] rfl
  refine nt9 ?_
  refine wp_ret ?_
  refine rt_then ?_
  refine rt_1 T rfl (T.ev 0 rfl) ?_
  exact ⟨ret_bool (saw_few (by omega)).symm, M.below⟩
 intro h1
 refine wp_skip ?_
 refine nt9 ?_
 refine wp_seq ?_
 refine wp_seq ?_
 refine wp_region_lit ?_
 refine lq (v := (.pointer (some ⟨g1, 0, none⟩))) T (rf9 (off := 0) rfl (T.ev 1 rfl) (fun _ _ _ => by kernel_rfl)) ?_; clear T ac; intro ac T
 refine lq T (rn_one (Mem.nth M 0 rfl) rfl (T.ev 0 rfl) rfl) ?_; clear T ac; intro ac T
 refine lq T (rn_add rfl (T.ev 0 rfl) evc (by omega)) ?_; clear T ac; intro ac T
 refine lq T (ra9 rfl (T.ev 0 rfl)) ?_; clear T ac; intro ac T
 refine wpList_nil ?_
 replace T := T.pick [0, 5, 6, 7] rfl
 refine nt9 ?_
 refine wp_block ?_
 refine wp_loop_n (fun mz ac wc => ∃ (x : Int), mz = (1001 - x).toNat ∧ (a.l < x) ∧ (x ≤ max (a.l + 1) a.r) ∧ (∀ z, a.l < z → z < x → ¬ (splI l (a.al z) (a.ar z) = true ∧ sawB (splA l (a.al z) (a.ar z)) (a.al z) = true ∧ sawB (splB l (a.al z) (a.ar z)) (a.ar z) = true)) ∧ Tm ac 113 [(0, .slice L l.length n), (2, .pointer (some ⟨gc, 0, none⟩)), (4, .pointer (some ⟨g1, 0, none⟩)), (6, .int .i64 x)] ∧ Mem w noEx wc [(g1, .cells [.int .i64 a.l, .int .i64 a.n, .int .i64 a.r, .int .i64 a.f])]) ?_ ?_
 ·exact ⟨_, _, rfl, (by omega), (by omega), (fun z h1 h2 => by omega), T.pick [2, 3, 1, 0] rfl, M.mask [true] rfl⟩
 clear T M
 rintro mz ac wc ⟨x, hmm1, hx1, hx2, H, T, M⟩
 refine wp_seq ?_
 refine wp_seq ?_
 refine wp_region_lit ?_
 refine lq T (rm9 rfl (T.ev 3 rfl)) ?_; clear T ac; intro ac T
 refine lq (v := (.pointer (some ⟨g1, 2, none⟩))) T (rf9 (off := 2) rfl (T.ev 3 rfl) (fun _ _ _ => by kernel_rfl)) ?_; clear T ac; intro ac T
 refine lq T (rn_one (Mem.nth M 0 rfl) rfl (T.ev 0 rfl) rfl) ?_; clear T ac; intro ac T
 refine lq T (rn_lss rfl (T.ev 2 rfl) (T.ev 0 rfl)) ?_; clear T ac; intro ac T
 refine wpList_nil ?_
 replace T := T.pick [0, 4, 5, 6, 7] rfl
 refine nt9 ?_
 refine wp_if (T.ev 0 rfl) ?_ ?_
 ·intro h2
  refine wp_skip ?_
  refine nt9 ?_
  refine wp_seq ?_
  refine wp_block ?_
  refine wp_seq ?_
  refine g_start2 M (M.mask [true] rfl) 20 (by kernel_rfl) rfl (by kernel_rfl) ?_
  clear M; intro wc M
  refine g_have (fun ac wc => ∃ (gr6_17 gr6_16 : Nat), Tm ac 113 [(8, .pointer (some ⟨gr6_17, 0, none⟩)), (7, .pointer (some ⟨gr6_16, 0, none⟩)), (45, .agg #[.int .i64 x, .int .i64 a.n, .int .i64 a.r, .int .i64 a.f]), (44, .int .i64 a.f), (43, .pointer (some ⟨g1, 3, none⟩)), (42, .int .i64 a.r), (41, .pointer (some ⟨g1, 2, none⟩)), (40, .int .i64 a.n), (39, .pointer (some ⟨g1, 1, none⟩)), (38, .int .i64 x), (37, .agg #[.int .i64 a.l, .int .i64 a.n, .int .i64 x, .int .i64 a.f]), (36, .int .i64 a.f), (35, .pointer (some ⟨g1, 3, none⟩)), (34, .int .i64 x), (33, .int .i64 a.n), (32, .pointer (some ⟨g1, 1, none⟩)), (31, .int .i64 a.l), (30, .pointer (some ⟨g1, 0, none⟩)), (27, .bool (decide (x < a.r))), (0, .slice L l.length n), (2, .pointer (some ⟨gc, 0, none⟩)), (4, .pointer (some ⟨g1, 0, none⟩)), (6, .int .i64 x)] ∧ Mem w noEx wc [(gr6_17, .cells [.int .i64 0, .int .i64 0, .int .i64 0, .int .i64 0]), (gr6_16, .cells [.int .i64 0, .int .i64 0, .int .i64 0, .int .i64 0]), (g1, .cells [.int .i64 a.l, .int .i64 a.n, .int .i64 a.r, .int .i64 a.f])]) (pbits 20 262143) 2 ?_ ?_
  ·clear T M
   rintro ac wc ⟨gr6_17, gr6_16, T, M⟩
   refine gw 18 524287 ?_; intro K hK
   refine ow_stO M T rfl rfl (T.ev 1 rfl) (T.ev 10 rfl) rfl (.tail .head) rfl (by simp) rfl (by kernel_rfl) ?_; clear M T; intro wc ac M T
   refine so9 hK _ _ (M.mask [false, false, true] rfl) ?_; clear hK K
   refine gw 19 1048575 ?_; intro K hK
   refine ow_stO M T rfl rfl (T.ev 0 rfl) (T.ev 2 rfl) rfl .head rfl (by simp) rfl (by kernel_rfl) ?_; clear M T; intro wc ac M T
   refine so9 hK _ _ (M.mask [false, false, true] rfl) ?_; clear hK K
   refine g_done (by kernel_rfl) ?_
   replace T := T.pick [0, 1, 19, 20, 21, 22] rfl
   refine nt9 ?_
   refine wp_seq ?_
   refine wp_region_lit ?_
   refine lq T (rm9 rfl (T.ev 2 rfl)) ?_; clear T ac; intro ac T
   refine lq T (rn_rowO (Mem.nth M 1 rfl) rfl (T.ev 2 rfl) rfl) ?_; clear T ac; intro ac T
   refine lq T (rn_rowO (Mem.nth M 0 rfl) rfl (T.ev 2 rfl) rfl) ?_; clear T ac; intro ac T
   refine l_w rfl ?_; intro K hK
   refine oc9 (first := []) (cap := []) T rfl rfl rfl rfl evf (.cons (T.ev 2 rfl) (.cons (T.ev 1 rfl) (.cons (T.ev 0 rfl) .nil))) Tryd.func103 rfl rfl ?_
   refine Calls.mono (split_any L n l (a.al x) (a.ar x) _ (SL.rd M (List.nil_sublist _)) (by omega)) ?_
   clear T
   rintro e wc ⟨Au1, cAu1, IAu1, Bu1, cBu1, IBu1, rfl, SVAu1, SVBu1, N⟩
   intro ac T
   obtain ⟨bAu1, oAu1, SVAu1⟩ := SVAu1
   have SAu1 := SVAu1 w noEx
   obtain ⟨bBu1, oBu1, SVBu1⟩ := SVBu1
   have SBu1 := SVBu1 w noEx
   replace M := (M.join N).swapI
   clear N
   replace M : Mem w noEx wc ((gr6_17, .cells [.int .i64 x, .int .i64 a.n, .int .i64 a.r, .int .i64 a.f]) :: (gr6_16, .cells [.int .i64 a.l, .int .i64 a.n, .int .i64 x, .int .i64 a.f]) :: (g1, .cells [.int .i64 a.l, .int .i64 a.n, .int .i64 a.r, .int .i64 a.f]) :: (IAu1 ++ IBu1)) := M
   have hlAu1 : (splA l (a.al x) (a.ar x)).length ≤ l.length := splA_le
   have hlBu1 : (splB l (a.al x) (a.ar x)).length ≤ l.length := splB_le
   refine so9 hK _ _ ?_; clear hK K
   refine lq T (rm9 rfl (T.ev 0 rfl)) ?_; clear T ac; intro ac T
   refine lq T (rn_extract rfl (T.ev 0 rfl) rfl) ?_; clear T ac; intro ac T
   refine lq T (rn_extract rfl (T.ev 1 rfl) rfl) ?_; clear T ac; intro ac T
   refine lq T (rn_extract rfl (T.ev 2 rfl) rfl) ?_; clear T ac; intro ac T
   refine lq T (ra9 rfl (T.ev 2 rfl)) ?_; clear T ac; intro ac T
   refine lq T (ra9 rfl (T.ev 2 rfl)) ?_; clear T ac; intro ac T
   refine lq T (ra9 rfl (T.ev 2 rfl)) ?_; clear T ac; intro ac T
   refine wpList_nil ?_
   replace T := T.pick [0, 1, 2, 11, 12, 13, 14, 15, 16] rfl
   refine nt9 ?_
   refine cut_seq (fun ac wc => Tm ac 113 [(0, .slice L l.length n), (2, .pointer (some ⟨gc, 0, none⟩)), (4, .pointer (some ⟨g1, 0, none⟩)), (6, .int .i64 x), (66, .bool ((splI l (a.al x) (a.ar x)) && ((sawB (splA l (a.al x) (a.ar x)) (a.al x)) && (sawB (splB l (a.al x) (a.ar x)) (a.ar x)))))] ∧ Mem w noEx wc ((g1, .cells [.int .i64 a.l, .int .i64 a.n, .int .i64 a.r, .int .i64 a.f]) :: (IAu1 ++ IBu1))) ?_ ?_
   ·refine wp_region_lit ?_
    refine lq T (rm9 rfl (T.ev 0 rfl)) ?_; clear T ac; intro ac T
    refine lq T (rm9 rfl (T.ev 0 rfl)) ?_; clear T ac; intro ac T
    rcases Bool.eq_false_or_eq_true (splI l (a.al x) (a.ar x)) with h3 | h3
    ·refine lw T (wy9 rfl rfl (T.ev 0 rfl) h3) (rn_one (Mem.old M qc (fun h => h)) rfl (T.ev 8 rfl) rfl) ?_; clear T ac; intro ac T
     refine lw T (wy9 rfl rfl (T.ev 1 rfl) h3) (rm9 rfl (T.ev 5 rfl)) ?_; clear T ac; intro ac T
     refine lw T (wy9 rfl rfl (T.ev 2 rfl) h3) (rn_rowO (Mem.nth M 1 rfl) rfl (T.ev 8 rfl) rfl) ?_; clear T ac; intro ac T
     refine l_w (wy9 rfl rfl (T.ev 3 rfl) h3) ?_; intro K hK
     refine oc9 (first := []) (cap := [.pointer (some ⟨gc, 0, none⟩)]) T rfl rfl rfl rfl (T.ev 2 rfl) (.cons (T.ev 1 rfl) (.cons (T.ev 0 rfl) .nil)) Tryd.func102 rfl rfl ?_
     refine Calls.mono (ih (splA l (a.al x) (a.ar x)) Au1 cAu1 (a.al x) _ (by have := splI_len (l := l) (one := (a.al x)) (two := (a.ar x)) (by simp_all); omega) (by omega) (by dsimp only [Ar.al, Ar.ar, Ar.cl, Ar.cr]; omega) (SAu1.rd M (.cons _ (.cons _ (.cons _ (subL (List.Sublist.refl _)))))) (M.old qc (fun h => h))) ?_
     clear T
     rintro e wc ⟨rfl, hb⟩
     intro ac T
     replace M := M.call hb; clear hb
     refine so9 hK _ _ ?_; clear hK K
     refine lq T (rn_pick1 rfl (T.ev 4 rfl) h3 (T.ev 0 rfl)) ?_; clear T ac; intro ac T
     refine lq T (rm9 rfl (T.ev 0 rfl)) ?_; clear T ac; intro ac T
     rcases Bool.eq_false_or_eq_true (sawB (splA l (a.al x) (a.ar x)) (a.al x)) with h4 | h4
     ·refine lw T (wy9 rfl rfl (T.ev 0 rfl) h4) (rn_one (Mem.old M qc (fun h => h)) rfl (T.ev 14 rfl) rfl) ?_; clear T ac; intro ac T
      refine lw T (wy9 rfl rfl (T.ev 1 rfl) h4) (rm9 rfl (T.ev 10 rfl)) ?_; clear T ac; intro ac T
      refine lw T (wy9 rfl rfl (T.ev 2 rfl) h4) (rn_rowO (Mem.nth M 0 rfl) rfl (T.ev 13 rfl) rfl) ?_; clear T ac; intro ac T
      refine l_w (wy9 rfl rfl (T.ev 3 rfl) h4) ?_; intro K hK
      refine oc9 (first := []) (cap := [.pointer (some ⟨gc, 0, none⟩)]) T rfl rfl rfl rfl (T.ev 2 rfl) (.cons (T.ev 1 rfl) (.cons (T.ev 0 rfl) .nil)) Tryd.func102 rfl rfl ?_
      refine Calls.mono (ih (splB l (a.al x) (a.ar x)) Bu1 cBu1 (a.ar x) _ (by have := splI_len (l := l) (one := (a.al x)) (two := (a.ar x)) (by simp_all); omega) (by omega) (by dsimp only [Ar.al, Ar.ar, Ar.cl, Ar.cr]; omega) (SBu1.rd M (.cons _ (.cons _ (.cons _ (List.sublist_append_right _ _))))) (M.old qc (fun h => h))) ?_
      clear T
      rintro e wc ⟨rfl, hb⟩
      intro ac T
      replace M := M.call hb; clear hb
      refine so9 hK _ _ ?_; clear hK K
      refine lq T (rn_pick1 rfl (T.ev 4 rfl) h4 (T.ev 0 rfl)) ?_; clear T ac; intro ac T
      refine wpList_nil ?_
      replace T := T.pick [0, 1, 2, 3, 4, 7, 8, 9, 10, 18, 19, 20, 21] rfl
      replace M := M.mask [false, false, true] rfl
      exact ⟨(T.pick (E' := [(0, .slice L l.length n), (2, .pointer (some ⟨gc, 0, none⟩)), (4, .pointer (some ⟨g1, 0, none⟩)), (6, .int .i64 x), (66, .bool (sawB (splB l (a.al x) (a.ar x)) (a.ar x)))]) [9, 10, 11, 12, 0] rfl).as (by (try rw [show (splI l (a.al x) (a.ar x)) = true from h3]); (try rw [show (sawB (splA l (a.al x) (a.ar x)) (a.al x)) = true from h4]); (try rfl)), M.mask [true] rfl⟩
     refine lp T (wn9 rfl rfl (T.ev 0 rfl) h4) ?_; clear T ac; intro ac T
     refine lp T (wn9 rfl rfl (T.ev 1 rfl) h4) ?_; clear T ac; intro ac T
     refine lp T (wn9 rfl rfl (T.ev 2 rfl) h4) ?_; clear T ac; intro ac T
     refine lp T (wn9 rfl rfl (T.ev 3 rfl) h4) ?_; clear T ac; intro ac T
     refine lq T (rn_pick0 rfl (T.ev 4 rfl) h4 evc) ?_; clear T ac; intro ac T
     refine wpList_nil ?_
     replace T := T.pick [0, 1, 2, 3, 4, 7, 8, 9, 10, 18, 19, 20, 21] rfl
     replace M := M.mask [false, false, true] rfl
     exact ⟨(T.pick (E' := [(0, .slice L l.length n), (2, .pointer (some ⟨gc, 0, none⟩)), (4, .pointer (some ⟨g1, 0, none⟩)), (6, .int .i64 x), (66, .bool false)]) [9, 10, 11, 12, 0] rfl).as (by (try rw [show (splI l (a.al x) (a.ar x)) = true from h3]); (try rw [show (sawB (splA l (a.al x) (a.ar x)) (a.al x)) = false from h4]); (try rfl)), M.mask [true] rfl⟩
    refine lp T (wn9 rfl rfl (T.ev 0 rfl) h3) ?_; clear T ac; intro ac T
    refine lp T (wn9 rfl rfl (T.ev 1 rfl) h3) ?_; clear T ac; intro ac T
    refine lp T (wn9 rfl rfl (T.ev 2 rfl) h3) ?_; clear T ac; intro ac T
    refine lp T (wn9 rfl rfl (T.ev 3 rfl) h3) ?_; clear T ac; intro ac T
    refine lq T (rn_pick0 rfl (T.ev 4 rfl) h3 evc) ?_; clear T ac; intro ac T
    refine lq T (rm9 rfl (T.ev 0 rfl)) ?_; clear T ac; intro ac T
    refine lp T (wn9 rfl rfl (T.ev 0 rfl) rfl) ?_; clear T ac; intro ac T
    refine lp T (wn9 rfl rfl (T.ev 1 rfl) rfl) ?_; clear T ac; intro ac T
    refine lp T (wn9 rfl rfl (T.ev 2 rfl) rfl) ?_; clear T ac; intro ac T
    refine lp T (wn9 rfl rfl (T.ev 3 rfl) rfl) ?_; clear T ac; intro ac T
    refine lq T (rn_pick0 rfl (T.ev 4 rfl) rfl evc) ?_; clear T ac; intro ac T
    refine wpList_nil ?_
    replace T := T.pick [0, 1, 2, 3, 4, 7, 8, 9, 10, 18, 19, 20, 21] rfl
    replace M := M.mask [false, false, true] rfl
    exact ⟨(T.pick (E' := [(0, .slice L l.length n), (2, .pointer (some ⟨gc, 0, none⟩)), (4, .pointer (some ⟨g1, 0, none⟩)), (6, .int .i64 x), (66, .bool false)]) [9, 10, 11, 12, 0] rfl).as (by (try rw [show (splI l (a.al x) (a.ar x)) = false from h3]); (try rfl)), M.mask [true] rfl⟩
   clear T M
   rintro ac wc ⟨T, M⟩
   refine wp_cond_split (T.ev 4 rfl) ?_ ?_
   ·intro h5
    (try have h5' := h5; try simp only [Bool.and_eq_true, Bool.or_eq_true, Bool.not_eq_true', Bool.and_eq_false_imp, Bool.or_eq_false_iff, decide_eq_true_eq, decide_eq_false_iff_not] at h5')
    refine wp_seq ?_
    refine wp_region_lit ?_
    refine lq T (ra9 rfl evc) ?_; clear T ac; intro ac T
    refine wpList_nil ?_
    replace T := T.pick [0] rfl
    replace M := M.mask [false] rfl
    refine nt9 ?_
    refine wp_ret ?_
    refine rt_blk ?_
    refine rt_then ?_
    refine rt_then ?_
    refine rt_blk ?_
    refine rt_then ?_
    refine rt_1 T rfl (T.ev 0 rfl) ?_
    have e9 : sawB l a = true := saw_along x (by omega) (by omega) (by simp_all) (by simp_all) (by simp_all)
    exact ⟨ret_bool e9.symm, M.below⟩
   intro h5
   (try have h5' := h5; try simp only [Bool.and_eq_true, Bool.or_eq_true, Bool.not_eq_true', Bool.and_eq_false_imp, Bool.or_eq_false_iff, decide_eq_true_eq, decide_eq_false_iff_not] at h5')
   refine wp_skip ?_
   refine nm_blk ?_
   refine nt9 ?_
   refine wp_region_lit ?_
   refine lq T (rm9 rfl (T.ev 3 rfl)) ?_; clear T ac; intro ac T
   refine lq T (rn_add rfl (T.ev 0 rfl) evc (by omega)) ?_; clear T ac; intro ac T
   refine l_q (v := (.int .i64 (x + 1))) (T.pick [0, 1, 2, 3, 4, 6] rfl) rfl rfl rfl rfl (ra9 rfl (T.ev 0 rfl)) ?_; clear T ac; intro ac T
   refine wpList_nil ?_
   replace T := T.pick [0, 3, 4, 5] rfl
   refine nt9 ?_
   exact ⟨_, by omega, _, rfl, (by omega), (by omega), (fun z h1 h2 => by rcases Int.lt_or_eq_of_le (show z ≤ x by omega) with h3 | h3; exact H z h1 h3; subst h3; rintro ⟨k1, k2, k3⟩; simp_all), T.pick [1, 2, 3, 0] rfl, ((M.permT [0] 1 rfl rfl rfl rfl).sub (List.sublist_append_left ([(g1, .cells [.int .i64 a.l, .int .i64 a.n, .int .i64 a.r, .int .i64 a.f])] : List (Nat × BA)) _))⟩
  intro H0
  refine gq (v := (.pointer (some ⟨g1, 0, none⟩))) T 0 1 rfl (fun _ _ _ _ _ => (rf9 (off := 0) rfl (T.ev 3 rfl) (fun _ _ _ => by kernel_rfl))) ?_; clear T ac; intro ac T
  refine gq T 1 3 rfl (fun B w' hD hl hS => (rn_one (Mem.nth (show Mem w noEx w' _ from hS) 0 rfl) rfl (T.ev 0 rfl) rfl)) ?_; clear T ac; intro ac T
  refine gq (v := (.pointer (some ⟨g1, 1, none⟩))) T 2 7 rfl (fun _ _ _ _ _ => (rf9 (off := 1) rfl (T.ev 5 rfl) (fun _ _ _ => by kernel_rfl))) ?_; clear T ac; intro ac T
  refine gq T 3 15 rfl (fun B w' hD hl hS => (rn_one (Mem.nth (show Mem w noEx w' _ from hS) 0 rfl) rfl (T.ev 0 rfl) rfl)) ?_; clear T ac; intro ac T
  refine gq T 4 31 rfl (fun _ _ _ _ _ => (rm9 rfl (T.ev 8 rfl))) ?_; clear T ac; intro ac T
  refine gq (v := (.pointer (some ⟨g1, 3, none⟩))) T 5 63 rfl (fun _ _ _ _ _ => (rf9 (off := 3) rfl (T.ev 8 rfl) (fun _ _ _ => by kernel_rfl))) ?_; clear T ac; intro ac T
  refine gq T 6 127 rfl (fun B w' hD hl hS => (rn_one (Mem.nth (show Mem w noEx w' _ from hS) 0 rfl) rfl (T.ev 0 rfl) rfl)) ?_; clear T ac; intro ac T
  refine gq (v := (.agg #[.int .i64 a.l, .int .i64 a.n, .int .i64 x, .int .i64 a.f])) T 7 255 rfl (fun _ _ _ _ _ => (rn_build rfl (.cons (T.ev 5 rfl) (.cons (T.ev 3 rfl) (.cons (T.ev 2 rfl) (.cons (T.ev 0 rfl) .nil)))) (fun _ => by kernel_rfl))) ?_; clear T ac; intro ac T
  refine gq T 8 511 rfl (fun _ _ _ _ _ => (rm9 rfl (T.ev 12 rfl))) ?_; clear T ac; intro ac T
  refine gq (v := (.pointer (some ⟨g1, 1, none⟩))) T 9 1023 rfl (fun _ _ _ _ _ => (rf9 (off := 1) rfl (T.ev 12 rfl) (fun _ _ _ => by kernel_rfl))) ?_; clear T ac; intro ac T
  refine gq T 10 2047 rfl (fun B w' hD hl hS => (rn_one (Mem.nth (show Mem w noEx w' _ from hS) 0 rfl) rfl (T.ev 0 rfl) rfl)) ?_; clear T ac; intro ac T
  refine gq (v := (.pointer (some ⟨g1, 2, none⟩))) T 11 4095 rfl (fun _ _ _ _ _ => (rf9 (off := 2) rfl (T.ev 14 rfl) (fun _ _ _ => by kernel_rfl))) ?_; clear T ac; intro ac T
  refine gq T 12 8191 rfl (fun B w' hD hl hS => (rn_one (Mem.nth (show Mem w noEx w' _ from hS) 0 rfl) rfl (T.ev 0 rfl) rfl)) ?_; clear T ac; intro ac T
  refine gq (v := (.pointer (some ⟨g1, 3, none⟩))) T 13 16383 rfl (fun _ _ _ _ _ => (rf9 (off := 3) rfl (T.ev 16 rfl) (fun _ _ _ => by kernel_rfl))) ?_; clear T ac; intro ac T
  refine gq T 14 32767 rfl (fun B w' hD hl hS => (rn_one (Mem.nth (show Mem w noEx w' _ from hS) 0 rfl) rfl (T.ev 0 rfl) rfl)) ?_; clear T ac; intro ac T
  refine gq (v := (.agg #[.int .i64 x, .int .i64 a.n, .int .i64 a.r, .int .i64 a.f])) T 15 65535 rfl (fun _ _ _ _ _ => (rn_build rfl (.cons (T.ev 6 rfl) (.cons (T.ev 4 rfl) (.cons (T.ev 2 rfl) (.cons (T.ev 0 rfl) .nil)))) (fun _ => by kernel_rfl))) ?_; clear T ac; intro ac T
  refine g_m2 (i := 16) (j := 17) (by kernel_rfl) ?_ ?_
  ·refine gi 131071 ?_; intro K hK
   refine ow_al M T rfl rfl rfl rfl ?_; clear M T; intro gr6_16 wc ac M T
   refine so9 hK _ _ (M.mask [false, true] rfl) ?_; clear hK K
   refine gw 17 262143 ?_; intro K hK
   refine ow_al M T rfl rfl rfl rfl ?_; clear M T; intro gr6_17 wc ac M T
   refine so9 hK _ _ (M.mask [false, false, true] rfl) ?_; clear hK K
   exact H0 _ _ ⟨gr6_17, gr6_16, T, M⟩
  refine gi 196607 ?_; intro K hK
  refine ow_al M T rfl rfl rfl rfl ?_; clear M T; intro gr6_17 wc ac M T
  refine so9 hK _ _ (M.mask [false, true] rfl) ?_; clear hK K
  refine gw 16 262143 ?_; intro K hK
  refine ow_al M T rfl rfl rfl rfl ?_; clear M T; intro gr6_16 wc ac M T
  refine so9 hK _ _ (M.mask [false, false, true] rfl) ?_; clear hK K
  exact H0 _ _ ⟨gr6_17, gr6_16, T.pick [1, 0, 2, 3, 4, 5, 6, 7, 8, 9, 10, 11, 12, 13, 14, 15, 16, 17, 18, 19, 20, 21, 22] rfl, M.perm [1, 0, 2] rfl rfl⟩
 intro h2
 have H9 : ∀ z, a.l < z → z < a.r → ¬ (splI l (a.al z) (a.ar z) = true ∧ sawB (splA l (a.al z) (a.ar z)) (a.al z) = true ∧ sawB (splB l (a.al z) (a.ar z)) (a.ar z) = true) := fun z h1 h2 => H z h1 (by omega)
 refine wp_exit ?_
 refine ex_then ?_
 refine ex_then ?_
 refine ex_hit ?_
 refine nt9 ?_
 refine wp_seq ?_
 refine wp_seq ?_
 refine wp_region_lit ?_
 refine lq (v := (.pointer (some ⟨g1, 1, none⟩))) T (rf9 (off := 1) rfl (T.ev 3 rfl) (fun _ _ _ => by kernel_rfl)) ?_; clear T ac; intro ac T
 refine lq T (rn_one (Mem.nth M 0 rfl) rfl (T.ev 0 rfl) rfl) ?_; clear T ac; intro ac T
 refine lq T (rn_add rfl (T.ev 0 rfl) evc (by omega)) ?_; clear T ac; intro ac T
 refine lq T (ra9 rfl (T.ev 0 rfl)) ?_; clear T ac; intro ac T
 refine wpList_nil ?_
 replace T := T.pick [0, 5, 6, 7] rfl
 refine nt9 ?_
 refine wp_block ?_
 refine wp_loop_n (fun mz ac wc => ∃ (y : Int), mz = (1001 - y).toNat ∧ (a.n < y) ∧ (y ≤ max (a.n + 1) a.f) ∧ (∀ z, a.n < z → z < y → ¬ (splI l (a.cl z) (a.cr z) = true ∧ sawB (splA l (a.cl z) (a.cr z)) (a.cl z) = true ∧ sawB (splB l (a.cl z) (a.cr z)) (a.cr z) = true)) ∧ Tm ac 113 [(0, .slice L l.length n), (2, .pointer (some ⟨gc, 0, none⟩)), (4, .pointer (some ⟨g1, 0, none⟩)), (12, .int .i64 y)] ∧ Mem w noEx wc [(g1, .cells [.int .i64 a.l, .int .i64 a.n, .int .i64 a.r, .int .i64 a.f])]) ?_ ?_
 ·exact ⟨_, _, rfl, (by omega), (by omega), (fun z h1 h2 => by omega), T.pick [1, 2, 3, 0] rfl, M.mask [true] rfl⟩
 clear T M
 rintro mz ac wc ⟨y, hmm2, hy1, hy2, K, T, M⟩
 refine wp_seq ?_
 refine wp_seq ?_
 refine wp_region_lit ?_
 refine lq T (rm9 rfl (T.ev 3 rfl)) ?_; clear T ac; intro ac T
 refine lq (v := (.pointer (some ⟨g1, 3, none⟩))) T (rf9 (off := 3) rfl (T.ev 3 rfl) (fun _ _ _ => by kernel_rfl)) ?_; clear T ac; intro ac T
 refine lq T (rn_one (Mem.nth M 0 rfl) rfl (T.ev 0 rfl) rfl) ?_; clear T ac; intro ac T
 refine lq T (rn_lss rfl (T.ev 2 rfl) (T.ev 0 rfl)) ?_; clear T ac; intro ac T
 refine wpList_nil ?_
 replace T := T.pick [0, 4, 5, 6, 7] rfl
 refine nt9 ?_
 refine wp_if (T.ev 0 rfl) ?_ ?_
 ·intro h6
  refine wp_skip ?_
  refine nt9 ?_
  refine wp_seq ?_
  refine wp_block ?_
  refine wp_seq ?_
  refine g_start2 M (M.mask [true] rfl) 20 (by kernel_rfl) rfl (by kernel_rfl) ?_
  clear M; intro wc M
  refine g_have (fun ac wc => ∃ (gr13_17 gr13_16 : Nat), Tm ac 113 [(14, .pointer (some ⟨gr13_17, 0, none⟩)), (13, .pointer (some ⟨gr13_16, 0, none⟩)), (91, .agg #[.int .i64 a.l, .int .i64 y, .int .i64 a.r, .int .i64 a.f]), (90, .int .i64 a.f), (89, .pointer (some ⟨g1, 3, none⟩)), (88, .int .i64 a.r), (87, .pointer (some ⟨g1, 2, none⟩)), (86, .int .i64 y), (85, .int .i64 a.l), (84, .pointer (some ⟨g1, 0, none⟩)), (83, .agg #[.int .i64 a.l, .int .i64 a.n, .int .i64 a.r, .int .i64 y]), (82, .int .i64 y), (81, .int .i64 a.r), (80, .pointer (some ⟨g1, 2, none⟩)), (79, .int .i64 a.n), (78, .pointer (some ⟨g1, 1, none⟩)), (77, .int .i64 a.l), (76, .pointer (some ⟨g1, 0, none⟩)), (73, .bool (decide (y < a.f))), (0, .slice L l.length n), (2, .pointer (some ⟨gc, 0, none⟩)), (4, .pointer (some ⟨g1, 0, none⟩)), (12, .int .i64 y)] ∧ Mem w noEx wc [(gr13_17, .cells [.int .i64 0, .int .i64 0, .int .i64 0, .int .i64 0]), (gr13_16, .cells [.int .i64 0, .int .i64 0, .int .i64 0, .int .i64 0]), (g1, .cells [.int .i64 a.l, .int .i64 a.n, .int .i64 a.r, .int .i64 a.f])]) (pbits 20 262143) 2 ?_ ?_
  ·clear T M
   rintro ac wc ⟨gr13_17, gr13_16, T, M⟩
   refine gw 18 524287 ?_; intro K hK
   refine ow_stO M T rfl rfl (T.ev 1 rfl) (T.ev 10 rfl) rfl (.tail .head) rfl (by simp) rfl (by kernel_rfl) ?_; clear M T; intro wc ac M T
   refine so9 hK _ _ (M.mask [false, false, true] rfl) ?_; clear hK K
   refine gw 19 1048575 ?_; intro K hK
   refine ow_stO M T rfl rfl (T.ev 0 rfl) (T.ev 2 rfl) rfl .head rfl (by simp) rfl (by kernel_rfl) ?_; clear M T; intro wc ac M T
   refine so9 hK _ _ (M.mask [false, false, true] rfl) ?_; clear hK K
   refine g_done (by kernel_rfl) ?_
   replace T := T.pick [0, 1, 19, 20, 21, 22] rfl
   refine nt9 ?_
   refine wp_seq ?_
   refine wp_region_lit ?_
   refine lq T (rm9 rfl (T.ev 2 rfl)) ?_; clear T ac; intro ac T
   refine lq T (rn_rowO (Mem.nth M 1 rfl) rfl (T.ev 2 rfl) rfl) ?_; clear T ac; intro ac T
   refine lq T (rn_rowO (Mem.nth M 0 rfl) rfl (T.ev 2 rfl) rfl) ?_; clear T ac; intro ac T
   refine l_w rfl ?_; intro K hK
   refine oc9 (first := []) (cap := []) T rfl rfl rfl rfl evf (.cons (T.ev 2 rfl) (.cons (T.ev 1 rfl) (.cons (T.ev 0 rfl) .nil))) Tryd.func103 rfl rfl ?_
   refine Calls.mono (split_any L n l (a.cl y) (a.cr y) _ (SL.rd M (List.nil_sublist _)) (by omega)) ?_
   clear T
   rintro e wc ⟨Au4, cAu4, IAu4, Bu4, cBu4, IBu4, rfl, SVAu4, SVBu4, N⟩
   intro ac T
   obtain ⟨bAu4, oAu4, SVAu4⟩ := SVAu4
   have SAu4 := SVAu4 w noEx
   obtain ⟨bBu4, oBu4, SVBu4⟩ := SVBu4
   have SBu4 := SVBu4 w noEx
   replace M := (M.join N).swapI
   clear N
   replace M : Mem w noEx wc ((gr13_17, .cells [.int .i64 a.l, .int .i64 y, .int .i64 a.r, .int .i64 a.f]) :: (gr13_16, .cells [.int .i64 a.l, .int .i64 a.n, .int .i64 a.r, .int .i64 y]) :: (g1, .cells [.int .i64 a.l, .int .i64 a.n, .int .i64 a.r, .int .i64 a.f]) :: (IAu4 ++ IBu4)) := M
   have hlAu4 : (splA l (a.cl y) (a.cr y)).length ≤ l.length := splA_le
   have hlBu4 : (splB l (a.cl y) (a.cr y)).length ≤ l.length := splB_le
   refine so9 hK _ _ ?_; clear hK K
   refine lq T (rm9 rfl (T.ev 0 rfl)) ?_; clear T ac; intro ac T
   refine lq T (rn_extract rfl (T.ev 0 rfl) rfl) ?_; clear T ac; intro ac T
   refine lq T (rn_extract rfl (T.ev 1 rfl) rfl) ?_; clear T ac; intro ac T
   refine lq T (rn_extract rfl (T.ev 2 rfl) rfl) ?_; clear T ac; intro ac T
   refine lq T (ra9 rfl (T.ev 2 rfl)) ?_; clear T ac; intro ac T
   refine lq T (ra9 rfl (T.ev 2 rfl)) ?_; clear T ac; intro ac T
   refine lq T (ra9 rfl (T.ev 2 rfl)) ?_; clear T ac; intro ac T
   refine wpList_nil ?_
   replace T := T.pick [0, 1, 2, 11, 12, 13, 14, 15, 16] rfl
   refine nt9 ?_
   refine cut_seq (fun ac wc => Tm ac 113 [(0, .slice L l.length n), (2, .pointer (some ⟨gc, 0, none⟩)), (4, .pointer (some ⟨g1, 0, none⟩)), (12, .int .i64 y), (112, .bool ((splI l (a.cl y) (a.cr y)) && ((sawB (splA l (a.cl y) (a.cr y)) (a.cl y)) && (sawB (splB l (a.cl y) (a.cr y)) (a.cr y)))))] ∧ Mem w noEx wc ((g1, .cells [.int .i64 a.l, .int .i64 a.n, .int .i64 a.r, .int .i64 a.f]) :: (IAu4 ++ IBu4))) ?_ ?_
   ·refine wp_region_lit ?_
    refine lq T (rm9 rfl (T.ev 0 rfl)) ?_; clear T ac; intro ac T
    refine lq T (rm9 rfl (T.ev 0 rfl)) ?_; clear T ac; intro ac T
    rcases Bool.eq_false_or_eq_true (splI l (a.cl y) (a.cr y)) with h7 | h7
    ·refine lw T (wy9 rfl rfl (T.ev 0 rfl) h7) (rn_one (Mem.old M qc (fun h => h)) rfl (T.ev 8 rfl) rfl) ?_; clear T ac; intro ac T
     refine lw T (wy9 rfl rfl (T.ev 1 rfl) h7) (rm9 rfl (T.ev 5 rfl)) ?_; clear T ac; intro ac T
     refine lw T (wy9 rfl rfl (T.ev 2 rfl) h7) (rn_rowO (Mem.nth M 1 rfl) rfl (T.ev 8 rfl) rfl) ?_; clear T ac; intro ac T
     refine l_w (wy9 rfl rfl (T.ev 3 rfl) h7) ?_; intro K hK
     refine oc9 (first := []) (cap := [.pointer (some ⟨gc, 0, none⟩)]) T rfl rfl rfl rfl (T.ev 2 rfl) (.cons (T.ev 1 rfl) (.cons (T.ev 0 rfl) .nil)) Tryd.func102 rfl rfl ?_
     refine Calls.mono (ih (splA l (a.cl y) (a.cr y)) Au4 cAu4 (a.cl y) _ (by have := splI_len (l := l) (one := (a.cl y)) (two := (a.cr y)) (by simp_all); omega) (by omega) (by dsimp only [Ar.al, Ar.ar, Ar.cl, Ar.cr]; omega) (SAu4.rd M (.cons _ (.cons _ (.cons _ (subL (List.Sublist.refl _)))))) (M.old qc (fun h => h))) ?_
     clear T
     rintro e wc ⟨rfl, hb⟩
     intro ac T
     replace M := M.call hb; clear hb
     refine so9 hK _ _ ?_; clear hK K
     refine lq T (rn_pick1 rfl (T.ev 4 rfl) h7 (T.ev 0 rfl)) ?_; clear T ac; intro ac T
     refine lq T (rm9 rfl (T.ev 0 rfl)) ?_; clear T ac; intro ac T
     rcases Bool.eq_false_or_eq_true (sawB (splA l (a.cl y) (a.cr y)) (a.cl y)) with h8 | h8
     ·refine lw T (wy9 rfl rfl (T.ev 0 rfl) h8) (rn_one (Mem.old M qc (fun h => h)) rfl (T.ev 14 rfl) rfl) ?_; clear T ac; intro ac T
      refine lw T (wy9 rfl rfl (T.ev 1 rfl) h8) (rm9 rfl (T.ev 10 rfl)) ?_; clear T ac; intro ac T
      refine lw T (wy9 rfl rfl (T.ev 2 rfl) h8) (rn_rowO (Mem.nth M 0 rfl) rfl (T.ev 13 rfl) rfl) ?_; clear T ac; intro ac T
      refine l_w (wy9 rfl rfl (T.ev 3 rfl) h8) ?_; intro K hK
      refine oc9 (first := []) (cap := [.pointer (some ⟨gc, 0, none⟩)]) T rfl rfl rfl rfl (T.ev 2 rfl) (.cons (T.ev 1 rfl) (.cons (T.ev 0 rfl) .nil)) Tryd.func102 rfl rfl ?_
      refine Calls.mono (ih (splB l (a.cl y) (a.cr y)) Bu4 cBu4 (a.cr y) _ (by have := splI_len (l := l) (one := (a.cl y)) (two := (a.cr y)) (by simp_all); omega) (by omega) (by dsimp only [Ar.al, Ar.ar, Ar.cl, Ar.cr]; omega) (SBu4.rd M (.cons _ (.cons _ (.cons _ (List.sublist_append_right _ _))))) (M.old qc (fun h => h))) ?_
      clear T
      rintro e wc ⟨rfl, hb⟩
      intro ac T
      replace M := M.call hb; clear hb
      refine so9 hK _ _ ?_; clear hK K
      refine lq T (rn_pick1 rfl (T.ev 4 rfl) h8 (T.ev 0 rfl)) ?_; clear T ac; intro ac T
      refine wpList_nil ?_
      replace T := T.pick [0, 1, 2, 3, 4, 7, 8, 9, 10, 18, 19, 20, 21] rfl
      replace M := M.mask [false, false, true] rfl
      exact ⟨(T.pick (E' := [(0, .slice L l.length n), (2, .pointer (some ⟨gc, 0, none⟩)), (4, .pointer (some ⟨g1, 0, none⟩)), (12, .int .i64 y), (112, .bool (sawB (splB l (a.cl y) (a.cr y)) (a.cr y)))]) [9, 10, 11, 12, 0] rfl).as (by (try rw [show (splI l (a.cl y) (a.cr y)) = true from h7]); (try rw [show (sawB (splA l (a.cl y) (a.cr y)) (a.cl y)) = true from h8]); (try rfl)), M.mask [true] rfl⟩
     refine lp T (wn9 rfl rfl (T.ev 0 rfl) h8) ?_; clear T ac; intro ac T
     refine lp T (wn9 rfl rfl (T.ev 1 rfl) h8) ?_; clear T ac; intro ac T
     refine lp T (wn9 rfl rfl (T.ev 2 rfl) h8) ?_; clear T ac; intro ac T
     refine lp T (wn9 rfl rfl (T.ev 3 rfl) h8) ?_; clear T ac; intro ac T
     refine lq T (rn_pick0 rfl (T.ev 4 rfl) h8 evc) ?_; clear T ac; intro ac T
     refine wpList_nil ?_
     replace T := T.pick [0, 1, 2, 3, 4, 7, 8, 9, 10, 18, 19, 20, 21] rfl
     replace M := M.mask [false, false, true] rfl
     exact ⟨(T.pick (E' := [(0, .slice L l.length n), (2, .pointer (some ⟨gc, 0, none⟩)), (4, .pointer (some ⟨g1, 0, none⟩)), (12, .int .i64 y), (112, .bool false)]) [9, 10, 11, 12, 0] rfl).as (by (try rw [show (splI l (a.cl y) (a.cr y)) = true from h7]); (try rw [show (sawB (splA l (a.cl y) (a.cr y)) (a.cl y)) = false from h8]); (try rfl)), M.mask [true] rfl⟩
    refine lp T (wn9 rfl rfl (T.ev 0 rfl) h7) ?_; clear T ac; intro ac T
    refine lp T (wn9 rfl rfl (T.ev 1 rfl) h7) ?_; clear T ac; intro ac T
    refine lp T (wn9 rfl rfl (T.ev 2 rfl) h7) ?_; clear T ac; intro ac T
    refine lp T (wn9 rfl rfl (T.ev 3 rfl) h7) ?_; clear T ac; intro ac T
    refine lq T (rn_pick0 rfl (T.ev 4 rfl) h7 evc) ?_; clear T ac; intro ac T
    refine lq T (rm9 rfl (T.ev 0 rfl)) ?_; clear T ac; intro ac T
    refine lp T (wn9 rfl rfl (T.ev 0 rfl) rfl) ?_; clear T ac; intro ac T
    refine lp T (wn9 rfl rfl (T.ev 1 rfl) rfl) ?_; clear T ac; intro ac T
    refine lp T (wn9 rfl rfl (T.ev 2 rfl) rfl) ?_; clear T ac; intro ac T
    refine lp T (wn9 rfl rfl (T.ev 3 rfl) rfl) ?_; clear T ac; intro ac T
    refine lq T (rn_pick0 rfl (T.ev 4 rfl) rfl evc) ?_; clear T ac; intro ac T
    refine wpList_nil ?_
    replace T := T.pick [0, 1, 2, 3, 4, 7, 8, 9, 10, 18, 19, 20, 21] rfl
    replace M := M.mask [false, false, true] rfl
    exact ⟨(T.pick (E' := [(0, .slice L l.length n), (2, .pointer (some ⟨gc, 0, none⟩)), (4, .pointer (some ⟨g1, 0, none⟩)), (12, .int .i64 y), (112, .bool false)]) [9, 10, 11, 12, 0] rfl).as (by (try rw [show (splI l (a.cl y) (a.cr y)) = false from h7]); (try rfl)), M.mask [true] rfl⟩
   clear T M
   rintro ac wc ⟨T, M⟩
   refine wp_cond_split (T.ev 4 rfl) ?_ ?_
   ·intro h9
    (try have h9' := h9; try simp only [Bool.and_eq_true, Bool.or_eq_true, Bool.not_eq_true', Bool.and_eq_false_imp, Bool.or_eq_false_iff, decide_eq_true_eq, decide_eq_false_iff_not] at h9')
    refine wp_seq ?_
    refine wp_region_lit ?_
    refine lq T (ra9 rfl evc) ?_; clear T ac; intro ac T
    refine wpList_nil ?_
    replace T := T.pick [0] rfl
    replace M := M.mask [false] rfl
    refine nt9 ?_
    refine wp_ret ?_
    refine rt_blk ?_
    refine rt_then ?_
    refine rt_then ?_
    refine rt_blk ?_
    refine rt_then ?_
    refine rt_1 T rfl (T.ev 0 rfl) ?_
    have e9 : sawB l a = true := saw_across y (by omega) (by omega) (by simp_all) (by simp_all) (by simp_all)
    exact ⟨ret_bool e9.symm, M.below⟩
   intro h9
   (try have h9' := h9; try simp only [Bool.and_eq_true, Bool.or_eq_true, Bool.not_eq_true', Bool.and_eq_false_imp, Bool.or_eq_false_iff, decide_eq_true_eq, decide_eq_false_iff_not] at h9')
   refine wp_skip ?_
   refine nm_blk ?_
   refine nt9 ?_
   refine wp_region_lit ?_
   refine lq T (rm9 rfl (T.ev 3 rfl)) ?_; clear T ac; intro ac T
   refine lq T (rn_add rfl (T.ev 0 rfl) evc (by omega)) ?_; clear T ac; intro ac T
   refine l_q (v := (.int .i64 (y + 1))) (T.pick [0, 1, 2, 3, 4, 6] rfl) rfl rfl rfl rfl (ra9 rfl (T.ev 0 rfl)) ?_; clear T ac; intro ac T
   refine wpList_nil ?_
   replace T := T.pick [0, 3, 4, 5] rfl
   refine nt9 ?_
   exact ⟨_, by omega, _, rfl, (by omega), (by omega), (fun z h1 h2 => by rcases Int.lt_or_eq_of_le (show z ≤ y by omega) with h3 | h3; exact K z h1 h3; subst h3; rintro ⟨k1, k2, k3⟩; simp_all), T.pick [1, 2, 3, 0] rfl, ((M.permT [0] 1 rfl rfl rfl rfl).sub (List.sublist_append_left ([(g1, .cells [.int .i64 a.l, .int .i64 a.n, .int .i64 a.r, .int .i64 a.f])] : List (Nat × BA)) _))⟩
  intro H0
  refine gq (v := (.pointer (some ⟨g1, 0, none⟩))) T 0 1 rfl (fun _ _ _ _ _ => (rf9 (off := 0) rfl (T.ev 3 rfl) (fun _ _ _ => by kernel_rfl))) ?_; clear T ac; intro ac T
  refine gq T 1 3 rfl (fun B w' hD hl hS => (rn_one (Mem.nth (show Mem w noEx w' _ from hS) 0 rfl) rfl (T.ev 0 rfl) rfl)) ?_; clear T ac; intro ac T
  refine gq (v := (.pointer (some ⟨g1, 1, none⟩))) T 2 7 rfl (fun _ _ _ _ _ => (rf9 (off := 1) rfl (T.ev 5 rfl) (fun _ _ _ => by kernel_rfl))) ?_; clear T ac; intro ac T
  refine gq T 3 15 rfl (fun B w' hD hl hS => (rn_one (Mem.nth (show Mem w noEx w' _ from hS) 0 rfl) rfl (T.ev 0 rfl) rfl)) ?_; clear T ac; intro ac T
  refine gq (v := (.pointer (some ⟨g1, 2, none⟩))) T 4 31 rfl (fun _ _ _ _ _ => (rf9 (off := 2) rfl (T.ev 7 rfl) (fun _ _ _ => by kernel_rfl))) ?_; clear T ac; intro ac T
  refine gq T 5 63 rfl (fun B w' hD hl hS => (rn_one (Mem.nth (show Mem w noEx w' _ from hS) 0 rfl) rfl (T.ev 0 rfl) rfl)) ?_; clear T ac; intro ac T
  refine gq T 6 127 rfl (fun _ _ _ _ _ => (rm9 rfl (T.ev 10 rfl))) ?_; clear T ac; intro ac T
  refine gq (v := (.agg #[.int .i64 a.l, .int .i64 a.n, .int .i64 a.r, .int .i64 y])) T 7 255 rfl (fun _ _ _ _ _ => (rn_build rfl (.cons (T.ev 5 rfl) (.cons (T.ev 3 rfl) (.cons (T.ev 1 rfl) (.cons (T.ev 0 rfl) .nil)))) (fun _ => by kernel_rfl))) ?_; clear T ac; intro ac T
  refine gq (v := (.pointer (some ⟨g1, 0, none⟩))) T 8 511 rfl (fun _ _ _ _ _ => (rf9 (off := 0) rfl (T.ev 11 rfl) (fun _ _ _ => by kernel_rfl))) ?_; clear T ac; intro ac T
  refine gq T 9 1023 rfl (fun B w' hD hl hS => (rn_one (Mem.nth (show Mem w noEx w' _ from hS) 0 rfl) rfl (T.ev 0 rfl) rfl)) ?_; clear T ac; intro ac T
  refine gq T 10 2047 rfl (fun _ _ _ _ _ => (rm9 rfl (T.ev 14 rfl))) ?_; clear T ac; intro ac T
  refine gq (v := (.pointer (some ⟨g1, 2, none⟩))) T 11 4095 rfl (fun _ _ _ _ _ => (rf9 (off := 2) rfl (T.ev 14 rfl) (fun _ _ _ => by kernel_rfl))) ?_; clear T ac; intro ac T
  refine gq T 12 8191 rfl (fun B w' hD hl hS => (rn_one (Mem.nth (show Mem w noEx w' _ from hS) 0 rfl) rfl (T.ev 0 rfl) rfl)) ?_; clear T ac; intro ac T
  refine gq (v := (.pointer (some ⟨g1, 3, none⟩))) T 13 16383 rfl (fun _ _ _ _ _ => (rf9 (off := 3) rfl (T.ev 16 rfl) (fun _ _ _ => by kernel_rfl))) ?_; clear T ac; intro ac T
  refine gq T 14 32767 rfl (fun B w' hD hl hS => (rn_one (Mem.nth (show Mem w noEx w' _ from hS) 0 rfl) rfl (T.ev 0 rfl) rfl)) ?_; clear T ac; intro ac T
  refine gq (v := (.agg #[.int .i64 a.l, .int .i64 y, .int .i64 a.r, .int .i64 a.f])) T 15 65535 rfl (fun _ _ _ _ _ => (rn_build rfl (.cons (T.ev 5 rfl) (.cons (T.ev 4 rfl) (.cons (T.ev 2 rfl) (.cons (T.ev 0 rfl) .nil)))) (fun _ => by kernel_rfl))) ?_; clear T ac; intro ac T
  refine g_m2 (i := 16) (j := 17) (by kernel_rfl) ?_ ?_
  ·refine gi 131071 ?_; intro K hK
   refine ow_al M T rfl rfl rfl rfl ?_; clear M T; intro gr13_16 wc ac M T
   refine so9 hK _ _ (M.mask [false, true] rfl) ?_; clear hK K
   refine gw 17 262143 ?_; intro K hK
   refine ow_al M T rfl rfl rfl rfl ?_; clear M T; intro gr13_17 wc ac M T
   refine so9 hK _ _ (M.mask [false, false, true] rfl) ?_; clear hK K
   exact H0 _ _ ⟨gr13_17, gr13_16, T, M⟩
  refine gi 196607 ?_; intro K hK
  refine ow_al M T rfl rfl rfl rfl ?_; clear M T; intro gr13_17 wc ac M T
  refine so9 hK _ _ (M.mask [false, true] rfl) ?_; clear hK K
  refine gw 16 262143 ?_; intro K hK
  refine ow_al M T rfl rfl rfl rfl ?_; clear M T; intro gr13_16 wc ac M T
  refine so9 hK _ _ (M.mask [false, false, true] rfl) ?_; clear hK K
  exact H0 _ _ ⟨gr13_17, gr13_16, T.pick [1, 0, 2, 3, 4, 5, 6, 7, 8, 9, 10, 11, 12, 13, 14, 15, 16, 17, 18, 19, 20, 21, 22] rfl, M.perm [1, 0, 2] rfl rfl⟩
 intro h6
 have K9 : ∀ z, a.n < z → z < a.f → ¬ (splI l (a.cl z) (a.cr z) = true ∧ sawB (splA l (a.cl z) (a.cr z)) (a.cl z) = true ∧ sawB (splB l (a.cl z) (a.cr z)) (a.cr z) = true) := fun z h1 h2 => K z h1 (by omega)
 refine wp_exit ?_
 refine ex_then ?_
 refine ex_then ?_
 refine ex_hit ?_
 refine nt9 ?_
 refine wp_seq ?_
 refine wp_region_lit ?_
 refine lq T (ra9 rfl evc) ?_; clear T ac; intro ac T
 refine wpList_nil ?_
 replace T := T.pick [0] rfl
 replace M := M.mask [false] rfl
 refine nt9 ?_
 refine wp_ret ?_
 refine rt_1 T rfl (T.ev 0 rfl) ?_
 have e9 : sawB l a = false := saw_not (by omega) H9 K9
 exact ⟨ret_bool e9.symm, M.below⟩
theorem saw_any (gc : Nat) : ∀ m : Nat, SawSpec gc m
 | 0 => fun l L n a w h => by omega
 | m + 1 => fun l L n a w h nL hb hL qc => saw_step gc m l L n a w (saw_any gc m) h nL hb hL qc
theorem sawn_any (l : List Ld) (L : Option Addr) (n : Nat) (a : Ar) (w : World) (nL : l.length ≤ 1000000) (hb : (0 ≤ a.l ∧ a.l ≤ 1000) ∧ (0 ≤ a.n ∧ a.n ≤ 1000) ∧ (0 ≤ a.r ∧ a.r ≤ 1000) ∧ (0 ≤ a.f ∧ a.f ≤ 1000)) (hL : Rd w w.heap.size 5 L l.length (dc l)) :
  Calls Tryd.prog 74 #[.slice L l.length n, .agg #[.int .i64 a.l, .int .i64 a.n, .int .i64 a.r, .int .i64 a.f]] w fun e w' => e = .returned (.bool (sawB l a)) ∧ Below w.heap.size w w' := by
 obtain ⟨bL, oL, SL⟩ := Sp.old hL
 refine px_enter noEx Tryd.func74 rfl 11 rfl [.slice L l.length n, .agg #[.int .i64 a.l, .int .i64 a.n, .int .i64 a.r, .int .i64 a.f]] rfl rfl (Mem.init w _) ?_
 intro ac wc T M
 refine wp_seq ?_
 refine wp_region_lit ?_
 refine l_w rfl ?_; intro K hK
 refine ow_bx M T rfl rfl rfl rfl (T.ev 1 rfl) rfl ?_; clear M T; intro g1 wc ac M T
 refine so9 hK _ _ ?_; clear hK K
 refine lq T (ra9 rfl evc) ?_; clear T ac; intro ac T
 refine wpList_nil ?_
 replace T := T.pick [1, 2] rfl
 refine nt9 ?_
 refine wp_seq ?_
 refine wp_region_lit ?_
 refine l_w rfl ?_; intro K hK
 refine ow_al M T rfl rfl rfl rfl ?_; clear M T; intro g2 wc ac M T
 refine so9 hK _ _ ?_; clear hK K
 refine wpList_nil ?_
 refine nt9 ?_
 refine wp_seq ?_
 refine wp_region_lit ?_
 refine lq (v := (.func (.func 102) #[] #[.pointer (some ⟨g2, 0, none⟩)])) T (rn_makeFunc rfl .nil (.cons (T.ev 0 rfl) .nil)) ?_; clear T ac; intro ac T
 refine l_w rfl ?_; intro K hK
 refine ow_stO M T rfl rfl (T.ev 1 rfl) (T.ev 0 rfl) rfl .head rfl (by simp) rfl (by kernel_rfl) ?_; clear M T; intro wc ac M T
 refine so9 hK _ _ ?_; clear hK K
 refine wpList_nil ?_
 replace T := T.pick [1, 2, 3] rfl
 refine nt9 ?_
 refine wp_seq ?_
 refine wp_region_lit ?_
 refine lq T (rn_one (Mem.nth M 0 rfl) rfl (T.ev 0 rfl) rfl) ?_; clear T ac; intro ac T
 refine lq T (rm9 rfl (T.ev 3 rfl)) ?_; clear T ac; intro ac T
 refine lq T (rn_rowO (Mem.nth M 1 rfl) rfl (T.ev 3 rfl) rfl) ?_; clear T ac; intro ac T
 refine l_w rfl ?_; intro K hK
 refine oc9 (first := []) (cap := [.pointer (some ⟨g2, 0, none⟩)]) T rfl rfl rfl rfl (T.ev 2 rfl) (.cons (T.ev 1 rfl) (.cons (T.ev 0 rfl) .nil)) Tryd.func102 rfl rfl ?_
 refine Calls.mono (saw_any g2 (l.length + 1) l L n a _ (by omega) nL hb (SL.rd M (List.nil_sublist _)) (M.nth 0 rfl)) ?_
 clear T
 rintro e wc ⟨rfl, hb⟩
 intro ac T
 replace M := M.call hb; clear hb
 refine so9 hK _ _ ?_; clear hK K
 refine lq T (ra9 rfl (T.ev 0 rfl)) ?_; clear T ac; intro ac T
 refine wpList_nil ?_
 replace T := T.pick [0] rfl
 replace M := M.mask [false, false] rfl
 refine nt9 ?_
 refine wp_ret ?_
 refine rt_1 T rfl (T.ev 0 rfl) ?_
 exact ⟨rfl, M.below⟩
end Go.Proofs.YtehpcclfgjccbaaDoor
end

section
/-
 sheet: Cuts.
-/
namespace Go.Proofs.YtehpcclfgjccbaaDoor
set_option linter.unusedSimpArgs false
set_option linter.unusedVariables false
open Go.RowKit
theorem eqT102 {x y : Operand} {a0 a1 a2 a3 b0 b1 b2 b3 : Int} {w : World} : (do eqGuard .eql 102 x y (.agg #[.int .i64 a0, .int .i64 a1, .int .i64 a2, .int .i64 a3]) (.agg #[.int .i64 b0, .int .i64 b1, .int .i64 b2, .int .i64 b3]); binOp .eql 102 (.agg #[.int .i64 a0, .int .i64 a1, .int .i64 a2, .int .i64 a3]) (.agg #[.int .i64 b0, .int .i64 b1, .int .i64 b2, .int .i64 b3]) : Sem Value).run Tryd.prog w = .ok (.bool ((decide (a0 = b0) && (decide (a1 = b1) && (decide (a2 = b2) && decide (a3 = b3)))))) w := by
 go_simp
 (repeat' split) <;> simp_all
def cutsE (s : Sk) (g : List Int) (n : Nat) : Int := if lstE s g ≠ 0 then lstE s g else if n < g.length then 7 else if g.length < n then 6 else 0
noncomputable def cutsV (s : Sk) (g : List Int) (sp : List Spt) (su : Bool) : Bool := if cutsE s g sp.length = 0 then cutsB (cutA s su) (cutC s su) s.lo s.wi (gP s g) sp else false
theorem plP_step {a c lo wi : Int} {all : List Ld} {p : Pt} {q : Spt} {L : List Pt} {S : List Spt} : plP a c lo wi all (p :: L) (q :: S) = if badP a c lo wi p q = true then none else if hitP all (ldOf a c p q all.length) = true then none else plP a c lo wi (all ++ [ldOf a c p q all.length]) L S := rfl
theorem hit_snoc {all : List Ld} {j : Nat} {z o : Ld} (h : all[j]? = some z) : hitP (all.take (j + 1)) o = (hitP (all.take j) o || (decide (z.ar = o.ar) || overP z.ar o.ar)) := by
 rw [List.take_add_one, h, hitP, List.any_append]
 simp [hitP]
theorem hit_of {all : List Ld} {z o : Ld} (h : z ∈ all) (h2 : (decide (z.ar = o.ar) || overP z.ar o.ar) = true) : hitP all o = true := List.any_eq_true.2 ⟨z, h, h2⟩
theorem bad_eq {a c lo wi : Int} {p : Pt} {q : Spt} : badP a c lo wi p q = (bif q.t then (p.gr || ((!(withinB q.x 0 (lo - (sizeL a c p q.t)))) || (!(withinB q.y 0 (wi - (sizeW a c p q.t)))))) else ((!(withinB q.x 0 (lo - (sizeL a c p q.t)))) || (!(withinB q.y 0 (wi - (sizeW a c p q.t)))))) := by
 unfold badP withinB
 cases q.t <;> simp [Bool.or_assoc]
theorem bad_not {a c lo wi : Int} {p : Pt} {q : Spt} (h : badP a c lo wi p q = false) : (0 ≤ q.x ∧ q.x ≤ lo - sizeL a c p q.t) ∧ 0 ≤ q.y ∧ q.y ≤ wi - sizeW a c p q.t := by
 simp only [badP, Bool.or_eq_false_iff, Bool.not_eq_false', Bool.and_eq_true, decide_eq_true_eq] at h
 exact ⟨h.1.2, h.2⟩
theorem hit_eq {z o : Ld} : (decide (z.ar = o.ar) || overP z.ar o.ar) = ((decide (z.l = o.l) && (decide (z.n = o.n) && (decide (z.r = o.r) && decide (z.f = o.f)))) || overP z.ar o.ar) := by
 congr 1
 rw [Bool.eq_iff_iff]
 simp only [Ld.ar, Ar.mk.injEq, Bool.and_eq_true, decide_eq_true_eq]
set_option maxHeartbeats 4000000 in
theorem Cuts_any (s : Sk) (A : Option Addr) (d : Nat) (G : Option Addr) (n : Nat) (g : List Int) (P : Option Addr) (np : Nat) (sp : List Spt) (su : Bool)  (w : World) (hA : Rd w w.heap.size 4 A s.ps.length (pc s.ps)) (hG : Rd w w.heap.size 1 G g.length (ic g)) (nA : s.ps.length ≤ 1000000) (nG : g.length ≤ 1000000) (hgn : g.length ≤ n) (hP : Rd w w.heap.size 3 P sp.length (tc sp)) (nP : sp.length ≤ 1000000) :
   Calls Tryd.prog 27 #[.agg #[.int .i64 s.lo, .int .i64 s.wi, .int .i64 s.a0, .int .i64 s.a1, .int .i64 s.c0, .int .i64 s.c1, .slice A s.ps.length d], .slice G g.length n, .slice P sp.length np, .bool su] w fun e w' => e = .returned (.tuple #[.bool (cutsV s g sp su), .int .i64 (cutsE s g sp.length)]) ∧ Below w.heap.size w w' := by
 obtain ⟨bA, oA, SA⟩ := Sp.old hA
 obtain ⟨bG, oG, SG⟩ := Sp.old hG
 obtain ⟨bP, oP, SP⟩ := Sp.old hP
 refine px_enter noEx Tryd.func27 rfl 147 rfl [.agg #[.int .i64 s.lo, .int .i64 s.wi, .int .i64 s.a0, .int .i64 s.a1, .int .i64 s.c0, .int .i64 s.c1, .slice A s.ps.length d], .slice G g.length n, .slice P sp.length np, .bool su] rfl rfl (Mem.init w _) ?_
 intro ac wc T M
 refine wp_seq ?_
 refine wp_region_lit ?_
 refine l_w rfl ?_; intro K hK
 refine ow_bx M T rfl rfl rfl rfl (T.ev 0 rfl) rfl ?_; clear M T; intro g1 wc ac M T
 refine so9 hK _ _ ?_; clear hK K
 refine lq T (ra9 rfl evc) ?_; clear T ac; intro ac T
 refine lq T (ra9 rfl evc) ?_; clear T ac; intro ac T
 refine wpList_nil ?_
 replace T := T.pick [2, 4, 5, 6] rfl
 refine nt9 ?_
 refine wp_seq ?_
 refine wp_region_lit ?_
 refine lq T (rn_rowO (Mem.nth M 0 rfl) rfl (T.ev 0 rfl) rfl) ?_; clear T ac; intro ac T
 refine lq T (rm9 rfl (T.ev 2 rfl)) ?_; clear T ac; intro ac T
 refine l_w rfl ?_; intro K hK
 refine oc9 (first := []) (cap := []) T rfl rfl rfl rfl evf (.cons (T.ev 1 rfl) (.cons (T.ev 0 rfl) .nil)) Tryd.func69 rfl rfl ?_
 refine Calls.mono (listed_any s A d G n g _ (SA.rd M (List.nil_sublist _)) (SG.rd M (List.nil_sublist _)) (by omega) (by omega) (by omega)) ?_
 clear T
 rintro e wc ⟨B, e, IB, rfl, hcpB, SVB, N⟩
 intro ac T
 obtain ⟨bB, oB, SVB⟩ := SVB
 obtain ⟨L, hL9⟩ : ∃ q, q = lstP s g := ⟨_, rfl⟩
 rw [← hL9] at SVB hcpB
 have SB := SVB w noEx
 replace M := (M.join N).swapI
 clear N
 replace M : Mem w noEx wc ((g1, .cells [.int .i64 s.lo, .int .i64 s.wi, .int .i64 s.a0, .int .i64 s.a1, .int .i64 s.c0, .int .i64 s.c1, .slice A s.ps.length d]) :: IB) := M
 rw [← hL9] at T
 refine so9 hK _ _ ?_; clear hK K
 refine lq T (rm9 rfl (T.ev 0 rfl)) ?_; clear T ac; intro ac T
 refine lq T (rn_extract rfl (T.ev 0 rfl) rfl) ?_; clear T ac; intro ac T
 refine lq T (rn_extract rfl (T.ev 1 rfl) rfl) ?_; clear T ac; intro ac T
 refine lq T (ra9 rfl (T.ev 1 rfl)) ?_; clear T ac; intro ac T
 refine lq T (ra9 rfl (T.ev 1 rfl)) ?_; clear T ac; intro ac T
 refine wpList_nil ?_
 replace T := T.pick [0, 1, 8, 9, 10, 11] rfl
 refine nt9 ?_
 refine wp_seq ?_
 refine wp_block ?_
 refine wp_seq ?_
 refine wp_region_lit ?_
 refine lq T (rm9 rfl (T.ev 0 rfl)) ?_; clear T ac; intro ac T
 refine lq T (rn_neq rfl (T.ev 0 rfl) evc) ?_; clear T ac; intro ac T
 refine lq T (ra9 rfl (T.ev 0 rfl)) ?_; clear T ac; intro ac T
 refine wpList_nil ?_
 replace T := T.pick [0, 3, 4, 5, 6, 7, 8] rfl
 refine nt9 ?_
 refine wp_ifn (T.ev 0 rfl) ?_ ?_
 ·intro h1
  refine wp_seq ?_
  refine wp_region_lit ?_
  refine lq T (rm9 rfl (T.ev 1 rfl)) ?_; clear T ac; intro ac T
  refine lq T (ra9 rfl evc) ?_; clear T ac; intro ac T
  refine lq T (ra9 rfl (T.ev 1 rfl)) ?_; clear T ac; intro ac T
  refine wpList_nil ?_
  replace T := T.pick [0, 1] rfl
  replace M := M.mask [false] rfl
  refine nt9 ?_
  refine wp_ret ?_
  refine rt_blk ?_
  refine rt_then ?_
  refine rt_2 T rfl (T.ev 1 rfl) (T.ev 0 rfl) ?_
  have e9 : cutsE s g sp.length = lstE s g := if_pos (by omega)
  have e8 : cutsV s g sp su = false := if_neg (by omega)
  rw [e9, e8]
  exact ⟨rfl, M.below⟩
 intro h1
 refine wp_seq ?_
 refine wp_region_lit ?_
 refine lq T (rm9 rfl (T.ev 5 rfl)) ?_; clear T ac; intro ac T
 refine lq T (rn_lenS rfl Tryd.underlying28 (T.ev 0 rfl)) ?_; clear T ac; intro ac T
 refine lq T (rm9 rfl (T.ev 6 rfl)) ?_; clear T ac; intro ac T
 refine lq T (rn_lenS rfl Tryd.underlying27 (T.ev 0 rfl)) ?_; clear T ac; intro ac T
 refine lq T (rn_lss rfl (T.ev 2 rfl) (T.ev 0 rfl)) ?_; clear T ac; intro ac T
 refine lq T (ra9 rfl (T.ev 0 rfl)) ?_; clear T ac; intro ac T
 refine wpList_nil ?_
 replace T := T.pick [0, 8, 9, 10, 11, 12] rfl
 refine nt9 ?_
 refine wp_if (T.ev 0 rfl) ?_ ?_
 ·intro h2
  refine wp_seq ?_
  refine wp_region_lit ?_
  refine lq T (ra9 rfl evc) ?_; clear T ac; intro ac T
  refine lq T (ra9 rfl evc) ?_; clear T ac; intro ac T
  refine wpList_nil ?_
  replace T := T.pick [0, 1] rfl
  replace M := M.mask [false] rfl
  refine nt9 ?_
  refine wp_ret ?_
  refine rt_blk ?_
  refine rt_then ?_
  refine rt_2 T rfl (T.ev 1 rfl) (T.ev 0 rfl) ?_
  have e9 : cutsE s g sp.length = 7 := (if_neg (by omega)).trans (if_pos (by omega))
  have e8 : cutsV s g sp su = false := if_neg (by omega)
  rw [e9, e8]
  exact ⟨rfl, M.below⟩
 intro h2
 refine wp_seq ?_
 refine wp_region_lit ?_
 refine lq T (rm9 rfl (T.ev 4 rfl)) ?_; clear T ac; intro ac T
 refine lq T (rn_lenS rfl Tryd.underlying28 (T.ev 0 rfl)) ?_; clear T ac; intro ac T
 refine lq T (rm9 rfl (T.ev 5 rfl)) ?_; clear T ac; intro ac T
 refine lq T (rn_lenS rfl Tryd.underlying27 (T.ev 0 rfl)) ?_; clear T ac; intro ac T
 refine lq T (rn_gtr rfl (T.ev 2 rfl) (T.ev 0 rfl)) ?_; clear T ac; intro ac T
 refine lq T (ra9 rfl (T.ev 0 rfl)) ?_; clear T ac; intro ac T
 refine wpList_nil ?_
 replace T := T.pick [0, 7, 8, 10, 11] rfl
 refine nt9 ?_
 refine wp_if (T.ev 0 rfl) ?_ ?_
 ·intro h3
  refine wp_seq ?_
  refine wp_region_lit ?_
  refine lq T (ra9 rfl evc) ?_; clear T ac; intro ac T
  refine lq T (ra9 rfl evc) ?_; clear T ac; intro ac T
  refine wpList_nil ?_
  replace T := T.pick [0, 1] rfl
  replace M := M.mask [false] rfl
  refine nt9 ?_
  refine wp_ret ?_
  refine rt_blk ?_
  refine rt_then ?_
  refine rt_2 T rfl (T.ev 1 rfl) (T.ev 0 rfl) ?_
  have e9 : cutsE s g sp.length = 6 := (if_neg (by omega)).trans ((if_neg (by omega)).trans (if_pos (by omega)))
  have e8 : cutsV s g sp su = false := if_neg (by omega)
  rw [e9, e8]
  exact ⟨rfl, M.below⟩
 intro h3
 refine wp_skip ?_
 refine nm_blk ?_
 refine nt9 ?_
 refine wp_seq ?_
 refine wp_region_lit ?_
 refine lq T (rn_rowO (Mem.nth M 0 rfl) rfl (T.ev 2 rfl) rfl) ?_; clear T ac; intro ac T
 refine lq T (rm9 rfl (T.ev 5 rfl)) ?_; clear T ac; intro ac T
 refine l_w rfl ?_; intro K hK
 have hl9 : lstE s g = 0 := by omega
 obtain ⟨hp9, hg, h5⟩ := lstP_good hl9
 have hsg := (lstE_iff.1 hl9).1
 rw [hp9] at hL9
 rw [← hL9] at hg h5
 obtain ⟨hb1, hb2, -, -, -, -⟩ := hsg
 have hsg := (lstE_iff.1 hl9).1
 have hlg : L.length = g.length := by rw [hL9]; simp [gP]
 refine oc9 (first := []) (cap := []) T rfl rfl rfl rfl evf (.cons (T.ev 1 rfl) (.cons (T.ev 0 rfl) .nil)) Tryd.func70 rfl rfl ?_
 refine Calls.mono (cut_any s A d su _) ?_
 clear T
 rintro e wc ⟨gau2, gcu2, rfl, N⟩
 intro ac T
 obtain ⟨a, hae⟩ : ∃ q, q = cutA s su := ⟨_, rfl⟩
 obtain ⟨c, hce⟩ : ∃ q, q = cutC s su := ⟨_, rfl⟩
 rw [← hae, ← hce] at N
 obtain ⟨ha, hc⟩ := cut_bd hsg su
 rw [← hae] at ha
 rw [← hce] at hc
 replace M := M.join N; clear N
 replace M := M.mask [true, true, true] rfl
 refine so9 hK _ _ ?_; clear hK K
 refine l_w rfl ?_; intro K hK
 refine ow_al M T rfl rfl rfl rfl ?_; clear M T; intro g2 wc ac M T
 refine so9 hK _ _ ?_; clear hK K
 refine l_w rfl ?_; intro K hK
 refine ow_stO M T rfl rfl (T.ev 0 rfl) (T.ev 1 rfl) rfl .head rfl (by simp) rfl (by kernel_rfl) ?_; clear M T; intro wc ac M T
 refine so9 hK _ _ ?_; clear hK K
 refine wpList_nil ?_
 replace T := T.pick [0, 5, 6, 7] rfl
 refine nt9 ?_
 refine wp_seq ?_
 refine wp_region_lit ?_
 refine lq (v := (.pointer (some ⟨g1, 0, none⟩))) T (rf9 (off := 0) rfl (T.ev 2 rfl) (fun _ _ _ => by kernel_rfl)) ?_; clear T ac; intro ac T
 refine lq T (rn_one (Mem.nth M 3 rfl) rfl (T.ev 0 rfl) rfl) ?_; clear T ac; intro ac T
 refine lq (v := (.pointer (some ⟨g1, 1, none⟩))) T (rf9 (off := 1) rfl (T.ev 4 rfl) (fun _ _ _ => by kernel_rfl)) ?_; clear T ac; intro ac T
 refine lq T (rn_one (Mem.nth M 3 rfl) rfl (T.ev 0 rfl) rfl) ?_; clear T ac; intro ac T
 refine lq (v := (.agg #[.int .i64 0, .int .i64 0, .int .i64 s.lo, .int .i64 s.wi])) T (rn_build rfl (.cons evc (.cons evc (.cons (T.ev 2 rfl) (.cons (T.ev 0 rfl) .nil)))) (fun _ => by kernel_rfl)) ?_; clear T ac; intro ac T
 refine l_w rfl ?_; intro K hK
 refine ow_al M T rfl rfl rfl rfl ?_; clear M T; intro g3 wc ac M T
 refine so9 hK _ _ ?_; clear hK K
 refine l_w rfl ?_; intro K hK
 refine ow_stO M T rfl rfl (T.ev 0 rfl) (T.ev 1 rfl) rfl .head rfl (by simp) rfl (by kernel_rfl) ?_; clear M T; intro wc ac M T
 refine so9 hK _ _ ?_; clear hK K
 refine wpList_nil ?_
 replace T := T.pick [0, 6, 7, 8, 9] rfl
 refine nt9 ?_
 refine wp_seq ?_
 refine wp_region_lit ?_
 refine lq T (ra9 rfl evc) ?_; clear T ac; intro ac T
 refine wpList_nil ?_
 refine nt9 ?_
 refine wp_seq ?_
 refine wp_seq ?_
 refine wp_region_lit ?_
 refine lq T (rm9 rfl (T.ev 3 rfl)) ?_; clear T ac; intro ac T
 refine lq T (rn_lenS rfl Tryd.underlying24 (T.ev 0 rfl)) ?_; clear T ac; intro ac T
 refine lq T (rm9 rfl evc) ?_; clear T ac; intro ac T
 refine wpList_nil ?_
 replace T := T.pick [0, 1, 2, 3, 4, 5, 7, 8] rfl
 refine nt9 ?_
 refine wp_block ?_
 refine wp_loop_n (fun mz ac wc => ∃ (k : Nat) (OL : List Ld) (A3 : Option Addr) (c3 : Nat) (Io : List (Nat × BA)), mz = L.length - k ∧ (k ≤ L.length) ∧ (plP a c s.lo s.wi [] L sp = plP a c s.lo s.wi OL (L.drop k) (sp.drop k)) ∧ (OL.length = k) ∧ (Sl 108 5 (.slice A3 OL.length c3) OL.length (dc OL) Io) ∧ Tm ac 147 [(2, .slice P sp.length np), (4, .pointer (some ⟨g1, 0, none⟩)), (12, .pointer (some ⟨g2, 0, none⟩)), (13, .pointer (some ⟨g3, 0, none⟩)), (14, .slice A3 OL.length c3), (54, .slice B L.length e), (55, .int .i64 ((L.length : Nat) : Int)), (56, .int .i64 (k : Int))] ∧ Mem w noEx wc ((g3, .cells [.int .i64 0, .int .i64 0, .int .i64 s.lo, .int .i64 s.wi]) :: (g2, .cells [.int .i64 s.lo, .int .i64 s.wi, .int .i64 s.a0, .int .i64 s.a1, .int .i64 s.c0, .int .i64 s.c1, .slice A s.ps.length d, .func (.func 100) #[] #[.pointer (some ⟨gau2, 0, none⟩)], .func (.func 101) #[] #[.pointer (some ⟨gcu2, 0, none⟩)]]) :: (gau2, .cells [.int .i64 a]) :: (gcu2, .cells [.int .i64 c]) :: (g1, .cells [.int .i64 s.lo, .int .i64 s.wi, .int .i64 s.a0, .int .i64 s.a1, .int .i64 s.c0, .int .i64 s.c1, .slice A s.ps.length d]) :: (IB ++ Io))) ?_ ?_
 ·exact ⟨_, 0, [], none, 0, [], rfl, (Nat.zero_le _), rfl, rfl, (Sl.nil _ _), T.pick [7, 6, 5, 4, 3, 2, 1, 0] rfl, (by rw [List.append_nil]; exact M)⟩
 clear T M
 rintro mz ac wc ⟨k, OL, A3, c3, Io, hmm1, hk, H, hOl, hsl, T, M⟩
 refine wp_seq ?_
 refine wp_region_lit ?_
 refine lq T (rn_lss rfl (T.ev 7 rfl) (T.ev 6 rfl)) ?_; clear T ac; intro ac T
 refine wpList_nil ?_
 refine nt9 ?_
 refine wp_seq ?_
 refine wp_if (T.ev 0 rfl) ?_ ?_
 ·intro h4
  obtain ⟨p, hkp, hdL⟩ := pc_next (l := L) (k := k) (by omega)
  obtain ⟨q, hkq, hdS⟩ := tc_next (l := sp) (k := k) (by omega)
  obtain ⟨bo, oo, SVo⟩ := hsl.spV (dc_length _)
  have So := SVo w noEx
  have hpg := hg _ (List.mem_of_getElem? hkp)
  have hz1 : 0 ≤ sizeL a c p q.t ∧ sizeL a c p q.t ≤ 100 := by obtain ⟨g1, g2, g3⟩ := hpg; simp only [sizeL]; split <;> omega
  have hz2 : 0 ≤ sizeW a c p q.t ∧ sizeW a c p q.t ≤ 100 := by obtain ⟨g1, g2, g3⟩ := hpg; simp only [sizeW]; split <;> omega
  refine wp_skip ?_
  refine nt9 ?_
  refine wp_seq ?_
  refine wp_block ?_
  refine wp_seq ?_
  refine wp_region_lit ?_
  refine lq T (rm9 rfl (T.ev 8 rfl)) ?_; clear T ac; intro ac T
  refine lq T (rn_indexAddr (size := 4) k rfl (T.ev 7 rfl) (T.ev 9 rfl) ⟨_, Tryd.underlying24, by kernel_rfl⟩ rfl (by omega) (SB.at0 (by omega))) ?_; clear T ac; intro ac T
  refine lq (v := (.agg #[.int .i64 p.l, .int .i64 p.w, .bool p.gr, .int .i64 p.pa])) T (rn_rowat (Sp.pcR SB M (.cons _ (.cons _ (.cons _ (.cons _ (.cons _ (subL (List.Sublist.refl _))))))) hkp) rfl (T.ev 0 rfl) rfl) ?_; clear T ac; intro ac T
  refine l_w rfl ?_; intro K hK
  refine ow_al M T rfl rfl rfl rfl ?_; clear M T; intro g4 wc ac M T
  refine so9 hK _ _ ?_; clear hK K
  refine lq T (ra9 rfl (T.ev 3 rfl)) ?_; clear T ac; intro ac T
  refine l_w rfl ?_; intro K hK
  refine ow_stO M T rfl rfl (T.ev 1 rfl) (T.ev 2 rfl) rfl .head rfl (by simp) rfl (by kernel_rfl) ?_; clear M T; intro wc ac M T
  refine so9 hK _ _ ?_; clear hK K
  refine wpList_nil ?_
  replace T := T.pick [0, 1, 6, 7, 8, 9, 10, 11, 12, 13] rfl
  refine nt9 ?_
  refine wp_seq ?_
  refine g_start2 M (M.mask [true, true, true, true, true, true] rfl) 12 (by kernel_rfl) rfl (by kernel_rfl) ?_
  clear M; intro wc M
  refine gq T 0 1 rfl (fun _ _ _ _ _ => (rm9 rfl (T.ev 2 rfl))) ?_; clear T ac; intro ac T
  refine gq T 1 3 rfl (fun _ _ _ _ _ => (rm9 rfl (T.ev 1 rfl))) ?_; clear T ac; intro ac T
  refine gq T 2 7 rfl (fun _ _ _ _ _ => (rn_indexAddr (size := 3) k rfl (T.ev 1 rfl) (T.ev 0 rfl) ⟨_, Tryd.underlying28, by kernel_rfl⟩ rfl (by omega) (SP.at0 (by omega)))) ?_; clear T ac; intro ac T
  refine gq T 3 15 rfl (fun _ _ _ _ _ => (rf9 (off := 0) rfl (T.ev 0 rfl) (fun _ _ _ => by kernel_rfl))) ?_; clear T ac; intro ac T
  refine gq T 4 31 rfl (fun B w' hD hl hS => (rn_cell (Sp.tcC0 SP (show Mem w noEx w' _ from hS) (List.nil_sublist _) hkq) rfl (T.ev 0 rfl))) ?_; clear T ac; intro ac T
  refine gq T 5 63 rfl (fun _ _ _ _ _ => (rm9 rfl (T.ev 7 rfl))) ?_; clear T ac; intro ac T
  refine gq T 6 127 rfl (fun _ _ _ _ _ => (rm9 rfl (T.ev 6 rfl))) ?_; clear T ac; intro ac T
  refine gq T 7 255 rfl (fun _ _ _ _ _ => (rn_indexAddr (size := 3) k rfl (T.ev 1 rfl) (T.ev 0 rfl) ⟨_, Tryd.underlying28, by kernel_rfl⟩ rfl (by omega) (SP.at0 (by omega)))) ?_; clear T ac; intro ac T
  refine gq T 8 511 rfl (fun _ _ _ _ _ => (rf9 (off := 1) rfl (T.ev 0 rfl) (fun _ _ _ => by kernel_rfl))) ?_; clear T ac; intro ac T
  refine gq T 9 1023 rfl (fun B w' hD hl hS => (rn_cell (Sp.tcC1 SP (show Mem w noEx w' _ from hS) (List.nil_sublist _) hkq) rfl (T.ev 0 rfl))) ?_; clear T ac; intro ac T
  refine gq T 10 2047 rfl (fun _ _ _ _ _ => (ra9 rfl (T.ev 5 rfl))) ?_; clear T ac; intro ac T
  refine gq T 11 4095 rfl (fun _ _ _ _ _ => (ra9 rfl (T.ev 1 rfl))) ?_; clear T ac; intro ac T
  refine g_done (by kernel_rfl) ?_
  replace T := T.pick [0, 1, 12, 13, 14, 15, 16, 17, 18, 19, 20, 21] rfl
  refine nt9 ?_
  refine wp_seq ?_
  refine g_start2 M (M.mask [true, true, true, true, true, true] rfl) 13 (by kernel_rfl) rfl (by kernel_rfl) ?_
  clear M; intro wc M
  refine gq T 0 1 rfl (fun B w' hD hl hS => (rn_rowO (Mem.nth (show Mem w noEx w' _ from hS) 2 rfl) rfl (T.ev 6 rfl) rfl)) ?_; clear T ac; intro ac T
  refine gq T 1 3 rfl (fun B w' hD hl hS => (rn_rowO (Mem.nth (show Mem w noEx w' _ from hS) 0 rfl) rfl (T.ev 4 rfl) rfl)) ?_; clear T ac; intro ac T
  refine gq T 2 7 rfl (fun _ _ _ _ _ => (rm9 rfl (T.ev 6 rfl))) ?_; clear T ac; intro ac T
  refine gq T 3 15 rfl (fun _ _ _ _ _ => (rm9 rfl (T.ev 5 rfl))) ?_; clear T ac; intro ac T
  refine gq T 4 31 rfl (fun _ _ _ _ _ => (rn_indexAddr (size := 3) k rfl (T.ev 1 rfl) (T.ev 0 rfl) ⟨_, Tryd.underlying28, by kernel_rfl⟩ rfl (by omega) (SP.at0 (by omega)))) ?_; clear T ac; intro ac T
  refine gq T 5 63 rfl (fun _ _ _ _ _ => (rf9 (off := 2) rfl (T.ev 0 rfl) (fun _ _ _ => by kernel_rfl))) ?_; clear T ac; intro ac T
  refine gq T 6 127 rfl (fun B w' hD hl hS => (rn_cell (Sp.tcC2 SP (show Mem w noEx w' _ from hS) (List.nil_sublist _) hkq) rfl (T.ev 0 rfl))) ?_; clear T ac; intro ac T
  refine gw 7 255 ?_; intro K hK
  refine oc9 (first := []) (cap := []) T rfl rfl rfl rfl evf (.cons (T.ev 6 rfl) (.cons (T.ev 5 rfl) (.cons (T.ev 0 rfl) .nil))) Tryd.func71 rfl rfl ?_
  refine Calls.mono (size_any s A d a c gau2 gcu2 p q.t _ (by omega) (by omega) hpg (M.nth 3 rfl) (M.nth 4 rfl)) ?_
  clear T
  rintro e wc ⟨rfl, hb⟩
  intro ac T
  replace M := M.call hb; clear hb
  refine so9 hK _ _ (M.mask [true, true, true, true, true, true] rfl) ?_; clear hK K
  refine gq T 8 511 rfl (fun _ _ _ _ _ => (rm9 rfl (T.ev 0 rfl))) ?_; clear T ac; intro ac T
  refine gq T 9 1023 rfl (fun _ _ _ _ _ => (rn_extract rfl (T.ev 0 rfl) rfl)) ?_; clear T ac; intro ac T
  refine gq T 10 2047 rfl (fun _ _ _ _ _ => (rn_extract rfl (T.ev 1 rfl) rfl)) ?_; clear T ac; intro ac T
  refine gq T 11 4095 rfl (fun _ _ _ _ _ => (ra9 rfl (T.ev 1 rfl))) ?_; clear T ac; intro ac T
  refine gq T 12 8191 rfl (fun _ _ _ _ _ => (ra9 rfl (T.ev 1 rfl))) ?_; clear T ac; intro ac T
  refine g_done (by kernel_rfl) ?_
  replace T := T.pick [0, 1, 13, 14, 15, 16, 17, 18, 19, 20, 21, 22, 23, 24] rfl
  refine nt9 ?_
  refine wp_seq ?_
  refine cut_seq (fun ac wc => Tm ac 147 [(2, .slice P sp.length np), (4, .pointer (some ⟨g1, 0, none⟩)), (12, .pointer (some ⟨g2, 0, none⟩)), (13, .pointer (some ⟨g3, 0, none⟩)), (14, .slice A3 OL.length c3), (15, .int .i64 (k : Int)), (17, .int .i64 q.x), (18, .int .i64 q.y), (19, .int .i64 (sizeL a c p q.t)), (20, .int .i64 (sizeW a c p q.t)), (54, .slice B L.length e), (55, .int .i64 ((L.length : Nat) : Int)), (56, .int .i64 (k : Int)), (108, .bool (bif q.t then (p.gr || ((!(withinB q.x 0 (s.lo - (sizeL a c p q.t)))) || (!(withinB q.y 0 (s.wi - (sizeW a c p q.t)))))) else ((!(withinB q.x 0 (s.lo - (sizeL a c p q.t)))) || (!(withinB q.y 0 (s.wi - (sizeW a c p q.t)))))))] ∧ Mem w noEx wc ((g3, .cells [.int .i64 0, .int .i64 0, .int .i64 s.lo, .int .i64 s.wi]) :: (g2, .cells [.int .i64 s.lo, .int .i64 s.wi, .int .i64 s.a0, .int .i64 s.a1, .int .i64 s.c0, .int .i64 s.c1, .slice A s.ps.length d, .func (.func 100) #[] #[.pointer (some ⟨gau2, 0, none⟩)], .func (.func 101) #[] #[.pointer (some ⟨gcu2, 0, none⟩)]]) :: (gau2, .cells [.int .i64 a]) :: (gcu2, .cells [.int .i64 c]) :: (g1, .cells [.int .i64 s.lo, .int .i64 s.wi, .int .i64 s.a0, .int .i64 s.a1, .int .i64 s.c0, .int .i64 s.c1, .slice A s.ps.length d]) :: (IB ++ Io))) ?_ ?_
  ·refine wp_region_lit ?_
   refine lq T (rm9 rfl (T.ev 6 rfl)) ?_; clear T ac; intro ac T
   refine lq T (rm9 rfl (T.ev 5 rfl)) ?_; clear T ac; intro ac T
   refine lq T (rn_indexAddr (size := 3) k rfl (T.ev 1 rfl) (T.ev 0 rfl) ⟨_, Tryd.underlying28, by kernel_rfl⟩ rfl (by omega) (SP.at0 (by omega))) ?_; clear T ac; intro ac T
   refine lq T (rf9 (off := 2) rfl (T.ev 0 rfl) (fun _ _ _ => by kernel_rfl)) ?_; clear T ac; intro ac T
   refine lq T (rn_cell (Sp.tcC2 SP M (List.nil_sublist _) hkq) rfl (T.ev 0 rfl)) ?_; clear T ac; intro ac T
   refine lq T (rm9 rfl (T.ev 0 rfl)) ?_; clear T ac; intro ac T
   rcases Bool.eq_false_or_eq_true q.t with h5 | h5
   ·refine lw (v := (.pointer (some ⟨g4, 2, none⟩))) T (wy9 rfl rfl (T.ev 0 rfl) h5) (rf9 (off := 2) rfl (T.ev 11 rfl) (fun _ _ _ => by kernel_rfl)) ?_; clear T ac; intro ac T
    refine lw T (wy9 rfl rfl (T.ev 1 rfl) h5) (rn_one (Mem.nth M 0 rfl) rfl (T.ev 0 rfl) rfl) ?_; clear T ac; intro ac T
    refine lq T (rn_pick1 rfl (T.ev 2 rfl) h5 (T.ev 0 rfl)) ?_; clear T ac; intro ac T
    refine lq T (rm9 rfl (T.ev 0 rfl)) ?_; clear T ac; intro ac T
    rcases Bool.eq_false_or_eq_true p.gr with h6 | h6
    ·refine lp T (wn9 rfl rfl (T.ev 0 rfl) h6) ?_; clear T ac; intro ac T
     refine lp T (wn9 rfl rfl (T.ev 1 rfl) h6) ?_; clear T ac; intro ac T
     refine lp T (wn9 rfl rfl (T.ev 2 rfl) h6) ?_; clear T ac; intro ac T
     refine lp T (wn9 rfl rfl (T.ev 3 rfl) h6) ?_; clear T ac; intro ac T
     refine lp T (wn9 rfl rfl (T.ev 4 rfl) h6) ?_; clear T ac; intro ac T
     refine lp T (wn9 rfl rfl (T.ev 5 rfl) h6) ?_; clear T ac; intro ac T
     refine lp T (wn9 rfl rfl (T.ev 6 rfl) h6) ?_; clear T ac; intro ac T
     refine lq T (rn_pick1 rfl (T.ev 7 rfl) h6 evc) ?_; clear T ac; intro ac T
     refine lq T (rm9 rfl (T.ev 0 rfl)) ?_; clear T ac; intro ac T
     refine lp T (wn9 rfl rfl (T.ev 0 rfl) rfl) ?_; clear T ac; intro ac T
     refine lp T (wn9 rfl rfl (T.ev 1 rfl) rfl) ?_; clear T ac; intro ac T
     refine lp T (wn9 rfl rfl (T.ev 2 rfl) rfl) ?_; clear T ac; intro ac T
     refine lp T (wn9 rfl rfl (T.ev 3 rfl) rfl) ?_; clear T ac; intro ac T
     refine lp T (wn9 rfl rfl (T.ev 4 rfl) rfl) ?_; clear T ac; intro ac T
     refine lp T (wn9 rfl rfl (T.ev 5 rfl) rfl) ?_; clear T ac; intro ac T
     refine lp T (wn9 rfl rfl (T.ev 6 rfl) rfl) ?_; clear T ac; intro ac T
     refine lq T (rn_pick1 rfl (T.ev 7 rfl) rfl evc) ?_; clear T ac; intro ac T
     refine wpList_nil ?_
     replace T := T.pick [0, 1, 2, 3, 4, 5, 6, 7, 10, 11, 12, 13, 14, 15, 16, 19, 20, 27, 28, 29, 30, 31, 33, 34, 35, 36, 37, 38, 39, 40] rfl
     exact ⟨(T.pick (E' := [(2, .slice P sp.length np), (4, .pointer (some ⟨g1, 0, none⟩)), (12, .pointer (some ⟨g2, 0, none⟩)), (13, .pointer (some ⟨g3, 0, none⟩)), (14, .slice A3 OL.length c3), (15, .int .i64 (k : Int)), (17, .int .i64 q.x), (18, .int .i64 q.y), (19, .int .i64 (sizeL a c p q.t)), (20, .int .i64 (sizeW a c p q.t)), (54, .slice B L.length e), (55, .int .i64 ((L.length : Nat) : Int)), (56, .int .i64 (k : Int)), (108, .bool true)]) [22, 23, 24, 25, 26, 21, 20, 19, 18, 17, 27, 28, 29, 0] rfl).as (by (try rw [show p.gr = true from h6]); (try rw [show q.t = true from h5]); (try rfl)), M.mask [false, true, true, true, true, true] rfl⟩
    refine lw T (wy9 rfl rfl (T.ev 0 rfl) h6) (rm9 rfl (T.ev 13 rfl)) ?_; clear T ac; intro ac T
    refine lw (v := (.pointer (some ⟨g1, 0, none⟩))) T (wy9 rfl rfl (T.ev 1 rfl) h6) (rf9 (off := 0) rfl (T.ev 18 rfl) (fun _ _ _ => by kernel_rfl)) ?_; clear T ac; intro ac T
    refine lw T (wy9 rfl rfl (T.ev 2 rfl) h6) (rn_one (Mem.nth M 5 rfl) rfl (T.ev 0 rfl) rfl) ?_; clear T ac; intro ac T
    refine lw T (wy9 rfl rfl (T.ev 3 rfl) h6) (rm9 rfl (T.ev 14 rfl)) ?_; clear T ac; intro ac T
    refine lw T (wy9 rfl rfl (T.ev 4 rfl) h6) (rn_sub rfl (T.ev 1 rfl) (T.ev 0 rfl) (by omega)) ?_; clear T ac; intro ac T
    refine l_w (wy9 rfl rfl (T.ev 5 rfl) h6) ?_; intro K hK
    refine oc9 (first := []) (cap := []) T rfl rfl rfl rfl evf (.cons (T.ev 4 rfl) (.cons evc (.cons (T.ev 0 rfl) .nil))) Tryd.func72 rfl rfl ?_
    refine Calls.mono (sin_any q.x 0 (s.lo - (sizeL a c p q.t)) _) ?_
    clear T
    rintro e wc ⟨rfl, hb⟩
    intro ac T
    replace M := M.call hb; clear hb
    refine so9 hK _ _ ?_; clear hK K
    refine lw T (wy9 rfl rfl (T.ev 6 rfl) h6) (rn_not rfl (T.ev 0 rfl)) ?_; clear T ac; intro ac T
    refine lq T (rn_pick0 rfl (T.ev 7 rfl) h6 (T.ev 0 rfl)) ?_; clear T ac; intro ac T
    refine lq T (rm9 rfl (T.ev 0 rfl)) ?_; clear T ac; intro ac T
    rcases Bool.eq_false_or_eq_true (!(withinB q.x 0 (s.lo - (sizeL a c p q.t)))) with h7 | h7
    ·refine lp T (wn9 rfl rfl (T.ev 0 rfl) h7) ?_; clear T ac; intro ac T
     refine lp T (wn9 rfl rfl (T.ev 1 rfl) h7) ?_; clear T ac; intro ac T
     refine lp T (wn9 rfl rfl (T.ev 2 rfl) h7) ?_; clear T ac; intro ac T
     refine lp T (wn9 rfl rfl (T.ev 3 rfl) h7) ?_; clear T ac; intro ac T
     refine lp T (wn9 rfl rfl (T.ev 4 rfl) h7) ?_; clear T ac; intro ac T
     refine lp T (wn9 rfl rfl (T.ev 5 rfl) h7) ?_; clear T ac; intro ac T
     refine lp T (wn9 rfl rfl (T.ev 6 rfl) h7) ?_; clear T ac; intro ac T
     refine lq T (rn_pick1 rfl (T.ev 7 rfl) h7 evc) ?_; clear T ac; intro ac T
     refine wpList_nil ?_
     replace T := T.pick [0, 1, 2, 3, 4, 5, 6, 7, 10, 11, 12, 13, 14, 15, 16, 19, 20, 27, 28, 29, 30, 31, 33, 34, 35, 36, 37, 38, 39, 40] rfl
     exact ⟨(T.pick (E' := [(2, .slice P sp.length np), (4, .pointer (some ⟨g1, 0, none⟩)), (12, .pointer (some ⟨g2, 0, none⟩)), (13, .pointer (some ⟨g3, 0, none⟩)), (14, .slice A3 OL.length c3), (15, .int .i64 (k : Int)), (17, .int .i64 q.x), (18, .int .i64 q.y), (19, .int .i64 (sizeL a c p q.t)), (20, .int .i64 (sizeW a c p q.t)), (54, .slice B L.length e), (55, .int .i64 ((L.length : Nat) : Int)), (56, .int .i64 (k : Int)), (108, .bool true)]) [22, 23, 24, 25, 26, 21, 20, 19, 18, 17, 27, 28, 29, 0] rfl).as (by (try rw [show (!(withinB q.x 0 (s.lo - (sizeL a c p q.t)))) = true from h7]); (try rw [show p.gr = false from h6]); (try rw [show q.t = true from h5]); (try rfl)), M.mask [false, true, true, true, true, true] rfl⟩
    refine lw T (wy9 rfl rfl (T.ev 0 rfl) h7) (rm9 rfl (T.ev 21 rfl)) ?_; clear T ac; intro ac T
    refine lw (v := (.pointer (some ⟨g1, 1, none⟩))) T (wy9 rfl rfl (T.ev 1 rfl) h7) (rf9 (off := 1) rfl (T.ev 27 rfl) (fun _ _ _ => by kernel_rfl)) ?_; clear T ac; intro ac T
    refine lw T (wy9 rfl rfl (T.ev 2 rfl) h7) (rn_one (Mem.nth M 5 rfl) rfl (T.ev 0 rfl) rfl) ?_; clear T ac; intro ac T
    refine lw T (wy9 rfl rfl (T.ev 3 rfl) h7) (rm9 rfl (T.ev 22 rfl)) ?_; clear T ac; intro ac T
    refine lw T (wy9 rfl rfl (T.ev 4 rfl) h7) (rn_sub rfl (T.ev 1 rfl) (T.ev 0 rfl) (by omega)) ?_; clear T ac; intro ac T
    refine l_w (wy9 rfl rfl (T.ev 5 rfl) h7) ?_; intro K hK
    refine oc9 (first := []) (cap := []) T rfl rfl rfl rfl evf (.cons (T.ev 4 rfl) (.cons evc (.cons (T.ev 0 rfl) .nil))) Tryd.func72 rfl rfl ?_
    refine Calls.mono (sin_any q.y 0 (s.wi - (sizeW a c p q.t)) _) ?_
    clear T
    rintro e wc ⟨rfl, hb⟩
    intro ac T
    replace M := M.call hb; clear hb
    refine so9 hK _ _ ?_; clear hK K
    refine lw T (wy9 rfl rfl (T.ev 6 rfl) h7) (rn_not rfl (T.ev 0 rfl)) ?_; clear T ac; intro ac T
    refine lq T (rn_pick0 rfl (T.ev 7 rfl) h7 (T.ev 0 rfl)) ?_; clear T ac; intro ac T
    refine wpList_nil ?_
    replace T := T.pick [0, 1, 2, 3, 4, 5, 6, 7, 10, 11, 12, 13, 14, 15, 16, 19, 20, 27, 28, 29, 30, 31, 33, 34, 35, 36, 37, 38, 39, 40] rfl
    exact ⟨(T.pick (E' := [(2, .slice P sp.length np), (4, .pointer (some ⟨g1, 0, none⟩)), (12, .pointer (some ⟨g2, 0, none⟩)), (13, .pointer (some ⟨g3, 0, none⟩)), (14, .slice A3 OL.length c3), (15, .int .i64 (k : Int)), (17, .int .i64 q.x), (18, .int .i64 q.y), (19, .int .i64 (sizeL a c p q.t)), (20, .int .i64 (sizeW a c p q.t)), (54, .slice B L.length e), (55, .int .i64 ((L.length : Nat) : Int)), (56, .int .i64 (k : Int)), (108, .bool (!(withinB q.y 0 (s.wi - (sizeW a c p q.t)))))]) [22, 23, 24, 25, 26, 21, 20, 19, 18, 17, 27, 28, 29, 0] rfl).as (by (try rw [show (!(withinB q.x 0 (s.lo - (sizeL a c p q.t)))) = false from h7]); (try rw [show p.gr = false from h6]); (try rw [show q.t = true from h5]); (try rfl)), M.mask [false, true, true, true, true, true] rfl⟩
   refine lp T (wn9 rfl rfl (T.ev 0 rfl) h5) ?_; clear T ac; intro ac T
   refine lp T (wn9 rfl rfl (T.ev 1 rfl) h5) ?_; clear T ac; intro ac T
   refine lq T (rn_pick0 rfl (T.ev 2 rfl) h5 evc) ?_; clear T ac; intro ac T
   refine lq T (rm9 rfl (T.ev 0 rfl)) ?_; clear T ac; intro ac T
   refine lw T (wy9 rfl rfl (T.ev 0 rfl) rfl) (rm9 rfl (T.ev 13 rfl)) ?_; clear T ac; intro ac T
   refine lw (v := (.pointer (some ⟨g1, 0, none⟩))) T (wy9 rfl rfl (T.ev 1 rfl) rfl) (rf9 (off := 0) rfl (T.ev 18 rfl) (fun _ _ _ => by kernel_rfl)) ?_; clear T ac; intro ac T
   refine lw T (wy9 rfl rfl (T.ev 2 rfl) rfl) (rn_one (Mem.nth M 5 rfl) rfl (T.ev 0 rfl) rfl) ?_; clear T ac; intro ac T
   refine lw T (wy9 rfl rfl (T.ev 3 rfl) rfl) (rm9 rfl (T.ev 14 rfl)) ?_; clear T ac; intro ac T
   refine lw T (wy9 rfl rfl (T.ev 4 rfl) rfl) (rn_sub rfl (T.ev 1 rfl) (T.ev 0 rfl) (by omega)) ?_; clear T ac; intro ac T
   refine l_w (wy9 rfl rfl (T.ev 5 rfl) rfl) ?_; intro K hK
   refine oc9 (first := []) (cap := []) T rfl rfl rfl rfl evf (.cons (T.ev 4 rfl) (.cons evc (.cons (T.ev 0 rfl) .nil))) Tryd.func72 rfl rfl ?_
   refine Calls.mono (sin_any q.x 0 (s.lo - (sizeL a c p q.t)) _) ?_
   clear T
   rintro e wc ⟨rfl, hb⟩
   intro ac T
   replace M := M.call hb; clear hb
   refine so9 hK _ _ ?_; clear hK K
   refine lw T (wy9 rfl rfl (T.ev 6 rfl) rfl) (rn_not rfl (T.ev 0 rfl)) ?_; clear T ac; intro ac T
   refine lq T (rn_pick0 rfl (T.ev 7 rfl) rfl (T.ev 0 rfl)) ?_; clear T ac; intro ac T
   refine lq T (rm9 rfl (T.ev 0 rfl)) ?_; clear T ac; intro ac T
   rcases Bool.eq_false_or_eq_true (!(withinB q.x 0 (s.lo - (sizeL a c p q.t)))) with h8 | h8
   ·refine lp T (wn9 rfl rfl (T.ev 0 rfl) h8) ?_; clear T ac; intro ac T
    refine lp T (wn9 rfl rfl (T.ev 1 rfl) h8) ?_; clear T ac; intro ac T
    refine lp T (wn9 rfl rfl (T.ev 2 rfl) h8) ?_; clear T ac; intro ac T
    refine lp T (wn9 rfl rfl (T.ev 3 rfl) h8) ?_; clear T ac; intro ac T
    refine lp T (wn9 rfl rfl (T.ev 4 rfl) h8) ?_; clear T ac; intro ac T
    refine lp T (wn9 rfl rfl (T.ev 5 rfl) h8) ?_; clear T ac; intro ac T
    refine lp T (wn9 rfl rfl (T.ev 6 rfl) h8) ?_; clear T ac; intro ac T
    refine lq T (rn_pick1 rfl (T.ev 7 rfl) h8 evc) ?_; clear T ac; intro ac T
    refine wpList_nil ?_
    replace T := T.pick [0, 1, 2, 3, 4, 5, 6, 7, 10, 11, 12, 13, 14, 15, 16, 19, 20, 27, 28, 29, 30, 31, 33, 34, 35, 36, 37, 38, 39, 40] rfl
    replace M := M.mask [false, true, true, true, true, true] rfl
    exact ⟨(T.pick (E' := [(2, .slice P sp.length np), (4, .pointer (some ⟨g1, 0, none⟩)), (12, .pointer (some ⟨g2, 0, none⟩)), (13, .pointer (some ⟨g3, 0, none⟩)), (14, .slice A3 OL.length c3), (15, .int .i64 (k : Int)), (17, .int .i64 q.x), (18, .int .i64 q.y), (19, .int .i64 (sizeL a c p q.t)), (20, .int .i64 (sizeW a c p q.t)), (54, .slice B L.length e), (55, .int .i64 ((L.length : Nat) : Int)), (56, .int .i64 (k : Int)), (108, .bool true)]) [22, 23, 24, 25, 26, 21, 20, 19, 18, 17, 27, 28, 29, 0] rfl).as (by (try rw [show (!(withinB q.x 0 (s.lo - (sizeL a c p q.t)))) = true from h8]); (try rw [show q.t = false from h5]); (try rfl)), M.mask [true, true, true, true, true] rfl⟩
   refine lw T (wy9 rfl rfl (T.ev 0 rfl) h8) (rm9 rfl (T.ev 21 rfl)) ?_; clear T ac; intro ac T
   refine lw (v := (.pointer (some ⟨g1, 1, none⟩))) T (wy9 rfl rfl (T.ev 1 rfl) h8) (rf9 (off := 1) rfl (T.ev 27 rfl) (fun _ _ _ => by kernel_rfl)) ?_; clear T ac; intro ac T
   refine lw T (wy9 rfl rfl (T.ev 2 rfl) h8) (rn_one (Mem.nth M 5 rfl) rfl (T.ev 0 rfl) rfl) ?_; clear T ac; intro ac T
   refine lw T (wy9 rfl rfl (T.ev 3 rfl) h8) (rm9 rfl (T.ev 22 rfl)) ?_; clear T ac; intro ac T
   refine lw T (wy9 rfl rfl (T.ev 4 rfl) h8) (rn_sub rfl (T.ev 1 rfl) (T.ev 0 rfl) (by omega)) ?_; clear T ac; intro ac T
   refine l_w (wy9 rfl rfl (T.ev 5 rfl) h8) ?_; intro K hK
   refine oc9 (first := []) (cap := []) T rfl rfl rfl rfl evf (.cons (T.ev 4 rfl) (.cons evc (.cons (T.ev 0 rfl) .nil))) Tryd.func72 rfl rfl ?_
   refine Calls.mono (sin_any q.y 0 (s.wi - (sizeW a c p q.t)) _) ?_
   clear T
   rintro e wc ⟨rfl, hb⟩
   intro ac T
   replace M := M.call hb; clear hb
   refine so9 hK _ _ ?_; clear hK K
   refine lw T (wy9 rfl rfl (T.ev 6 rfl) h8) (rn_not rfl (T.ev 0 rfl)) ?_; clear T ac; intro ac T
   refine lq T (rn_pick0 rfl (T.ev 7 rfl) h8 (T.ev 0 rfl)) ?_; clear T ac; intro ac T
   refine wpList_nil ?_
   replace T := T.pick [0, 1, 2, 3, 4, 5, 6, 7, 10, 11, 12, 13, 14, 15, 16, 19, 20, 27, 28, 29, 30, 31, 33, 34, 35, 36, 37, 38, 39, 40] rfl
   replace M := M.mask [false, true, true, true, true, true] rfl
   exact ⟨(T.pick (E' := [(2, .slice P sp.length np), (4, .pointer (some ⟨g1, 0, none⟩)), (12, .pointer (some ⟨g2, 0, none⟩)), (13, .pointer (some ⟨g3, 0, none⟩)), (14, .slice A3 OL.length c3), (15, .int .i64 (k : Int)), (17, .int .i64 q.x), (18, .int .i64 q.y), (19, .int .i64 (sizeL a c p q.t)), (20, .int .i64 (sizeW a c p q.t)), (54, .slice B L.length e), (55, .int .i64 ((L.length : Nat) : Int)), (56, .int .i64 (k : Int)), (108, .bool (!(withinB q.y 0 (s.wi - (sizeW a c p q.t)))))]) [22, 23, 24, 25, 26, 21, 20, 19, 18, 17, 27, 28, 29, 0] rfl).as (by (try rw [show (!(withinB q.x 0 (s.lo - (sizeL a c p q.t)))) = false from h8]); (try rw [show q.t = false from h5]); (try rfl)), M.mask [true, true, true, true, true] rfl⟩
  clear T M
  rintro ac wc ⟨T, M⟩
  refine wp_cond_split (T.ev 13 rfl) ?_ ?_
  ·intro h9
   (try have h9' := h9; try simp only [Bool.and_eq_true, Bool.or_eq_true, Bool.not_eq_true', Bool.and_eq_false_imp, Bool.or_eq_false_iff, decide_eq_true_eq, decide_eq_false_iff_not] at h9')
   have hb9 : badP a c s.lo s.wi p q = true := bad_eq.trans h9
   refine wp_seq ?_
   refine wp_region_lit ?_
   refine lq T (ra9 rfl evc) ?_; clear T ac; intro ac T
   refine lq T (ra9 rfl evc) ?_; clear T ac; intro ac T
   refine wpList_nil ?_
   replace T := T.pick [0, 1] rfl
   replace M := M.mask [false, false, false, false, false] rfl
   refine nt9 ?_
   refine wp_ret ?_
   refine rt_then ?_
   refine rt_blk ?_
   refine rt_then ?_
   refine rt_then ?_
   refine rt_blk ?_
   refine rt_then ?_
   refine rt_2 T rfl (T.ev 1 rfl) (T.ev 0 rfl) ?_
   have e9 : cutsE s g sp.length = 0 := (if_neg (by omega)).trans ((if_neg (by omega)).trans (if_neg (by omega)))
   have e8 : cutsV s g sp su = cutsB a c s.lo s.wi L sp := by rw [hae, hce, hL9]; exact if_pos e9
   have e7 : cutsB a c s.lo s.wi L sp = false := by rw [cutsB, H, hdL, hdS, plP_step, if_pos hb9]
   rw [e9, e8, e7]
   exact ⟨rfl, M.below⟩
  intro h9
  (try have h9' := h9; try simp only [Bool.and_eq_true, Bool.or_eq_true, Bool.not_eq_true', Bool.and_eq_false_imp, Bool.or_eq_false_iff, decide_eq_true_eq, decide_eq_false_iff_not] at h9')
  have hb8 : badP a c s.lo s.wi p q = false := bad_eq.trans h9
  have hbad : ¬ badP a c s.lo s.wi p q = true := by rw [hb8]; simp
  obtain ⟨hx9, hy9⟩ := bad_not hb8
  refine wp_skip ?_
  refine nt9 ?_
  refine wp_seq ?_
  refine wp_region_lit ?_
  refine lq T (rm9 rfl (T.ev 6 rfl)) ?_; clear T ac; intro ac T
  refine lq T (rm9 rfl (T.ev 8 rfl)) ?_; clear T ac; intro ac T
  refine lq T (rm9 rfl (T.ev 8 rfl)) ?_; clear T ac; intro ac T
  refine lq T (rm9 rfl (T.ev 11 rfl)) ?_; clear T ac; intro ac T
  refine lq T (rn_add rfl (T.ev 1 rfl) (T.ev 0 rfl) (by omega)) ?_; clear T ac; intro ac T
  refine lq T (rm9 rfl (T.ev 12 rfl)) ?_; clear T ac; intro ac T
  refine lq T (rm9 rfl (T.ev 15 rfl)) ?_; clear T ac; intro ac T
  refine lq T (rn_add rfl (T.ev 1 rfl) (T.ev 0 rfl) (by omega)) ?_; clear T ac; intro ac T
  refine lq (v := (.agg #[.int .i64 q.x, .int .i64 q.y, .int .i64 (q.x + (sizeL a c p q.t)), .int .i64 (q.y + (sizeW a c p q.t))])) T (rn_build rfl (.cons (T.ev 7 rfl) (.cons (T.ev 6 rfl) (.cons (T.ev 3 rfl) (.cons (T.ev 0 rfl) .nil)))) (fun _ => by kernel_rfl)) ?_; clear T ac; intro ac T
  refine lq T (rm9 rfl (T.ev 14 rfl)) ?_; clear T ac; intro ac T
  refine lq (v := (.agg #[.int .i64 q.x, .int .i64 q.y, .int .i64 (q.x + (sizeL a c p q.t)), .int .i64 (q.y + (sizeW a c p q.t)), .int .i64 (k : Int)])) T (rn_build rfl (.cons (T.ev 1 rfl) (.cons (T.ev 0 rfl) .nil)) (fun _ => by kernel_rfl)) ?_; clear T ac; intro ac T
  refine l_w rfl ?_; intro K hK
  refine ow_al M T rfl rfl rfl rfl ?_; clear M T; intro g5 wc ac M T
  refine so9 hK _ _ ?_; clear hK K
  refine l_w rfl ?_; intro K hK
  refine ow_stO M T rfl rfl (T.ev 0 rfl) (T.ev 1 rfl) rfl .head rfl (by simp) rfl (by kernel_rfl) ?_; clear M T; intro wc ac M T
  refine so9 hK _ _ ?_; clear hK K
  refine wpList_nil ?_
  replace T := T.pick [0, 12, 13, 14, 15, 16, 22, 23, 24] rfl
  refine nt9 ?_
  refine wp_seq ?_
  refine wp_seq ?_
  refine wp_region_lit ?_
  refine lq T (rm9 rfl (T.ev 5 rfl)) ?_; clear T ac; intro ac T
  refine lq T (rn_lenS rfl Tryd.underlying103 (T.ev 0 rfl)) ?_; clear T ac; intro ac T
  refine lq T (rm9 rfl evc) ?_; clear T ac; intro ac T
  refine wpList_nil ?_
  refine nt9 ?_
  refine wp_block ?_
  refine wp_loop_n (fun mz ac wc => ∃ (j : Nat), mz = OL.length - j ∧ (j ≤ OL.length) ∧ (hitP (OL.take j) (ldOf a c p q OL.length) = false) ∧ Tm ac 147 [(2, .slice P sp.length np), (4, .pointer (some ⟨g1, 0, none⟩)), (12, .pointer (some ⟨g2, 0, none⟩)), (13, .pointer (some ⟨g3, 0, none⟩)), (14, .slice A3 OL.length c3), (21, .pointer (some ⟨g5, 0, none⟩)), (54, .slice B L.length e), (55, .int .i64 ((L.length : Nat) : Int)), (56, .int .i64 (k : Int)), (120, .slice A3 OL.length c3), (121, .int .i64 ((OL.length : Nat) : Int)), (122, .int .i64 (j : Int))] ∧ Mem w noEx wc ((g5, .cells [.int .i64 q.x, .int .i64 q.y, .int .i64 (q.x + (sizeL a c p q.t)), .int .i64 (q.y + (sizeW a c p q.t)), .int .i64 (k : Int)]) :: (g3, .cells [.int .i64 0, .int .i64 0, .int .i64 s.lo, .int .i64 s.wi]) :: (g2, .cells [.int .i64 s.lo, .int .i64 s.wi, .int .i64 s.a0, .int .i64 s.a1, .int .i64 s.c0, .int .i64 s.c1, .slice A s.ps.length d, .func (.func 100) #[] #[.pointer (some ⟨gau2, 0, none⟩)], .func (.func 101) #[] #[.pointer (some ⟨gcu2, 0, none⟩)]]) :: (gau2, .cells [.int .i64 a]) :: (gcu2, .cells [.int .i64 c]) :: (g1, .cells [.int .i64 s.lo, .int .i64 s.wi, .int .i64 s.a0, .int .i64 s.a1, .int .i64 s.c0, .int .i64 s.c1, .slice A s.ps.length d]) :: (IB ++ Io))) ?_ ?_
  ·exact ⟨_, 0, rfl, (Nat.zero_le _), rfl, T.pick [4, 5, 6, 7, 8, 3, 9, 10, 11, 2, 1, 0] rfl, M.mask [true, true, true, true, true, true] rfl⟩
  clear T M
  rintro mz ac wc ⟨j, hmm2, hj, hN, T, M⟩
  refine wp_seq ?_
  refine wp_region_lit ?_
  refine lq T (rn_lss rfl (T.ev 11 rfl) (T.ev 10 rfl)) ?_; clear T ac; intro ac T
  refine wpList_nil ?_
  refine nt9 ?_
  refine wp_seq ?_
  refine wp_if (T.ev 0 rfl) ?_ ?_
  ·intro h10
   obtain ⟨z, hkz, -⟩ := dc_next (l := OL) (k := j) (by omega)
   refine wp_skip ?_
   refine nt9 ?_
   refine wp_seq ?_
   refine wp_block ?_
   refine wp_seq ?_
   refine wp_region_lit ?_
   refine lq T (rn_indexAddr (size := 5) j rfl (T.ev 10 rfl) (T.ev 12 rfl) ⟨_, Tryd.underlying103, by kernel_rfl⟩ rfl (by omega) (So.at0 (by omega))) ?_; clear T ac; intro ac T
   refine lq (v := (.agg #[.int .i64 z.l, .int .i64 z.n, .int .i64 z.r, .int .i64 z.f, .int .i64 z.p])) T (rn_rowat (Sp.dcR So M (.cons _ (.cons _ (.cons _ (.cons _ (.cons _ (.cons _ (List.sublist_append_right _ _))))))) hkz) rfl (T.ev 0 rfl) rfl) ?_; clear T ac; intro ac T
   refine l_w rfl ?_; intro K hK
   refine ow_al M T rfl rfl rfl rfl ?_; clear M T; intro g6 wc ac M T
   refine so9 hK _ _ ?_; clear hK K
   refine l_w rfl ?_; intro K hK
   refine ow_stO M T rfl rfl (T.ev 0 rfl) (T.ev 1 rfl) rfl .head rfl (by simp) rfl (by kernel_rfl) ?_; clear M T; intro wc ac M T
   refine so9 hK _ _ ?_; clear hK K
   refine wpList_nil ?_
   replace T := T.pick [0, 4, 5, 6, 7, 8, 9, 10, 11, 12, 13, 14, 15] rfl
   refine nt9 ?_
   refine cut_seq (fun ac wc => Tm ac 147 [(2, .slice P sp.length np), (4, .pointer (some ⟨g1, 0, none⟩)), (12, .pointer (some ⟨g2, 0, none⟩)), (13, .pointer (some ⟨g3, 0, none⟩)), (14, .slice A3 OL.length c3), (21, .pointer (some ⟨g5, 0, none⟩)), (54, .slice B L.length e), (55, .int .i64 ((L.length : Nat) : Int)), (56, .int .i64 (k : Int)), (120, .slice A3 OL.length c3), (121, .int .i64 ((OL.length : Nat) : Int)), (122, .int .i64 (j : Int)), (137, .bool (((decide (z.l = q.x)) && ((decide (z.n = q.y)) && ((decide (z.r = (q.x + (sizeL a c p q.t)))) && (decide (z.f = (q.y + (sizeW a c p q.t))))))) || (overP z.ar (⟨q.x, q.y, (q.x + (sizeL a c p q.t)), (q.y + (sizeW a c p q.t))⟩ : Ar))))] ∧ Mem w noEx wc ((g5, .cells [.int .i64 q.x, .int .i64 q.y, .int .i64 (q.x + (sizeL a c p q.t)), .int .i64 (q.y + (sizeW a c p q.t)), .int .i64 (k : Int)]) :: (g3, .cells [.int .i64 0, .int .i64 0, .int .i64 s.lo, .int .i64 s.wi]) :: (g2, .cells [.int .i64 s.lo, .int .i64 s.wi, .int .i64 s.a0, .int .i64 s.a1, .int .i64 s.c0, .int .i64 s.c1, .slice A s.ps.length d, .func (.func 100) #[] #[.pointer (some ⟨gau2, 0, none⟩)], .func (.func 101) #[] #[.pointer (some ⟨gcu2, 0, none⟩)]]) :: (gau2, .cells [.int .i64 a]) :: (gcu2, .cells [.int .i64 c]) :: (g1, .cells [.int .i64 s.lo, .int .i64 s.wi, .int .i64 s.a0, .int .i64 s.a1, .int .i64 s.c0, .int .i64 s.c1, .slice A s.ps.length d]) :: (IB ++ Io))) ?_ ?_
   ·refine wp_region_lit ?_
    refine lq (v := (.pointer (some ⟨g6, 0, none⟩))) T (rf9 (off := 0) rfl (T.ev 0 rfl) (fun _ _ _ => by kernel_rfl)) ?_; clear T ac; intro ac T
    refine lq T (rn_rowO (Mem.nth M 0 rfl) rfl (T.ev 0 rfl) rfl) ?_; clear T ac; intro ac T
    refine lq (v := (.pointer (some ⟨g5, 0, none⟩))) T (rf9 (off := 0) rfl (T.ev 8 rfl) (fun _ _ _ => by kernel_rfl)) ?_; clear T ac; intro ac T
    refine lq T (rn_rowO (Mem.nth M 1 rfl) rfl (T.ev 0 rfl) rfl) ?_; clear T ac; intro ac T
    refine lq (v := (.bool ((decide (z.l = q.x)) && ((decide (z.n = q.y)) && ((decide (z.r = (q.x + (sizeL a c p q.t)))) && (decide (z.f = (q.y + (sizeW a c p q.t))))))))) T (rn_bin rfl (T.ev 2 rfl) (T.ev 0 rfl) eqT102) ?_; clear T ac; intro ac T
    refine lq T (rm9 rfl (T.ev 0 rfl)) ?_; clear T ac; intro ac T
    rcases Bool.eq_false_or_eq_true ((decide (z.l = q.x)) && ((decide (z.n = q.y)) && ((decide (z.r = (q.x + (sizeL a c p q.t)))) && (decide (z.f = (q.y + (sizeW a c p q.t))))))) with h11 | h11
    ·refine lp T (wn9 rfl rfl (T.ev 0 rfl) h11) ?_; clear T ac; intro ac T
     refine lp T (wn9 rfl rfl (T.ev 1 rfl) h11) ?_; clear T ac; intro ac T
     refine lp T (wn9 rfl rfl (T.ev 2 rfl) h11) ?_; clear T ac; intro ac T
     refine lp T (wn9 rfl rfl (T.ev 3 rfl) h11) ?_; clear T ac; intro ac T
     refine lp T (wn9 rfl rfl (T.ev 4 rfl) h11) ?_; clear T ac; intro ac T
     refine lq T (rn_pick1 rfl (T.ev 5 rfl) h11 evc) ?_; clear T ac; intro ac T
     refine wpList_nil ?_
     replace T := T.pick [0, 1, 2, 3, 4, 5, 13, 14, 15, 16, 17, 18, 19, 20, 21, 22, 23, 24] rfl
     replace M := M.mask [false, true, true, true, true, true, true] rfl
     exact ⟨(T.pick (E' := [(2, .slice P sp.length np), (4, .pointer (some ⟨g1, 0, none⟩)), (12, .pointer (some ⟨g2, 0, none⟩)), (13, .pointer (some ⟨g3, 0, none⟩)), (14, .slice A3 OL.length c3), (21, .pointer (some ⟨g5, 0, none⟩)), (54, .slice B L.length e), (55, .int .i64 ((L.length : Nat) : Int)), (56, .int .i64 (k : Int)), (120, .slice A3 OL.length c3), (121, .int .i64 ((OL.length : Nat) : Int)), (122, .int .i64 (j : Int)), (137, .bool true)]) [6, 7, 8, 9, 10, 11, 12, 13, 14, 15, 16, 17, 0] rfl).as (by (try rw [show ((decide (z.l = q.x)) && ((decide (z.n = q.y)) && ((decide (z.r = (q.x + (sizeL a c p q.t)))) && (decide (z.f = (q.y + (sizeW a c p q.t))))))) = true from h11]); (try rfl)), M.mask [true, true, true, true, true, true] rfl⟩
    refine lw (v := (.pointer (some ⟨g6, 0, none⟩))) T (wy9 rfl rfl (T.ev 0 rfl) h11) (rf9 (off := 0) rfl (T.ev 6 rfl) (fun _ _ _ => by kernel_rfl)) ?_; clear T ac; intro ac T
    refine lw T (wy9 rfl rfl (T.ev 1 rfl) h11) (rn_rowO (Mem.nth M 0 rfl) rfl (T.ev 0 rfl) rfl) ?_; clear T ac; intro ac T
    refine lw (v := (.pointer (some ⟨g5, 0, none⟩))) T (wy9 rfl rfl (T.ev 2 rfl) h11) (rf9 (off := 0) rfl (T.ev 14 rfl) (fun _ _ _ => by kernel_rfl)) ?_; clear T ac; intro ac T
    refine lw T (wy9 rfl rfl (T.ev 3 rfl) h11) (rn_rowO (Mem.nth M 1 rfl) rfl (T.ev 0 rfl) rfl) ?_; clear T ac; intro ac T
    refine l_w (wy9 rfl rfl (T.ev 4 rfl) h11) ?_; intro K hK
    refine oc9 (first := []) (cap := []) T rfl rfl rfl rfl evf (.cons (T.ev 2 rfl) (.cons (T.ev 0 rfl) .nil)) Tryd.func73 rfl rfl ?_
    refine Calls.mono (arover_any z.ar (⟨q.x, q.y, (q.x + (sizeL a c p q.t)), (q.y + (sizeW a c p q.t))⟩ : Ar) _) ?_
    clear T
    rintro e wc ⟨rfl, hb⟩
    intro ac T
    replace M := M.call hb; clear hb
    refine so9 hK _ _ ?_; clear hK K
    refine lq T (rn_pick0 rfl (T.ev 5 rfl) h11 (T.ev 0 rfl)) ?_; clear T ac; intro ac T
    refine wpList_nil ?_
    replace T := T.pick [0, 1, 2, 3, 4, 5, 13, 14, 15, 16, 17, 18, 19, 20, 21, 22, 23, 24] rfl
    exact ⟨(T.pick (E' := [(2, .slice P sp.length np), (4, .pointer (some ⟨g1, 0, none⟩)), (12, .pointer (some ⟨g2, 0, none⟩)), (13, .pointer (some ⟨g3, 0, none⟩)), (14, .slice A3 OL.length c3), (21, .pointer (some ⟨g5, 0, none⟩)), (54, .slice B L.length e), (55, .int .i64 ((L.length : Nat) : Int)), (56, .int .i64 (k : Int)), (120, .slice A3 OL.length c3), (121, .int .i64 ((OL.length : Nat) : Int)), (122, .int .i64 (j : Int)), (137, .bool (overP z.ar (⟨q.x, q.y, (q.x + (sizeL a c p q.t)), (q.y + (sizeW a c p q.t))⟩ : Ar)))]) [6, 7, 8, 9, 10, 11, 12, 13, 14, 15, 16, 17, 0] rfl).as (by (try rw [show ((decide (z.l = q.x)) && ((decide (z.n = q.y)) && ((decide (z.r = (q.x + (sizeL a c p q.t)))) && (decide (z.f = (q.y + (sizeW a c p q.t))))))) = false from h11]); (try rfl)), M.mask [false, true, true, true, true, true, true] rfl⟩
   clear T M
   rintro ac wc ⟨T, M⟩
   refine wp_cond_split (T.ev 12 rfl) ?_ ?_
   ·intro h12
    (try have h12' := h12; try simp only [Bool.and_eq_true, Bool.or_eq_true, Bool.not_eq_true', Bool.and_eq_false_imp, Bool.or_eq_false_iff, decide_eq_true_eq, decide_eq_false_iff_not] at h12')
    have hh8 := (hit_eq (z := z) (o := (ldOf a c p q OL.length))).trans h12
    refine wp_seq ?_
    refine wp_region_lit ?_
    refine lq T (ra9 rfl evc) ?_; clear T ac; intro ac T
    refine lq T (ra9 rfl evc) ?_; clear T ac; intro ac T
    refine wpList_nil ?_
    replace T := T.pick [0, 1] rfl
    replace M := M.mask [false, false, false, false, false, false] rfl
    refine nt9 ?_
    refine wp_ret ?_
    refine rt_blk ?_
    refine rt_then ?_
    refine rt_then ?_
    refine rt_blk ?_
    refine rt_then ?_
    refine rt_blk ?_
    refine rt_then ?_
    refine rt_then ?_
    refine rt_blk ?_
    refine rt_then ?_
    refine rt_2 T rfl (T.ev 1 rfl) (T.ev 0 rfl) ?_
    have e9 : cutsE s g sp.length = 0 := (if_neg (by omega)).trans ((if_neg (by omega)).trans (if_neg (by omega)))
    have e8 : cutsV s g sp su = cutsB a c s.lo s.wi L sp := by rw [hae, hce, hL9]; exact if_pos e9
    have hh9 : hitP OL (ldOf a c p q OL.length) = true := hit_of (List.mem_of_getElem? hkz) hh8
    have e7 : cutsB a c s.lo s.wi L sp = false := by rw [cutsB, H, hdL, hdS, plP_step, if_neg hbad, if_pos hh9]
    rw [e9, e8, e7]
    exact ⟨rfl, M.below⟩
   intro h12
   (try have h12' := h12; try simp only [Bool.and_eq_true, Bool.or_eq_true, Bool.not_eq_true', Bool.and_eq_false_imp, Bool.or_eq_false_iff, decide_eq_true_eq, decide_eq_false_iff_not] at h12')
   have hh8 := (hit_eq (z := z) (o := (ldOf a c p q OL.length))).trans h12
   refine wp_skip ?_
   refine nm_blk ?_
   refine nt9 ?_
   refine wp_region_lit ?_
   refine lq T (rn_add rfl (T.ev 11 rfl) evc (by omega)) ?_; clear T ac; intro ac T
   refine l_q (v := (.int .i64 ((j : Int) + 1))) (T.pick [0, 1, 2, 3, 4, 5, 6, 7, 8, 9, 10, 11, 13] rfl) rfl rfl rfl rfl (rm9 rfl (T.ev 0 rfl)) ?_; clear T ac; intro ac T
   refine wpList_nil ?_
   replace T := T.pick [0, 2, 3, 4, 5, 6, 7, 8, 9, 10, 11, 12] rfl
   refine nt9 ?_
   exact ⟨_, by omega, j + 1, rfl, (by omega), (by rw [hit_snoc hkz, hN, Bool.false_or]; exact hh8), T.pick [1, 2, 3, 4, 5, 6, 7, 8, 9, 10, 11, 0] rfl, M.mask [true, true, true, true, true, true] rfl⟩
  intro h10
  rw [List.take_of_length_le (by omega)] at hN
  have hnh : ¬ hitP OL (ldOf a c p q OL.length) = true := by simp [hN]
  refine wp_exit ?_
  refine ex_then ?_
  refine ex_then ?_
  refine ex_hit ?_
  refine nt9 ?_
  refine wp_region_lit ?_
  refine lq T (rm9 rfl (T.ev 5 rfl)) ?_; clear T ac; intro ac T
  refine lq T (rn_rowO (Mem.nth M 0 rfl) rfl (T.ev 7 rfl) rfl) ?_; clear T ac; intro ac T
  refine l_w rfl ?_; intro K hK
  refine ow_bs (e := 108) [.int .i64 q.x, .int .i64 q.y, .int .i64 (q.x + (sizeL a c p q.t)), .int .i64 (q.y + (sizeW a c p q.t)), .int .i64 (k : Int)] M T rfl rfl rfl rfl (.cons (T.ev 0 rfl) .nil) (fun _ => by kernel_rfl) ?_; clear M T; intro g7 wc ac M T
  refine so9 hK _ _ ?_; clear hK K
  refine l_w rfl ?_; intro K hK
  refine ow_app (((g7, .cells [.int .i64 q.x, .int .i64 q.y, .int .i64 (q.x + (sizeL a c p q.t)), .int .i64 (q.y + (sizeW a c p q.t)), .int .i64 (k : Int)]) :: (g5, .cells [.int .i64 q.x, .int .i64 q.y, .int .i64 (q.x + (sizeL a c p q.t)), .int .i64 (q.y + (sizeW a c p q.t)), .int .i64 (k : Int)]) :: (g3, .cells [.int .i64 0, .int .i64 0, .int .i64 s.lo, .int .i64 s.wi]) :: (g2, .cells [.int .i64 s.lo, .int .i64 s.wi, .int .i64 s.a0, .int .i64 s.a1, .int .i64 s.c0, .int .i64 s.c1, .slice A s.ps.length d, .func (.func 100) #[] #[.pointer (some ⟨gau2, 0, none⟩)], .func (.func 101) #[] #[.pointer (some ⟨gcu2, 0, none⟩)]]) :: (gau2, .cells [.int .i64 a]) :: (gcu2, .cells [.int .i64 c]) :: (g1, .cells [.int .i64 s.lo, .int .i64 s.wi, .int .i64 s.a0, .int .i64 s.a1, .int .i64 s.c0, .int .i64 s.c1, .slice A s.ps.length d]) :: IB)) Tryd.info108 hsl M (by first | rfl | simp) T rfl rfl rfl rfl Tryd.underlying103 rfl rfl rfl (by omega) (T.ev 2 rfl) (T.ev 0 rfl) (nthE_mem (i := 0) rfl) rfl rfl ?_; clear M T; intro ga1 cga1 wc ac M T
  refine so9 hK _ _ ?_; clear hK K
  refine l_q (v := (.slice (some ⟨ga1, 0, none⟩) (OL.length + 1) cga1)) (T.pick [0, 1, 2, 3, 4, 5, 6, 7, 8, 10, 11, 12, 13, 14, 15, 16] rfl) rfl rfl rfl rfl (ra9 rfl (T.ev 0 rfl)) ?_; clear T ac; intro ac T
  refine wpList_nil ?_
  replace T := T.pick [0, 6, 7, 8, 9, 11, 12, 13] rfl
  replace M := M.mask [true, false, false, true, true, true, true, true] rfl
  refine nm_blk ?_
  refine nt9 ?_
  refine wp_region_lit ?_
  refine lq T (rn_add rfl (T.ev 7 rfl) evc (by omega)) ?_; clear T ac; intro ac T
  refine l_q (v := (.int .i64 ((k : Int) + 1))) (T.pick [0, 1, 2, 3, 4, 5, 6, 7] rfl) rfl rfl rfl rfl (rm9 rfl (T.ev 0 rfl)) ?_; clear T ac; intro ac T
  refine wpList_nil ?_
  replace T := T.pick [0, 2, 3, 4, 5, 6, 7, 8] rfl
  refine nt9 ?_
  have e9 : OL.length + 1 = (OL ++ [(ldOf a c p q OL.length)]).length := by simp
  have e8 : ((dc OL) ++ [.int .i64 q.x, .int .i64 q.y, .int .i64 (q.x + (sizeL a c p q.t)), .int .i64 (q.y + (sizeW a c p q.t)), .int .i64 (k : Int)]) = dc (OL ++ [(ldOf a c p q OL.length)]) := by rw [← hOl]; exact dc_snoc OL (ldOf a c p q OL.length)
  rw [e9, e8] at M
  rw [e9] at T
  clear e9 e8
  exact ⟨_, by omega, k + 1, (OL ++ [(ldOf a c p q OL.length)]), _, _, [(ga1, .row 108 5 (OL ++ [(ldOf a c p q OL.length)]).length (dc (OL ++ [(ldOf a c p q OL.length)])) cga1)], rfl, (by omega), (by rw [H, hdL, hdS, plP_step, if_neg hbad, if_neg hnh]), (by simp [hOl]), (Sl.row _ _ _ _ _ _), T.pick [2, 3, 4, 5, 1, 6, 7, 0] rfl, (Mem.swapU [(g3, .cells [.int .i64 0, .int .i64 0, .int .i64 s.lo, .int .i64 s.wi]), (g2, .cells [.int .i64 s.lo, .int .i64 s.wi, .int .i64 s.a0, .int .i64 s.a1, .int .i64 s.c0, .int .i64 s.c1, .slice A s.ps.length d, .func (.func 100) #[] #[.pointer (some ⟨gau2, 0, none⟩)], .func (.func 101) #[] #[.pointer (some ⟨gcu2, 0, none⟩)]]), (gau2, .cells [.int .i64 a]), (gcu2, .cells [.int .i64 c]), (g1, .cells [.int .i64 s.lo, .int .i64 s.wi, .int .i64 s.a0, .int .i64 s.a1, .int .i64 s.c0, .int .i64 s.c1, .slice A s.ps.length d])] [(ga1, .row 108 5 (OL ++ [(ldOf a c p q OL.length)]).length (dc (OL ++ [(ldOf a c p q OL.length)])) cga1)] IB (M.permT [1, 2, 3, 4, 5, 0] 6 rfl rfl rfl rfl))⟩
 intro h4
 rw [List.drop_of_length_le (by omega)] at H
 have H : plP a c s.lo s.wi [] L sp = some OL := H
 obtain ⟨bo, oo, SVo⟩ := hsl.spV (dc_length _)
 have So := SVo w noEx
 refine wp_exit ?_
 refine ex_then ?_
 refine ex_then ?_
 refine ex_hit ?_
 refine nt9 ?_
 refine wp_seq ?_
 refine wp_region_lit ?_
 refine lq T (rm9 rfl (T.ev 5 rfl)) ?_; clear T ac; intro ac T
 refine lq T (rn_rowO (Mem.nth M 0 rfl) rfl (T.ev 5 rfl) rfl) ?_; clear T ac; intro ac T
 refine l_w rfl ?_; intro K hK
 refine oc9 (first := []) (cap := []) T rfl rfl rfl rfl evf (.cons (T.ev 1 rfl) (.cons (T.ev 0 rfl) .nil)) Tryd.func74 rfl rfl ?_
 refine Calls.mono (sawn_any OL A3 c3 (⟨0, 0, s.lo, s.wi⟩ : Ar) _ (by omega) (by dsimp only; omega) (So.rd M (.cons _ (.cons _ (.cons _ (.cons _ (.cons _ (List.sublist_append_right _ _)))))))) ?_
 clear T
 rintro e wc ⟨rfl, hb⟩
 intro ac T
 replace M := M.call hb; clear hb
 refine so9 hK _ _ ?_; clear hK K
 refine lq T (ra9 rfl (T.ev 0 rfl)) ?_; clear T ac; intro ac T
 refine lq T (ra9 rfl evc) ?_; clear T ac; intro ac T
 refine wpList_nil ?_
 replace T := T.pick [0, 1] rfl
 replace M := M.mask [false, false, false, false, false] rfl
 refine nt9 ?_
 refine wp_ret ?_
 refine rt_2 T rfl (T.ev 1 rfl) (T.ev 0 rfl) ?_
 have e9 : cutsE s g sp.length = 0 := (if_neg (by omega)).trans ((if_neg (by omega)).trans (if_neg (by omega)))
 have e8 : cutsV s g sp su = cutsB a c s.lo s.wi L sp := by rw [hae, hce, hL9]; exact if_pos e9
 have e7 : cutsB a c s.lo s.wi L sp = sawB OL ⟨0, 0, s.lo, s.wi⟩ := by rw [cutsB, H]
 rw [e9, e8, e7]
 exact ⟨rfl, M.below⟩
end Go.Proofs.YtehpcclfgjccbaaDoor
end

section
/-
 Copies of lists: appended to an empty literal; appended to; written.
-/
namespace Go.Proofs.YtehpcclfgjccbaaDoor
set_option linter.unusedSimpArgs false
set_option linter.unusedVariables false
open Go.RowKit
section
variable {P : Program} {op : Oper} {a : Act} {K : Act → World → Prop} {Q : Exit → Act → World → Prop} {w0 w : World} {ex : Nat → Prop} {L0 L : List (Nat × BA)} {E : List (Nat × Value)} {t n : Nat}
theorem ow_bs0 {ty e : TypeId} (M : Mem w0 ex w L) (T : Tm a n E) (ho : op.op = .buildSlice ty 0 #[]) (hd : op.dst = some t) (hf : freshE E t = true) (hn : Nat.blt t n = true)
  (hr : ∀ w : World, (Instr.buildSlice ty 0 #[]).run P w = .ok (.slice (some ⟨w.heap.size, 0, none⟩) 0 0) (w.alloc (.cells #[] e)))
  (h : ∀ g w' a', Mem w0 ex w' ((g, .any fun o => o = .cells #[] e) :: L) → Tm a' n ((t, .slice (some ⟨g, 0, none⟩) 0 0) :: E) → K a' w') : op.wp P a w K Q := by
 unfold Oper.wp execOp
 simp only [ho]
 have e2 : ((#[] : Array (Nat × Operand)).map fun (i, x) => (i, a.eval x)) = #[] := by simp
 rw [Sem.run_bind, e2, hr]
 exact h w.heap.size _ _ (M.newAny (.cells #[] e) (fun o => o = .cells #[] e) rfl) (by rw [hd]; exact T.put hn hf _)
theorem ow_appS {s x : Operand} {ty e size bytes b m d : Nat} {B : Option Addr} {z : Value} {cs : List Value}
  (hinfo : (P.info? e).map (fun i => (i.zero, i.size, i.bytes)) = some (some z, size, bytes)) (M : Mem w0 ex w ((b, .any fun o => o = .cells #[] e) :: L)) (T : Tm a n E)
  (ho : op.op = .call { callee := .builtin .append, args := #[s, x], argTypes := #[ty, ty] }) (hd : op.dst = some t) (hf : freshE E t = true) (hnn : Nat.blt t n = true)
  (h0 : ∀ g (w : World), (Builtin.append_ #[ty, ty] op.type #[.slice (some ⟨g, 0, none⟩) 0 0, .slice B 0 d]).run P w = .ok (.slice (some ⟨g, 0, none⟩) 0 0) w)
  (ht : P.underlying ty = some (.slice e)) (hzs : z.cells.size = size) (hsz : Nat.blt 0 size = true) (hby : Nat.ble bytes 1000 = true) (hm : m ≤ 1000000)
  (hs : a.eval s = .slice (some ⟨b, 0, none⟩) 0 0) (hx : a.eval x = .slice B m d) (hr : Rd w w.heap.size size B m cs) (h1 : ∀ u ∈ cs, u.oneCell' = true)
  (h : ∀ A' c' I' w' a', Sm e size A' m c' cs I' → Mem w0 ex w' (I' ++ L) → Tm a' n ((t, .slice A' m c') :: E) → K a' w') : op.wp P a w K Q := by
 rcases Nat.eq_zero_or_pos m with rfl | hm0
 ·obtain rfl : cs = [] := List.eq_nil_of_length_eq_zero (by have := hr.1; omega)
  unfold Oper.wp execOp
  simp only [ho, resolve, invoke, builtin, Sem.run_bind, Sem.run_pure, Result.andThen_ok, List.map_toArray, List.map_cons, List.map_nil, hs, hx, h0]
  exact h _ _ [(b, .any fun o => o = .cells #[] e)] w _ (.inl ⟨rfl, rfl, rfl, b, rfl, rfl⟩) M (by rw [hd]; exact T.put hnn hf _)
 ·obtain ⟨i, hi, hz0, hz1, hz2⟩ := info_parts hinfo
  obtain ⟨g2, o2, rfl, hlt, hc⟩ := hr.cells hm0
  have hby := Nat.le_of_ble_eq_true hby
  have hsz := Nat.le_of_ble_eq_true hsz
  have hbb : (0 + m) * bytes ≤ 140737488355328 := by
   have : (0 + m) * bytes ≤ 1000000 * 1000 := Nat.mul_le_mul (by omega) hby
   omega
  obtain ⟨h2, o, hge, rfl⟩ := M.blk (b, .any fun o => o = .cells #[] e) List.mem_cons_self
  have hgl : b < w.heap.size := (Array.getElem?_eq_some_iff.1 hge).1
  refine wp_append_lies w s x ty ho b e i z size bytes ht hi hz0 hz1 hz2 hzs hsz _ 0 [] hs ⟨by simp, .inr ⟨b, 0, #[], rfl, Nat.le_refl _, hge, by omega, by unfold maxLen; omega, by simp, by simp⟩⟩ ⟨g2, o2, none⟩ m d cs hx hr.1 (fun j u hu => by rw [Addr.add_mid]; exact hc j u hu) h1 hm0 (by unfold maxLen; omega) hbb (Nat.le_of_lt hgl) w.heap.size rfl ?_
  intro g cap' w' hown hgr hat hlt2
  have hgr : w.grownBy w' (some b) := hgr
  simp only [Nat.zero_add, List.nil_append] at hown
  have key : Mem w0 ex w' ((g, .row e size m cs cap') :: L) := by
   rcases hat with h3 | h3
   ·have h3 : some b = some g := h3
    injection h3 with h3
    subst h3
    exact M.callW (L' := (b, .row e size m cs cap') :: L) .head hgr (own_rebase hown hm0)
   ·have M1 := M.callW (L' := (b, .any (fun _ => True)) :: L) .head hgr (by
     have hl0 : b < w'.heap.size := Nat.lt_of_lt_of_le hgl hgr.size
     exact ⟨w'.heap[b], Array.getElem?_eq_getElem hl0, trivial⟩)
    exact M1.forget.add (by rw [h3]; exact M.size) (own_rebase hown hm0) (fun q hq e => by have := BA.lt (M.blk q (List.mem_cons_of_mem _ hq)).2; omega)
  have e0 : a.put op.dst (.slice (some ⟨g, 0, none⟩) (0 + m) cap') = a.put op.dst (.slice (some ⟨g, 0, none⟩) m cap') := by rw [Nat.zero_add]
  rw [e0]
  exact h _ _ [(g, .row e size m cs cap')] w' _ (.inr ⟨g, rfl, rfl⟩) key (by rw [hd]; exact T.put hnn hf _)
end
def Cl (e size : Nat) (A : Option Addr) (n c : Nat) (xs : List Value) (I : List (Nat × BA)) : Prop :=
 (A = none ∧ n = 0 ∧ xs = [] ∧ c = 0 ∧ I = []) ∨ Sm e size A n c xs I
theorem Cl.row (e size g n c : Nat) (xs : List Value) : Cl e size (some ⟨g, 0, none⟩) n c xs [(g, .row e size n xs c)] := .inr (.inr ⟨g, rfl, rfl⟩)
theorem Cl.spV {e size n c : Nat} {A : Option Addr} {xs : List Value} {I : List (Nat × BA)} (h : Cl e size A n c xs I) (hl : xs.length = n * size) : ∃ b o, ∀ (w : World) (ex : Nat → Prop), Sp w ex I A n size b o xs := by
 rcases h with ⟨rfl, rfl, rfl, _, rfl⟩ | ⟨rfl, rfl, _, g, rfl, rfl⟩ | ⟨g, rfl, rfl⟩
 · exact ⟨0, 0, fun w ex => Sp.nil⟩
 · exact ⟨0, 0, fun w ex => ⟨fun h => absurd h (by omega), by simp, fun _ _ _ _ h => absurd h (by omega), fun _ _ _ _ j u hu => by simp at hu⟩⟩
 · exact ⟨g, 0, fun w ex => Sp.row hl⟩
theorem Cl.capLe {e n size : Nat} {A : Option Addr} {c : Nat} {xs : List Value} {I : List (Nat × BA)} {w0 w : World} {ex : Nat → Prop} {L : List (Nat × BA)} (h : Cl e size A n c xs I) (M : Mem w0 ex w L) (hI : I.Sublist L) : n ≤ c := by
 rcases h with ⟨_, rfl, _, rfl, _⟩ | ⟨rfl, _, rfl, _⟩ | ⟨g, rfl, rfl⟩
 ·omega
 ·omega
 ·obtain ⟨⟨-, h5⟩, h6⟩ := (M.blk (g, .row e size n xs c) (hI.subset List.mem_cons_self)).2
  rcases h5 with ⟨h7, -⟩ | ⟨g', cap', cur, h7, -, -, h8, -⟩
  ·cases h7
  ·injection h7 with _ _ h9
   omega
theorem Cl.sw {w0 w : World} {ex : Nat → Prop} {L I : List (Nat × BA)} {e size n c : Nat} {A : Option Addr} {xs : List Value} (h : Cl e size A n c xs I) (M : Mem w0 ex w (L ++ I)) : ∃ b I', Sw size A n b xs I' ∧ Mem w0 ex w (L ++ I') := by
 rcases h with ⟨rfl, rfl, rfl, rfl, rfl⟩ | h
 · exact ⟨0, [], ⟨by simp, .inl rfl⟩, M⟩
 · exact h.sw M
theorem ow_appC {P : Program} {op : Oper} {a : Act} {K : Act → World → Prop} {Q : Exit → Act → World → Prop} {s x : Operand} {ty e size bytes b c d m nn t' : Nat} {A : Option Addr} {z : Value} {cs xs : List Value} {w0 w : World} {ex : Nat → Prop} {L0 I : List (Nat × BA)} {E : List (Nat × Value)} (L1 : List (Nat × BA))
   (hinfo : (P.info? e).map (fun i => (i.zero, i.size, i.bytes)) = some (some z, size, bytes)) (hS : Cl e size A m d xs I) (M : Mem w0 ex w L0) (hsp : L0 = L1 ++ I) (T : Tm a nn E)
   (ho : op.op = .call { callee := .builtin .append, args := #[s, x], argTypes := #[ty, ty] }) (hd : op.dst = some t') (hf : freshE E t' = true) (hnn : Nat.blt t' nn = true)
   (ht : P.underlying ty = some (.slice e)) (hzs : z.cells.size = size) (hsz : Nat.blt 0 size = true) (hby : Nat.ble bytes 1000 = true) (hm : m ≤ 1000000)
   (hs : a.eval s = .slice A m d) (hx : a.eval x = .slice (some ⟨b, 0, none⟩) 1 c) (hmem : (b, BA.cells cs) ∈ L1) (hl : cs.length = size) (h1 : cs.all (·.oneCell') = true)
   (h : ∀ g cap w' a', Mem w0 ex w' ((g, .row e size (m + 1) (xs ++ cs) cap) :: L1) → Tm a' nn ((t', .slice (some ⟨g, 0, none⟩) (m + 1) cap) :: E) → K a' w') : op.wp P a w K Q := by
 rcases hS with ⟨rfl, rfl, rfl, rfl, rfl⟩ | hS
 · exact ow_app L1 hinfo (Sl.nil e size) M hsp T ho hd hf hnn ht hzs hsz hby hm hs hx hmem hl h1 h
 · exact ow_appM L1 hinfo hS M hsp T ho hd hf hnn ht hzs hsz hby hm hs hx hmem hl h1 h
end Go.Proofs.YtehpcclfgjccbaaDoor
end

section
/-
 copies of lists; sizes, bounds.
-/
namespace Go.Proofs.YtehpcclfgjccbaaDoor
set_option linter.unusedSimpArgs false
set_option linter.unusedVariables false
open Go.RowKit
theorem eqlS27 {x : Operand} (A : Option Addr) (m c : Nat) (w : World) : (do eqGuard .eql 27 x (.const (.slice none 0 0)) (.slice A m c) (.slice none 0 0); binOp .eql 27 (.slice A m c) (.slice none 0 0) : Sem Value).run Tryd.prog w = .ok (.bool (!A.isSome)) w := by
 cases A <;> kernel_rfl
theorem Tryd.append0_27 (A : Option Addr) (c g : Nat) (ty : TypeId) (w : World) : (Builtin.append_ #[27, 27] ty #[.slice (some ⟨g, 0, none⟩) 0 0, .slice A 0 c]).run Tryd.prog w = .ok (.slice (some ⟨g, 0, none⟩) 0 0) w := by
 cases A <;> kernel_rfl
theorem eqlS24 {x : Operand} (A : Option Addr) (m c : Nat) (w : World) : (do eqGuard .eql 24 x (.const (.slice none 0 0)) (.slice A m c) (.slice none 0 0); binOp .eql 24 (.slice A m c) (.slice none 0 0) : Sem Value).run Tryd.prog w = .ok (.bool (!A.isSome)) w := by
 cases A <;> kernel_rfl
theorem Tryd.append0_24 (A : Option Addr) (c g : Nat) (ty : TypeId) (w : World) : (Builtin.append_ #[24, 24] ty #[.slice (some ⟨g, 0, none⟩) 0 0, .slice A 0 c]).run Tryd.prog w = .ok (.slice (some ⟨g, 0, none⟩) 0 0) w := by
 cases A <;> kernel_rfl
def CloPost (e size : Nat) (n : Nat) (xs : List Value) (w : World) (e9 : Ending) (w' : World) : Prop := ∃ A c I, e9 = .returned (.slice A n c) ∧ Cl e size A n c xs I ∧ Mem w noEx w' I
theorem Rd.nil0 {w : World} {B size n : Nat} {xs : List Value} (h : Rd w B size none n xs) : n = 0 := by
 rcases Nat.eq_zero_or_pos n with h0 | h0
 ·exact h0
 ·obtain ⟨b, o, h1, -, -⟩ := h.2 h0
  cases h1
theorem icl_one (l : List Int) : ∀ u ∈ ic l, u.oneCell' = true := fun u hu => by
 obtain ⟨x, -, rfl⟩ := List.mem_map.1 hu
 rfl
theorem pc_one (l : List Pt) : ∀ u ∈ pc l, u.oneCell' = true := fun u hu => by
 obtain ⟨p, -, h⟩ := List.mem_flatMap.1 hu
 simp only [pcE, List.mem_cons, List.not_mem_nil, or_false] at h
 rcases h with rfl | rfl | rfl | rfl <;> rfl
theorem cloneI_any (G : Option Addr) (n : Nat) (g : List Int)  (w : World) (hG : Rd w w.heap.size 1 G g.length (ic g)) (nG : g.length ≤ 1000000) :
   Calls Tryd.prog 122 #[.slice G g.length n] w (CloPost 3 1 g.length (ic g) w) := by
 obtain ⟨bG, oG, SG⟩ := Sp.old hG
 refine px_enter noEx Tryd.func122 rfl 8 rfl [.slice G g.length n] rfl rfl (Mem.init w _) ?_
 intro ac wc T M
 refine wp_seq ?_
 refine wp_region_lit ?_
 refine lq T (ra9 rfl evc) ?_; clear T ac; intro ac T
 refine wpList_nil ?_
 replace T := T.pick [1] rfl
 refine nt9 ?_
 refine wp_seq ?_
 refine wp_seq ?_
 refine wp_region_lit ?_
 refine lq T (rm9 rfl (T.ev 0 rfl)) ?_; clear T ac; intro ac T
 refine lq (v := (.bool (!G.isSome))) T (rn_bin rfl (T.ev 0 rfl) evc (eqlS27 _ _ _ _)) ?_; clear T ac; intro ac T
 refine wpList_nil ?_
 replace T := T.pick [0, 2] rfl
 refine nt9 ?_
 refine wp_cond_split (T.ev 0 rfl) ?_ ?_
 ·intro h1
  (try have h1' := h1; try simp only [Bool.and_eq_true, Bool.or_eq_true, Bool.not_eq_true', Bool.and_eq_false_imp, Bool.or_eq_false_iff, decide_eq_true_eq, decide_eq_false_iff_not] at h1')
  refine wp_seq ?_
  refine wp_region_lit ?_
  refine lq T (ra9 rfl evc) ?_; clear T ac; intro ac T
  refine wpList_nil ?_
  replace T := T.pick [0] rfl
  refine nt9 ?_
  refine wp_ret ?_
  refine rt_then ?_
  refine rt_1 T rfl (T.ev 0 rfl) ?_
  have hA9 : G = none := by cases G; rfl; simp at h1
  have hn9 : g.length = 0 := Rd.nil0 (hA9 ▸ hG)
  have hx9 : ic g = [] := List.eq_nil_of_length_eq_zero (by rw [(hG).1, hn9] <;> simp)
  rw [hn9, hx9]
  exact ⟨none, 0, [], rfl, .inl ⟨rfl, rfl, rfl, rfl, rfl⟩, M.mask [] rfl⟩
 intro h1
 (try have h1' := h1; try simp only [Bool.and_eq_true, Bool.or_eq_true, Bool.not_eq_true', Bool.and_eq_false_imp, Bool.or_eq_false_iff, decide_eq_true_eq, decide_eq_false_iff_not] at h1')
 refine wp_skip ?_
 refine nt9 ?_
 refine wp_seq ?_
 refine wp_region_lit ?_
 refine l_w rfl ?_; intro K hK
 refine ow_bs0 (e := 3) M T rfl rfl rfl rfl (fun _ => by kernel_rfl) ?_; clear M T; intro g1 wc ac M T
 refine so9 hK _ _ ?_; clear hK K
 refine lq T (rm9 rfl (T.ev 2 rfl)) ?_; clear T ac; intro ac T
 refine l_w rfl ?_; intro K hK
 refine ow_appS Tryd.info3 M T rfl rfl rfl rfl (fun g w => Tryd.append0_27 _ _ g _ w) Tryd.underlying27 rfl rfl rfl (by omega) (T.ev 1 rfl) (T.ev 0 rfl) (SG.rd M (List.nil_sublist _)) (icl_one _) ?_; clear M T; intro Augo1 cugo1 Iugo1 wc ac hSmgo1 M T
 replace M : Mem w noEx wc (Iugo1) := M.swapI
 refine so9 hK _ _ ?_; clear hK K
 refine lq T (ra9 rfl (T.ev 0 rfl)) ?_; clear T ac; intro ac T
 refine wpList_nil ?_
 replace T := T.pick [0] rfl
 refine nt9 ?_
 refine wp_ret ?_
 refine rt_1 T rfl (T.ev 0 rfl) ?_
 exact ⟨Augo1, cugo1, Iugo1, rfl, .inr hSmgo1, M.sub (List.sublist_append_right [] _)⟩
theorem cloneP_any (A : Option Addr) (d : Nat) (l : List Pt)  (w : World) (hA : Rd w w.heap.size 4 A l.length (pc l)) (nA : l.length ≤ 1000000) :
   Calls Tryd.prog 87 #[.slice A l.length d] w (CloPost 63 4 l.length (pc l) w) := by
 obtain ⟨bA, oA, SA⟩ := Sp.old hA
 refine px_enter noEx Tryd.func87 rfl 8 rfl [.slice A l.length d] rfl rfl (Mem.init w _) ?_
 intro ac wc T M
 refine wp_seq ?_
 refine wp_region_lit ?_
 refine lq T (ra9 rfl evc) ?_; clear T ac; intro ac T
 refine wpList_nil ?_
 replace T := T.pick [1] rfl
 refine nt9 ?_
 refine wp_seq ?_
 refine wp_seq ?_
 refine wp_region_lit ?_
 refine lq T (rm9 rfl (T.ev 0 rfl)) ?_; clear T ac; intro ac T
 refine lq (v := (.bool (!A.isSome))) T (rn_bin rfl (T.ev 0 rfl) evc (eqlS24 _ _ _ _)) ?_; clear T ac; intro ac T
 refine wpList_nil ?_
 replace T := T.pick [0, 2] rfl
 refine nt9 ?_
 refine wp_cond_split (T.ev 0 rfl) ?_ ?_
 ·intro h1
  (try have h1' := h1; try simp only [Bool.and_eq_true, Bool.or_eq_true, Bool.not_eq_true', Bool.and_eq_false_imp, Bool.or_eq_false_iff, decide_eq_true_eq, decide_eq_false_iff_not] at h1')
  refine wp_seq ?_
  refine wp_region_lit ?_
  refine lq T (ra9 rfl evc) ?_; clear T ac; intro ac T
  refine wpList_nil ?_
  replace T := T.pick [0] rfl
  refine nt9 ?_
  refine wp_ret ?_
  refine rt_then ?_
  refine rt_1 T rfl (T.ev 0 rfl) ?_
  have hA9 : A = none := by cases A; rfl; simp at h1
  have hn9 : l.length = 0 := Rd.nil0 (hA9 ▸ hA)
  have hx9 : pc l = [] := List.eq_nil_of_length_eq_zero (by rw [(hA).1, hn9] <;> simp)
  rw [hn9, hx9]
  exact ⟨none, 0, [], rfl, .inl ⟨rfl, rfl, rfl, rfl, rfl⟩, M.mask [] rfl⟩
 intro h1
 (try have h1' := h1; try simp only [Bool.and_eq_true, Bool.or_eq_true, Bool.not_eq_true', Bool.and_eq_false_imp, Bool.or_eq_false_iff, decide_eq_true_eq, decide_eq_false_iff_not] at h1')
 refine wp_skip ?_
 refine nt9 ?_
 refine wp_seq ?_
 refine wp_region_lit ?_
 refine l_w rfl ?_; intro K hK
 refine ow_bs0 (e := 63) M T rfl rfl rfl rfl (fun _ => by kernel_rfl) ?_; clear M T; intro g1 wc ac M T
 refine so9 hK _ _ ?_; clear hK K
 refine lq T (rm9 rfl (T.ev 2 rfl)) ?_; clear T ac; intro ac T
 refine l_w rfl ?_; intro K hK
 refine ow_appS Tryd.info63 M T rfl rfl rfl rfl (fun g w => Tryd.append0_24 _ _ g _ w) Tryd.underlying24 rfl rfl rfl (by omega) (T.ev 1 rfl) (T.ev 0 rfl) (SA.rd M (List.nil_sublist _)) (pc_one _) ?_; clear M T; intro Augo1 cugo1 Iugo1 wc ac hSmgo1 M T
 replace M : Mem w noEx wc (Iugo1) := M.swapI
 refine so9 hK _ _ ?_; clear hK K
 refine lq T (ra9 rfl (T.ev 0 rfl)) ?_; clear T ac; intro ac T
 refine wpList_nil ?_
 replace T := T.pick [0] rfl
 refine nt9 ?_
 refine wp_ret ?_
 refine rt_1 T rfl (T.ev 0 rfl) ?_
 exact ⟨Augo1, cugo1, Iugo1, rfl, .inr hSmgo1, M.sub (List.sublist_append_right [] _)⟩
end Go.Proofs.YtehpcclfgjccbaaDoor
end

section
/-
 sheet: all assignments, handed out.
-/
namespace Go.Proofs.YtehpcclfgjccbaaDoor
set_option linter.unusedSimpArgs false
set_option linter.unusedVariables false
open Go.RowKit
structure AsX where
 l : List Int
 n : Nat
 A : Option Addr
 c : Nat
def asP (x : AsX) : List Int × Nat := (x.l, x.n)
def asV (x : AsX) : List Value := [.slice x.A x.l.length x.c, .int .i64 (x.n : Int)]
def RdF (B : Nat) (w : World) (A : Option Addr) (n : Nat) (xs : List Value) : Prop := Rd w w.heap.size 1 A n xs ∧ ∀ b o, A = some ⟨b, o, none⟩ → 0 < n → B ≤ b
def AsOx (B many : Nat) (x : AsX) (W : World) : Prop := RdF B W x.A x.l.length (ic x.l) ∧ x.l.length ≤ x.c ∧ x.l.length = many ∧ x.n ≤ many
theorem RdF.kpN {B B' n : Nat} {W W' : World} {A : Option Addr} {xs : List Value} (r : RdF B W A n xs) (hK : KpN B' W W') : RdF B W' A n xs := ⟨hK.rdS r.1, r.2⟩
theorem RdF.le {B B' n : Nat} {W : World} {A : Option Addr} {xs : List Value} (r : RdF B W A n xs) (h : B' ≤ B) : RdF B' W A n xs := ⟨r.1, fun b o h1 h2 => Nat.le_trans h (r.2 b o h1 h2)⟩
theorem AsOx.calm (B0 many B : Nat) : Calm B (AsOx B0 many) := fun x W W' h hk => ⟨h.1.kpN hk, h.2⟩
theorem KpB.of {l : Nat} {eb : Nat → Prop} {w wc : World} {L : List (Nat × BA)} (M : Mem w noEx wc L) : KpB l eb w wc :=
 ⟨M.os, M.tape, M.output, M.size, fun b hb _ => M.block b hb (fun h => h), fun p hp => absurd hp List.not_mem_nil, List.nodup_nil⟩
theorem KpB.trans {l : Nat} {eb : Nat → Prop} {x y z : World} (h : KpB l eb x y) (k : KpB l eb y z) : KpB l eb x z :=
 ⟨k.os.trans h.os, k.tape.trans h.tape, k.output.trans h.output, Nat.le_trans h.size k.size, fun b hb he => (k.block b (Nat.lt_of_lt_of_le hb h.size) he).trans (h.block b hb he), fun p hp => absurd hp List.not_mem_nil, List.nodup_nil⟩
theorem KpB.rdF {l B n : Nat} {eb : Nat → Prop} {w w' : World} {A : Option Addr} {xs : List Value} (h : KpB l eb w w') (hl : l < B) (he : ∀ b, eb b → b < B) (r : RdF B w A n xs) : RdF B w' A n xs :=
 ⟨⟨r.1.1, fun hn => by
  obtain ⟨b, o, h1, h2, h3⟩ := r.1.2 hn
  have hb := r.2 b o h1 hn
  refine ⟨b, o, h1, Nat.lt_of_lt_of_le h2 h.size, fun j u hu => (World.cell?_of_block (w := w) (a := ⟨b, o + j, none⟩) (h.block b h2 fun hh => ?_)).trans (h3 j u hu)⟩
  rcases hh with hh | hh
  ·omega
  ·have := he b hh
   omega⟩, r.2⟩
theorem RdF.mem {B n : Nat} {w w' : World} {A : Option Addr} {xs : List Value} {L : List (Nat × BA)} (r : RdF B w A n xs) (M : Mem w noEx w' L) : RdF B w' A n xs :=
 ⟨⟨r.1.1, fun hn => by
  obtain ⟨b, o, h1, h2, h3⟩ := r.1.2 hn
  exact ⟨b, o, h1, Nat.lt_of_lt_of_le h2 M.size, fun j u hu => (World.cell?_of_block (w := w) (a := ⟨b, o + j, none⟩) (M.block b h2 fun hh => hh)).trans (h3 j u hu)⟩⟩, r.2⟩
def asN (k : Nat) (b : List Int) (sh x : Nat) : List (List Int × Nat) := (List.range x).flatMap fun n : Nat => asgP k (b ++ [(n : Int)]) (max sh (n + 1))
theorem asN_succ (k : Nat) (b : List Int) (sh x : Nat) : asN k b sh (x + 1) = asN k b sh x ++ asgP k (b ++ [(x : Int)]) (max sh (x + 1)) := by
 unfold asN
 rw [List.range_succ, List.flatMap_append]
 simp
theorem asN_end (k : Nat) (b : List Int) (sh : Nat) : asgP (k + 1) b sh = asN k b sh (sh + 1) := rfl
theorem asN_mono {k : Nat} {b : List Int} {sh x : Nat} : ∀ y, asN k b sh x <+: asN k b sh (x + y)
 | 0 => List.prefix_refl _
 | y + 1 => (asN_mono y).trans (by rw [← Nat.add_assoc, asN_succ]; exact List.prefix_append _ _)
theorem asN_pre {k : Nat} {b : List Int} {sh x : Nat} {t : List (List Int × Nat)} (hx : x ≤ sh) (h : t <+: asgP k (b ++ [(x : Int)]) (max sh (x + 1))) : asN k b sh x ++ t <+: asgP (k + 1) b sh := by
 have h1 : asN k b sh x ++ t <+: asN k b sh (x + 1) := by rw [asN_succ]; exact (List.prefix_append_right_inj _).2 h
 have h2 := asN_mono (k := k) (b := b) (sh := sh) (x := x + 1) (sh - x)
 rw [show x + 1 + (sh - x) = sh + 1 by omega] at h2
 exact h1.trans h2
def NextR (J Jx : List AsX → World → Prop) (k : Nat) (b : List Int) (sh : Nat) (pre : List AsX) (r : Bool) (xs : List AsX) (W : World) : Prop := (r = true → xs.map asP = asgP k b sh ∧ J (pre ++ xs) W) ∧ (r = false → xs.map asP <+: asgP k b sh ∧ Jx (pre ++ xs) W)
def NextPost (J Jx : List AsX → World → Prop) (lr : Nat) (eb : Nat → Prop) (k : Nat) (b : List Int) (sh : Nat) (pre : List AsX) (w0 : World) (e : Ending) (W : World) : Prop := ∃ (r : Bool) (xs : List AsX), e = .returned (.bool r) ∧ KpB lr eb w0 W ∧ NextR J Jx k b sh pre r xs W
def NextSpec (lr gm gy gn B many : Nat) (eb : Nat → Prop) (J Jx : List AsX → World → Prop) (k : Nat) : Prop := ∀ (b : List Int) (A : Option Addr) (m c sh : Nat) (pre : List AsX) (w0 w : World), m = b.length → m ≤ c → b.length + k = many → sh ≤ b.length → KpB lr eb w0 w → B ≤ w.heap.size → RdF B w A m (ic b) → J pre w →
 Bk w gm #[.int .i64 (many : Int)] → Bk w gy #[.func (.yield lr) #[] #[]] → Bk w gn #[.func (.func 121) #[] #[.pointer (some ⟨gm, 0, none⟩), .pointer (some ⟨gy, 0, none⟩), .pointer (some ⟨gn, 0, none⟩)]] →
 Calls Tryd.prog 121 #[.slice A m c, .int .i64 (sh : Int), .pointer (some ⟨gm, 0, none⟩), .pointer (some ⟨gy, 0, none⟩), .pointer (some ⟨gn, 0, none⟩)] w (NextPost J Jx lr eb k b sh pre w0)
set_option maxHeartbeats 4000000 in
theorem next_step (lr gm gy gn B many : Nat) (eb : Nat → Prop) (J Jx : List AsX → World → Prop) (k : Nat) (b : List Int) (A : Option Addr) (c sh : Nat) (pre : List AsX) (w0 : World)  (w : World) (hlr : lr < B) (heb : ∀ b, eb b → b < B) (hxm : ¬ (gm = lr ∨ eb gm)) (hxy : ¬ (gy = lr ∨ eb gy)) (hxn : ¬ (gn = lr ∨ eb gn)) (h5 : many ≤ 5) (hJ : Calm B J) (hJx : Calm B Jx)
   (hY : ∀ pre x W1, J pre W1 → AsOx B many x W1 → YieldAt Fence.wide 6 Tryd.prog lr (asV x).toArray W1 fun e W' =>
     (e = .returned (.bool true) ∧ J (pre ++ [x]) W' ∧ KpB lr eb W1 W') ∨ (e = .returned (.bool false) ∧ Jx (pre ++ [x]) W' ∧ KpB lr eb W1 W'))
   (ih : ∀ k1, k = k1 + 1 → NextSpec lr gm gy gn B many eb J Jx k1) (hbc : b.length ≤ c) (hm : b.length + k = many) (hsh : sh ≤ b.length) (hk0 : KpB lr eb w0 w) (hB : B ≤ w.heap.size) (hb : RdF B w A b.length (ic b)) (hj : J pre w) (qm : Bk w gm #[.int .i64 (many : Int)]) (qy : Bk w gy #[.func (.yield lr) #[] #[]]) (qn : Bk w gn #[.func (.func 121) #[] #[.pointer (some ⟨gm, 0, none⟩), .pointer (some ⟨gy, 0, none⟩), .pointer (some ⟨gn, 0, none⟩)]])  :
   Calls Tryd.prog 121 #[.slice A b.length c, .int .i64 (sh : Int), .pointer (some ⟨gm, 0, none⟩), .pointer (some ⟨gy, 0, none⟩), .pointer (some ⟨gn, 0, none⟩)] w (NextPost J Jx lr eb k b sh pre w0) := by
 obtain ⟨bG, oG, SG⟩ := Sp.old hb.1
 refine px_enter noEx Tryd.func121 rfl 35 rfl [.slice A b.length c, .int .i64 (sh : Int), .pointer (some ⟨gm, 0, none⟩), .pointer (some ⟨gy, 0, none⟩), .pointer (some ⟨gn, 0, none⟩)] rfl rfl (Mem.init w _) ?_
 intro ac wc T M
 refine wp_seq ?_
 refine wp_region_lit ?_
 refine lq T (ra9 rfl evc) ?_; clear T ac; intro ac T
 refine wpList_nil ?_
 replace T := T.pick [1, 2, 3, 4, 5] rfl
 refine nt9 ?_
 refine wp_seq ?_
 refine wp_seq ?_
 refine wp_region_lit ?_
 refine lq T (rm9 rfl (T.ev 0 rfl)) ?_; clear T ac; intro ac T
 refine lq T (rn_lenS rfl Tryd.underlying27 (T.ev 0 rfl)) ?_; clear T ac; intro ac T
 refine lq T (rn_one (Mem.old M qm (fun h => h)) rfl (T.ev 4 rfl) rfl) ?_; clear T ac; intro ac T
 refine lq T (rn_eql rfl (T.ev 1 rfl) (T.ev 0 rfl)) ?_; clear T ac; intro ac T
 refine wpList_nil ?_
 replace T := T.pick [0, 4, 5, 7, 8] rfl
 refine nt9 ?_
 refine wp_if (T.ev 0 rfl) ?_ ?_
 ·intro h1
  obtain rfl : k = 0 := by omega
  refine wp_seq ?_
  refine fr_lit ?_
  refine fl_q T rfl rfl rfl rfl (rn_one (Mem.old M qy (fun h => h)) rfl (T.ev 3 rfl) rfl) ?_; clear T ac; intro ac T
  refine fl_q T rfl rfl rfl rfl (rm9 rfl (T.ev 2 rfl)) ?_; clear T ac; intro ac T
  refine fl_q T rfl rfl rfl rfl (rm9 rfl (T.ev 4 rfl)) ?_; clear T ac; intro ac T
  refine fl_y rfl ?_; intro K hK
  have hj9 := hJ _ _ _ hj ((KpN.of_below M.below).mono hB)
  have hb9 := hb.mem M
  have hk9 := hk0.trans (KpB.of M)
  have hB9 := Nat.le_trans hB M.size
  refine ow_yield T rfl rfl rfl rfl (T.ev 2 rfl) (.cons (T.ev 1 rfl) (.cons (T.ev 0 rfl) .nil)) (hY pre ⟨b, sh, A, c⟩ _ hj9 ⟨hb9, hbc, by dsimp only; omega, by dsimp only; omega⟩) ?_
  clear T M
  rintro e wc (⟨rfl, hj8, hkp⟩ | ⟨rfl, hj8, hkp⟩)
  ·refine ⟨_, rfl, ?_⟩
   intro ac T
   have M : Mem wc noEx wc [] := Mem.init wc _
   refine so9 hK _ _ ?_; clear hK K
   refine fl_q T rfl rfl rfl rfl (ra9 rfl (T.ev 0 rfl)) ?_; clear T ac; intro ac T
   refine fl_nil ?_
   replace T := T.pick [0] rfl
   refine nt9 ?_
   refine wp_ret ?_
   refine rt_then ?_
   refine rt_1 T rfl (T.ev 0 rfl) ?_
   refine ⟨true, [⟨b, sh, A, c⟩], rfl, (hk9.trans hkp).trans (KpB.of M), ?_, ?_⟩
   exact fun _ => ⟨rfl, hJ _ _ _ hj8 ((KpN.of_below M.below).mono (Nat.le_trans hB9 hkp.size))⟩
   exact fun h => by cases h
  refine ⟨_, rfl, ?_⟩
  intro ac T
  have M : Mem wc noEx wc [] := Mem.init wc _
  refine so9 hK _ _ ?_; clear hK K
  refine fl_q T rfl rfl rfl rfl (ra9 rfl (T.ev 0 rfl)) ?_; clear T ac; intro ac T
  refine fl_nil ?_
  replace T := T.pick [0] rfl
  refine nt9 ?_
  refine wp_ret ?_
  refine rt_then ?_
  refine rt_1 T rfl (T.ev 0 rfl) ?_
  refine ⟨false, [⟨b, sh, A, c⟩], rfl, (hk9.trans hkp).trans (KpB.of M), ?_, ?_⟩
  exact fun h => by cases h
  exact fun _ => ⟨List.prefix_refl _, hJx _ _ _ hj8 ((KpN.of_below M.below).mono (Nat.le_trans hB9 hkp.size))⟩
 intro h1
 obtain ⟨k1, rfl⟩ : ∃ k1, k = k1 + 1 := ⟨k - 1, by omega⟩
 refine wp_skip ?_
 refine nt9 ?_
 refine wp_seq ?_
 refine wp_seq ?_
 refine wp_region_lit ?_
 refine lq T (rm9 rfl (T.ev 2 rfl)) ?_; clear T ac; intro ac T
 refine lq T (rn_add rfl (T.ev 0 rfl) evc (by omega)) ?_; clear T ac; intro ac T
 refine lq T (rm9 rfl evc) ?_; clear T ac; intro ac T
 refine wpList_nil ?_
 replace T := T.pick [0, 1, 4, 5, 7] rfl
 refine nt9 ?_
 refine wp_block ?_
 refine wp_loop_n (fun mz ac wc => ∃ (w : World) (x : Nat) (xs : List AsX), mz = sh + 1 - x ∧ (x ≤ sh + 1) ∧ (xs.map asP = asN k1 b sh x) ∧ (J (pre ++ xs) w) ∧ (KpB lr eb w0 w) ∧ (B ≤ w.heap.size) ∧ (RdF B w A b.length (ic b)) ∧ (Bk w gm #[.int .i64 (many : Int)]) ∧ (Bk w gy #[.func (.yield lr) #[] #[]]) ∧ (Bk w gn #[.func (.func 121) #[] #[.pointer (some ⟨gm, 0, none⟩), .pointer (some ⟨gy, 0, none⟩), .pointer (some ⟨gn, 0, none⟩)]]) ∧ Tm ac 35 [(0, .slice A b.length c), (1, .int .i64 (sh : Int)), (4, .pointer (some ⟨gn, 0, none⟩)), (18, .int .i64 ((sh : Int) + 1)), (19, .int .i64 (x : Int))] ∧ Mem w noEx wc []) ?_ ?_
 ·exact ⟨_, w, 0, [], rfl, (by omega), rfl, (by simpa using hj), hk0, hB, hb, qm, qy, qn, T.pick [2, 3, 4, 1, 0] rfl, M.mask [] rfl⟩
 clear T M
 rintro mz ac wc ⟨w, x, xs, hmm1, hx, hp, hj, hk0, hB, hb, qm, qy, qn, T, M⟩
 refine wp_seq ?_
 refine wp_region_lit ?_
 refine lq T (rn_lss rfl (T.ev 4 rfl) (T.ev 3 rfl)) ?_; clear T ac; intro ac T
 refine wpList_nil ?_
 refine nt9 ?_
 refine wp_seq ?_
 refine wp_if (T.ev 0 rfl) ?_ ?_
 ·intro h2
  obtain ⟨bG, oG, SG⟩ := Sp.old hb.1
  refine wp_skip ?_
  refine nt9 ?_
  refine wp_seq ?_
  refine wp_block ?_
  refine wp_seq ?_
  refine wp_region_lit ?_
  refine lq T (rm9 rfl (T.ev 5 rfl)) ?_; clear T ac; intro ac T
  refine lq T (ra9 rfl (T.ev 0 rfl)) ?_; clear T ac; intro ac T
  refine wpList_nil ?_
  replace T := T.pick [0, 3, 4, 5, 6, 7] rfl
  refine nt9 ?_
  refine cut_seq (fun ac wc => ∃ (Acur6_2 : Option Addr), ∃ (ccur6_2 : Nat), ∃ (Icur6_2 : List (Nat × BA)), ∃ (rur6_10 : Bool), ∃ (xsur6_10 : List AsX), ∃ (w : World), (Cl 3 1 Acur6_2 b.length ccur6_2 (ic b) Icur6_2) ∧ (NextR J Jx k1 (b ++ [(x : Int)]) (max sh (x + 1)) (pre ++ xs) rur6_10 xsur6_10 w) ∧ (Bk w gm #[.int .i64 (many : Int)]) ∧ (Bk w gy #[.func (.yield lr) #[] #[]]) ∧ (Bk w gn #[.func (.func 121) #[] #[.pointer (some ⟨gm, 0, none⟩), .pointer (some ⟨gy, 0, none⟩), .pointer (some ⟨gn, 0, none⟩)]]) ∧ (RdF B w A b.length (ic b)) ∧ (B ≤ w.heap.size) ∧ (KpB lr eb w0 w) ∧ Tm ac 35 [(0, .slice A b.length c), (1, .int .i64 (sh : Int)), (4, .pointer (some ⟨gn, 0, none⟩)), (18, .int .i64 ((sh : Int) + 1)), (19, .int .i64 (x : Int)), (33, .bool (!rur6_10))] ∧ Mem w noEx wc []) ?_ ?_
  ·refine g_startT M 12 (by kernel_rfl) rfl (by kernel_rfl) ?_
   clear M; intro wc M
   refine g_addG 10 M ?_
   refine g_q (T := T) (i := 0) rfl (by kernel_rfl) (by kernel_rfl : (pbits 12 0).setIfInBounds 0 true = pbits 12 1) (si_and (si_G rfl) si_T) (fun _ _ _ h => h) rfl rfl rfl rfl (fun B w' hD hl hS => (rn_one (Mem.old (show Mem w noEx w' _ from ((MA.lft hS) (hD.wait (i := 0) (m := 10) (by kernel_rfl) hl))) qn (fun h => h)) rfl (T.ev 3 rfl) rfl)) ?_; clear T ac; intro ac T
   refine g_q (T := T) (i := 1) rfl (by kernel_rfl) (by kernel_rfl : (pbits 12 1).setIfInBounds 1 true = pbits 12 3) (si_and (si_G rfl) si_T) (fun _ _ _ h => h) rfl rfl rfl rfl (fun _ _ _ _ _ => (rm9 rfl (T.ev 2 rfl))) ?_; clear T ac; intro ac T
   refine g_q (T := T) (i := 3) rfl (by kernel_rfl) (by kernel_rfl : (pbits 12 3).setIfInBounds 3 true = pbits 12 11) (si_and (si_G rfl) si_T) (fun _ _ _ h => h) rfl rfl rfl rfl (fun _ _ _ _ _ => (rm9 rfl (T.ev 2 rfl))) ?_; clear T ac; intro ac T
   refine g_q (T := T) (i := 6) rfl (by kernel_rfl) (by kernel_rfl : (pbits 12 11).setIfInBounds 6 true = pbits 12 75) (si_and (si_G rfl) si_T) (fun _ _ _ h => h) rfl rfl rfl rfl (fun _ _ _ _ _ => (rm9 rfl (T.ev 5 rfl))) ?_; clear T ac; intro ac T
   refine g_q (T := T) (i := 7) rfl (by kernel_rfl) (by kernel_rfl : (pbits 12 75).setIfInBounds 7 true = pbits 12 203) (si_and (si_G rfl) si_T) (fun _ _ _ h => h) rfl rfl rfl rfl (fun _ _ _ _ _ => (rm9 rfl (T.ev 4 rfl))) ?_; clear T ac; intro ac T
   refine g_q (T := T) (i := 8) rfl (by kernel_rfl) (by kernel_rfl : (pbits 12 203).setIfInBounds 8 true = pbits 12 459) (si_and (si_G rfl) si_T) (fun _ _ _ h => h) rfl rfl rfl rfl (fun _ _ _ _ _ => (rn_add rfl (T.ev 0 rfl) evc (by omega))) ?_; clear T ac; intro ac T
   refine g_q (T := T) (i := 9) rfl (by kernel_rfl) (by kernel_rfl : (pbits 12 459).setIfInBounds 9 true = pbits 12 971) (si_and (si_G rfl) si_T) (fun _ _ _ h => h) rfl rfl rfl rfl (fun _ _ _ _ _ => (rn_max2 rfl (T.ev 2 rfl) (T.ev 0 rfl))) ?_; clear T ac; intro ac T
   refine g_m2 (i := 2) (j := 4) (by kernel_rfl) ?_ ?_
   ·refine gi 975 ?_; intro K hK
    refine oc9 (first := []) (cap := []) T rfl rfl rfl rfl evf (.cons (T.ev 5 rfl) .nil) Tryd.func122 rfl rfl ?_
    refine Calls.mono (cloneI_any A c b _ (SG.rd M (List.nil_sublist _)) (by omega)) ?_
    clear T
    rintro e wc ⟨Acur6_2, ccur6_2, Icur6_2, rfl, hclur6_2, N⟩
    intro ac T
    replace M := (M.join N).swapI
    clear N
    replace M : Mem w noEx wc (Icur6_2) := M
    refine so9 hK _ _ (MA.mk (fun _ => M.perm [] rfl rfl) trivial) ?_; clear hK K
    refine gw 4 991 ?_; intro K hK
    refine ow_bs (e := 3) [.int .i64 (x : Int)] M T rfl rfl rfl rfl (.cons (T.ev 5 rfl) .nil) (fun _ => by kernel_rfl) ?_; clear M T; intro gr6_4 wc ac M T
    refine so9 hK _ _ (MA.mk (fun _ => M.perm [] rfl rfl) trivial) ?_; clear hK K
    refine gw 5 1023 ?_; intro K hK
    refine ow_appC ([(gr6_4, .cells [.int .i64 (x : Int)])]) Tryd.info3 hclur6_2 M (by first | rfl | simp) T rfl rfl rfl rfl Tryd.underlying27 rfl rfl rfl (by omega) (T.ev 1 rfl) (T.ev 0 rfl) (nthE_mem (i := 0) rfl) rfl rfl ?_; clear M T; intro ga1 cga1 wc ac M T
    refine so9 hK _ _ (MA.mk (fun _ => M.mask [false, false] rfl) trivial) ?_; clear hK K
    refine gw 10 2047 ?_; intro K hK
    have e9 : max (sh : Int) ((x : Int) + 1) = ((max sh (x + 1) : Nat) : Int) := by omega
    rw [e9] at T
    refine oc9 (first := []) (cap := [.pointer (some ⟨gm, 0, none⟩), .pointer (some ⟨gy, 0, none⟩), .pointer (some ⟨gn, 0, none⟩)]) T rfl rfl rfl rfl (T.ev 9 rfl) (.cons (T.ev 0 rfl) (.cons (T.ev 3 rfl) .nil)) Tryd.func121 rfl rfl ?_
    refine Calls.mono (ih k1 rfl (b ++ [(x : Int)]) _ _ _ _ (pre ++ xs) _ _ (by simp) ((Cl.row _ _ ga1 _ _ _).capLe M (List.Sublist.cons_cons _ (List.nil_sublist _))) (by simp; omega) (by simp; omega) (KpB.of (Mem.init _ _)) (Nat.le_trans hB M.size) ⟨by rw [← ic_snoc]; exact M.rdRow (nthE_mem (i := 0) rfl), fun b9 o9 h9 _ => by injection h9 with h9; injection h9 with h9 _ _; rw [← h9]; exact Nat.le_trans hB (M.ge (nthE_mem (i := 0) rfl))⟩ (hJ _ _ _ hj ((KpN.of_below M.below).mono hB)) (M.old qm (fun h => h)) (M.old qy (fun h => h)) (M.old qn (fun h => h))) ?_
    clear T
    rintro e wc ⟨rur6_10, xsur6_10, rfl, hkpur6_10, hnrur6_10⟩
    intro ac T
    have hkpur6_10 := (KpB.of M).trans hkpur6_10
    clear M
    have qm := Mem.old hkpur6_10 qm hxm
    have qy := Mem.old hkpur6_10 qy hxy
    have qn := Mem.old hkpur6_10 qn hxn
    have hb := hkpur6_10.rdF hlr heb hb
    have hk0 := hk0.trans hkpur6_10
    have hB := Nat.le_trans hB hkpur6_10.size
    obtain ⟨w, hwe⟩ : ∃ q : World, q = wc := ⟨_, rfl⟩
    have M : Mem w noEx wc [] := by rw [hwe]; exact Mem.init wc _
    rw [← hwe] at qm qy qn hb hB hk0 hnrur6_10
    clear hwe hkpur6_10
    refine so9 hK _ _ (MA.mk (fun h => (no_of (by kernel_rfl) h).elim) trivial) ?_; clear hK K
    refine g_q (T := T) (i := 11) rfl (by kernel_rfl) (by kernel_rfl : (pbits 12 2047).setIfInBounds 11 true = pbits 12 4095) (si_and (si_G rfl) si_T) (fun _ _ _ h => h) rfl rfl rfl rfl (fun _ _ _ _ _ => (rn_not rfl (T.ev 0 rfl))) ?_; clear T ac; intro ac T
    refine g_done (by kernel_rfl) ?_
    replace T := T.pick [0, 13, 14, 15, 16, 17] rfl
    exact ⟨Acur6_2, ccur6_2, Icur6_2, rur6_10, xsur6_10, w, hclur6_2, hnrur6_10, qm, qy, qn, hb, hB, hk0, (T.pick (E' := [(0, .slice A b.length c), (1, .int .i64 (sh : Int)), (4, .pointer (some ⟨gn, 0, none⟩)), (18, .int .i64 ((sh : Int) + 1)), (19, .int .i64 (x : Int)), (33, .bool (!rur6_10))]) [1, 2, 3, 4, 5, 0] rfl).as (by rfl), M.mask [] rfl⟩
   refine gi 987 ?_; intro K hK
   refine ow_bs (e := 3) [.int .i64 (x : Int)] M T rfl rfl rfl rfl (.cons (T.ev 4 rfl) .nil) (fun _ => by kernel_rfl) ?_; clear M T; intro gr6_4 wc ac M T
   refine so9 hK _ _ (MA.mk (fun _ => M.mask [false] rfl) trivial) ?_; clear hK K
   refine gw 2 991 ?_; intro K hK
   refine oc9 (first := []) (cap := []) T rfl rfl rfl rfl evf (.cons (T.ev 6 rfl) .nil) Tryd.func122 rfl rfl ?_
   refine Calls.mono (cloneI_any A c b _ (SG.rd M (List.nil_sublist _)) (by omega)) ?_
   clear T
   rintro e wc ⟨Acur6_2, ccur6_2, Icur6_2, rfl, hclur6_2, N⟩
   intro ac T
   replace M := (M.join N).swapI
   clear N
   replace M : Mem w noEx wc ((gr6_4, .cells [.int .i64 (x : Int)]) :: Icur6_2) := M
   refine so9 hK _ _ (MA.mk (fun _ => M.perm [] rfl rfl) trivial) ?_; clear hK K
   refine gw 5 1023 ?_; intro K hK
   refine ow_appC ([(gr6_4, .cells [.int .i64 (x : Int)])]) Tryd.info3 hclur6_2 M (by first | rfl | simp) T rfl rfl rfl rfl Tryd.underlying27 rfl rfl rfl (by omega) (T.ev 0 rfl) (T.ev 1 rfl) (nthE_mem (i := 0) rfl) rfl rfl ?_; clear M T; intro ga2 cga2 wc ac M T
   refine so9 hK _ _ (MA.mk (fun _ => M.mask [false, false] rfl) trivial) ?_; clear hK K
   refine gw 10 2047 ?_; intro K hK
   have e9 : max (sh : Int) ((x : Int) + 1) = ((max sh (x + 1) : Nat) : Int) := by omega
   rw [e9] at T
   refine oc9 (first := []) (cap := [.pointer (some ⟨gm, 0, none⟩), .pointer (some ⟨gy, 0, none⟩), .pointer (some ⟨gn, 0, none⟩)]) T rfl rfl rfl rfl (T.ev 9 rfl) (.cons (T.ev 0 rfl) (.cons (T.ev 3 rfl) .nil)) Tryd.func121 rfl rfl ?_
   refine Calls.mono (ih k1 rfl (b ++ [(x : Int)]) _ _ _ _ (pre ++ xs) _ _ (by simp) ((Cl.row _ _ ga2 _ _ _).capLe M (List.Sublist.cons_cons _ (List.nil_sublist _))) (by simp; omega) (by simp; omega) (KpB.of (Mem.init _ _)) (Nat.le_trans hB M.size) ⟨by rw [← ic_snoc]; exact M.rdRow (nthE_mem (i := 0) rfl), fun b9 o9 h9 _ => by injection h9 with h9; injection h9 with h9 _ _; rw [← h9]; exact Nat.le_trans hB (M.ge (nthE_mem (i := 0) rfl))⟩ (hJ _ _ _ hj ((KpN.of_below M.below).mono hB)) (M.old qm (fun h => h)) (M.old qy (fun h => h)) (M.old qn (fun h => h))) ?_
   clear T
   rintro e wc ⟨rur6_10, xsur6_10, rfl, hkpur6_10, hnrur6_10⟩
   intro ac T
   have hkpur6_10 := (KpB.of M).trans hkpur6_10
   clear M
   have qm := Mem.old hkpur6_10 qm hxm
   have qy := Mem.old hkpur6_10 qy hxy
   have qn := Mem.old hkpur6_10 qn hxn
   have hb := hkpur6_10.rdF hlr heb hb
   have hk0 := hk0.trans hkpur6_10
   have hB := Nat.le_trans hB hkpur6_10.size
   obtain ⟨w, hwe⟩ : ∃ q : World, q = wc := ⟨_, rfl⟩
   have M : Mem w noEx wc [] := by rw [hwe]; exact Mem.init wc _
   rw [← hwe] at qm qy qn hb hB hk0 hnrur6_10
   clear hwe hkpur6_10
   refine so9 hK _ _ (MA.mk (fun h => (no_of (by kernel_rfl) h).elim) trivial) ?_; clear hK K
   refine g_q (T := T) (i := 11) rfl (by kernel_rfl) (by kernel_rfl : (pbits 12 2047).setIfInBounds 11 true = pbits 12 4095) (si_and (si_G rfl) si_T) (fun _ _ _ h => h) rfl rfl rfl rfl (fun _ _ _ _ _ => (rn_not rfl (T.ev 0 rfl))) ?_; clear T ac; intro ac T
   refine g_done (by kernel_rfl) ?_
   replace T := T.pick [0, 13, 14, 15, 16, 17] rfl
   exact ⟨Acur6_2, ccur6_2, Icur6_2, rur6_10, xsur6_10, w, hclur6_2, hnrur6_10, qm, qy, qn, hb, hB, hk0, (T.pick (E' := [(0, .slice A b.length c), (1, .int .i64 (sh : Int)), (4, .pointer (some ⟨gn, 0, none⟩)), (18, .int .i64 ((sh : Int) + 1)), (19, .int .i64 (x : Int)), (33, .bool (!rur6_10))]) [1, 2, 3, 4, 5, 0] rfl).as (by rfl), M.mask [] rfl⟩
  clear T M
  rintro ac wc ⟨Acur6_2, ccur6_2, Icur6_2, rur6_10, xsur6_10, w, hclur6_2, hnrur6_10, qm, qy, qn, hb, hB, hk0, T, M⟩
  refine wp_cond_split (T.ev 5 rfl) ?_ ?_
  ·intro h3
   (try have h3' := h3; try simp only [Bool.and_eq_true, Bool.or_eq_true, Bool.not_eq_true', Bool.and_eq_false_imp, Bool.or_eq_false_iff, decide_eq_true_eq, decide_eq_false_iff_not] at h3')
   refine wp_seq ?_
   refine wp_region_lit ?_
   refine lq T (ra9 rfl evc) ?_; clear T ac; intro ac T
   refine wpList_nil ?_
   replace T := T.pick [0] rfl
   refine nt9 ?_
   refine wp_ret ?_
   refine rt_blk ?_
   refine rt_then ?_
   refine rt_then ?_
   refine rt_blk ?_
   refine rt_then ?_
   refine rt_1 T rfl (T.ev 0 rfl) ?_
   have hr9 : rur6_10 = false := by simp_all
   have h8 := hnrur6_10.2 hr9
   refine ⟨false, xs ++ xsur6_10, rfl, hk0.trans (KpB.of M), (fun h => by cases h), fun _ => ⟨(by rw [List.map_append, hp]; exact asN_pre (by omega) h8.1), ?_⟩⟩
   rw [← List.append_assoc]
   exact hJx _ _ _ h8.2 ((KpN.of_below M.below).mono hB)
  intro h3
  (try have h3' := h3; try simp only [Bool.and_eq_true, Bool.or_eq_true, Bool.not_eq_true', Bool.and_eq_false_imp, Bool.or_eq_false_iff, decide_eq_true_eq, decide_eq_false_iff_not] at h3')
  refine wp_skip ?_
  refine nm_blk ?_
  refine nt9 ?_
  refine wp_region_lit ?_
  refine lq T (rn_add rfl (T.ev 4 rfl) evc (by omega)) ?_; clear T ac; intro ac T
  refine l_q (v := (.int .i64 ((x : Int) + 1))) (T.pick [0, 1, 2, 3, 4, 6] rfl) rfl rfl rfl rfl (rm9 rfl (T.ev 0 rfl)) ?_; clear T ac; intro ac T
  refine wpList_nil ?_
  replace T := T.pick [0, 2, 3, 4, 5] rfl
  refine nt9 ?_
  exact ⟨_, by omega, _, x + 1, (xs ++ xsur6_10), rfl, (by omega), (by rw [List.map_append, hp, (hnrur6_10.1 (by simp_all)).1, asN_succ]), (by rw [← List.append_assoc]; exact (hnrur6_10.1 (by simp_all)).2), hk0, hB, hb, qm, qy, qn, T.pick [1, 2, 3, 4, 0] rfl, M.mask [] rfl⟩
 intro h2
 refine wp_exit ?_
 refine ex_then ?_
 refine ex_then ?_
 refine ex_hit ?_
 refine nt9 ?_
 refine wp_seq ?_
 refine wp_region_lit ?_
 refine lq T (ra9 rfl evc) ?_; clear T ac; intro ac T
 refine wpList_nil ?_
 replace T := T.pick [0] rfl
 refine nt9 ?_
 refine wp_ret ?_
 refine rt_1 T rfl (T.ev 0 rfl) ?_
 refine ⟨true, xs, rfl, hk0.trans (KpB.of M), fun _ => ⟨(by rw [asN_end, hp, show x = sh + 1 by omega]), hJ _ _ _ hj ((KpN.of_below M.below).mono hB)⟩, (fun h => by cases h)⟩
end Go.Proofs.YtehpcclfgjccbaaDoor
end

section
/-
 sheet: all assignments, handed out: the iterator.
-/
namespace Go.Proofs.YtehpcclfgjccbaaDoor
set_option linter.unusedSimpArgs false
set_option linter.unusedVariables false
open Go.RowKit
theorem next_any (lr gm gy gn B many : Nat) (eb : Nat → Prop) (J Jx : List AsX → World → Prop) (hlr : lr < B) (heb : ∀ b, eb b → b < B) (hxm : ¬ (gm = lr ∨ eb gm)) (hxy : ¬ (gy = lr ∨ eb gy)) (hxn : ¬ (gn = lr ∨ eb gn)) (h5 : many ≤ 5) (hJ : Calm B J) (hJx : Calm B Jx)
  (hY : ∀ pre x W1, J pre W1 → AsOx B many x W1 → YieldAt Fence.wide 6 Tryd.prog lr (asV x).toArray W1 fun e W' =>
   (e = .returned (.bool true) ∧ J (pre ++ [x]) W' ∧ KpB lr eb W1 W') ∨ (e = .returned (.bool false) ∧ Jx (pre ++ [x]) W' ∧ KpB lr eb W1 W')) (k : Nat) : NextSpec lr gm gy gn B many eb J Jx k := by
 induction k with
 | zero =>
  intro b A m c sh pre w0 w hm hc hk hs hk0 hB hb hj qm qy qn
  subst hm
  exact next_step lr gm gy gn B many eb J Jx 0 b A c sh pre w0 w hlr heb hxm hxy hxn h5 hJ hJx hY (fun k1 h => by omega) hc hk hs hk0 hB hb hj qm qy qn
 | succ k ih =>
  intro b A m c sh pre w0 w hm hc hk hs hk0 hB hb hj qm qy qn
  subst hm
  exact next_step lr gm gy gn B many eb J Jx (k + 1) b A c sh pre w0 w hlr heb hxm hxy hxn h5 hJ hJx hY (fun k1 h => by
   obtain rfl : k = k1 := by omega
   exact ih) hc hk hs hk0 hB hb hj qm qy qn
theorem asg1_in (lr b1 B many : Nat) (eb : Nat → Prop) (J Jx : List AsX → World → Prop)  (w : World) (h5 : many ≤ 5) (hx1 : ¬ (b1 = lr ∨ eb b1)) (hlr : lr < B) (heb : ∀ b, eb b → b < B) (hB : B ≤ w.heap.size) (hJ : Calm B J) (hJx : Calm B Jx)
  (hY : ∀ pre x W1, J pre W1 → AsOx B many x W1 → YieldAt Fence.wide 6 Tryd.prog lr (asV x).toArray W1 fun e W' =>
   (e = .returned (.bool true) ∧ J (pre ++ [x]) W' ∧ KpB lr eb W1 W') ∨ (e = .returned (.bool false) ∧ Jx (pre ++ [x]) W' ∧ KpB lr eb W1 W'))
  (q1 : Bk w b1 #[.int .i64 (many : Int)]) (hj : J [] w) :
  Calls Tryd.prog 120 #[.func (.yield lr) #[] #[], .pointer (some ⟨b1, 0, none⟩)] w fun e W' => (∃ v, e = .returned v) ∧ ((∃ xs : List AsX, xs.map asP = asgP many [] 0 ∧ J xs W') ∨ (∃ pre : List AsX, pre.map asP <+: asgP many [] 0 ∧ Jx pre W')) := by
 refine px_enter noEx Tryd.func120 rfl 7 rfl [.func (.yield lr) #[] #[], .pointer (some ⟨b1, 0, none⟩)] rfl rfl (Mem.init w _) ?_
 intro ac wc T M
 refine wp_seq ?_
 refine wp_region_lit ?_
 refine l_w rfl ?_; intro K hK
 refine ow_bx M T rfl rfl rfl rfl (T.ev 0 rfl) rfl ?_; clear M T; intro g1 wc ac M T
 refine so9 hK _ _ ?_; clear hK K
 refine wpList_nil ?_
 replace T := T.pick [0, 2] rfl
 refine nt9 ?_
 refine wp_seq ?_
 refine wp_region_lit ?_
 refine l_w rfl ?_; intro K hK
 refine ow_al M T rfl rfl rfl rfl ?_; clear M T; intro g2 wc ac M T
 refine so9 hK _ _ ?_; clear hK K
 refine wpList_nil ?_
 refine nt9 ?_
 refine wp_seq ?_
 refine wp_region_lit ?_
 refine lq (v := (.func (.func 121) #[] #[.pointer (some ⟨b1, 0, none⟩), .pointer (some ⟨g1, 0, none⟩), .pointer (some ⟨g2, 0, none⟩)])) T (rn_makeFunc rfl .nil (.cons (T.ev 2 rfl) (.cons (T.ev 1 rfl) (.cons (T.ev 0 rfl) .nil)))) ?_; clear T ac; intro ac T
 refine l_w rfl ?_; intro K hK
 refine ow_stO M T rfl rfl (T.ev 1 rfl) (T.ev 0 rfl) rfl .head rfl (by simp) rfl (by kernel_rfl) ?_; clear M T; intro wc ac M T
 refine so9 hK _ _ ?_; clear hK K
 refine wpList_nil ?_
 replace T := T.pick [1] rfl
 refine nt9 ?_
 refine wp_region_lit ?_
 refine lq T (rn_one (Mem.nth M 0 rfl) rfl (T.ev 0 rfl) rfl) ?_; clear T ac; intro ac T
 refine l_w rfl ?_; intro K hK
 have hgy := Nat.le_trans hB (M.ge (nthE_mem (i := 1) rfl))
 have hgn := Nat.le_trans hB (M.ge (nthE_mem (i := 0) rfl))
 have hj := hJ _ _ _ hj ((KpN.of_below M.below).mono hB)
 refine oc9 (first := []) (cap := [.pointer (some ⟨b1, 0, none⟩), .pointer (some ⟨g1, 0, none⟩), .pointer (some ⟨g2, 0, none⟩)]) T rfl rfl rfl rfl (T.ev 0 rfl) (.cons evc (.cons evc .nil)) Tryd.func121 rfl rfl ?_
 refine Calls.mono (next_any lr b1 g1 g2 B many eb J Jx hlr heb hx1 (fun h9 => h9.elim (fun h9 => by omega) (fun h9 => by have := heb _ h9; omega)) (fun h9 => h9.elim (fun h9 => by omega) (fun h9 => by have := heb _ h9; omega)) h5 hJ hJx hY many [] none 0 0 0 [] _ _ rfl (Nat.le_refl _) (by simp) (Nat.le_refl _) (KpB.of (Mem.init _ _)) (Nat.le_trans hB M.size) ⟨⟨by simp [ic], fun h => absurd h (by omega)⟩, fun _ _ h => by cases h⟩ hj (M.old q1 (fun h => h)) (M.nth 1 rfl) (M.nth 0 rfl)) ?_
 clear T
 rintro e wc ⟨ru1, xsu1, rfl, hkpu1, hnru1⟩
 intro ac T
 clear M
 have M : Mem wc noEx wc [] := Mem.init wc _
 refine so9 hK _ _ ?_; clear hK K
 refine wpList_nil ?_
 replace T := T.pick [] rfl
 refine nm_0 T rfl ?_
 unfold NextR at hnru1
 simp only [List.nil_append] at hnru1
 cases ru1 with
 | true => exact ⟨⟨_, rfl⟩, .inl ⟨xsu1, hnru1.1 rfl⟩⟩
 | false => exact ⟨⟨_, rfl⟩, .inr ⟨xsu1, hnru1.2 rfl⟩⟩
theorem asg_seq (b1 many : Nat) (eb : Nat → Prop) (w : World) (h5 : many ≤ 5) (hx1 : ¬ eb b1) (heb : ∀ b, eb b → b < w.heap.size) (q1 : Bk w b1 #[.int .i64 (many : Int)]) :
  SeqB (α := AsX) Tryd.prog 120 #[.pointer (some ⟨b1, 0, none⟩)] (fun x => (asV x).toArray) eb (AsOx w.heap.size many) (fun xs => xs.map asP = asgP many [] 0) (fun pre => pre.map asP <+: asgP many [] 0) w :=
 fun lr J Jx W hW hl1 hl2 hJ hJx hY hj => asg1_in lr b1 W.heap.size many eb J Jx W h5 (fun h => h.elim (fun h => by have := q1.lt; omega) hx1) hl2 (fun b h => Nat.lt_of_lt_of_le (heb b h) hW.size) (Nat.le_refl _) hJ hJx (fun pre x W1 h1 h2 => hY pre x W1 h1 ⟨h2.1.le hW.size, h2.2⟩) (q1.below hW) hj
def AsgPost (many : Nat) (w : World) (e : Ending) (w' : World) : Prop := ∃ g, e = .returned (.func (.func 120) #[] #[.pointer (some ⟨g, 0, none⟩)]) ∧ Mem w noEx w' [(g, .cells [.int .i64 (many : Int)])]
theorem asg_any (many : Nat) (w : World)  :
  Calls Tryd.prog 109 #[.int .i64 (many : Int)] w (AsgPost many w) := by
 refine px_enter noEx Tryd.func109 rfl 4 rfl [.int .i64 (many : Int)] rfl rfl (Mem.init w _) ?_
 intro ac wc T M
 refine wp_seq ?_
 refine wp_region_lit ?_
 refine l_w rfl ?_; intro K hK
 refine ow_bx M T rfl rfl rfl rfl (T.ev 0 rfl) rfl ?_; clear M T; intro g1 wc ac M T
 refine so9 hK _ _ ?_; clear hK K
 refine lq T (ra9 rfl evc) ?_; clear T ac; intro ac T
 refine wpList_nil ?_
 replace T := T.pick [1] rfl
 refine nt9 ?_
 refine wp_seq ?_
 refine wp_region_lit ?_
 refine lq (v := (.func (.func 120) #[] #[.pointer (some ⟨g1, 0, none⟩)])) T (rn_makeFunc rfl .nil (.cons (T.ev 0 rfl) .nil)) ?_; clear T ac; intro ac T
 refine lq T (ra9 rfl (T.ev 0 rfl)) ?_; clear T ac; intro ac T
 refine wpList_nil ?_
 replace T := T.pick [0] rfl
 refine nt9 ?_
 refine wp_ret ?_
 refine rt_1 T rfl (T.ev 0 rfl) ?_
 exact ⟨g1, rfl, M⟩
end Go.Proofs.YtehpcclfgjccbaaDoor
end

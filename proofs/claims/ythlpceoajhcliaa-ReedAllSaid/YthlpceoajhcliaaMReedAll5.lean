/-
  The law ReedAll, walked.
-/
import Derived.Test.YthlpceoajhcliaaMReedAll1
import Derived.Test.YthlpceoajhcliaaMReedAll2
import Derived.Test.YthlpceoajhcliaaMReedAll3
import Derived.Test.YthlpceoajhcliaaMReedAll4
namespace Go.Proofs.Ythlpceoajhcliaa
set_option linter.unusedSimpArgs false
set_option linter.unusedVariables false
open Go.RowKit

theorem all_strokes {j : Jb} (hj : j.good) (A : Option Addr) (c bx : Nat) : ∀ (r : List Int), r.length ≤ 6 → (∀ k ∈ r, k = 1 ∨ k = 2) → AllStC j A c bx r
  | [], _, _ => fun e a b c9 B d w ha hb hc he hr hneA hB hneB hcap hp => by
    have ha : -5000 + 500 * ((0 : Nat) : Int) ≤ a ∧ a ≤ 5000 - 500 * ((0 : Nat) : Int) := ha
    have hb : -5000 + 500 * ((0 : Nat) : Int) ≤ b ∧ b ≤ 5000 - 500 * ((0 : Nat) : Int) := hb
    have hc : -5000 + 500 * ((0 : Nat) : Int) ≤ c9 ∧ c9 ≤ 5000 - 500 * ((0 : Nat) : Int) := hc
    rw [trT_nil] at he ⊢
    exact all_shifts hj A c bx j.sh.length 0 (by omega) e a b c9 B d none 0 [] w rfl (by omega) (by omega) (by omega) he hr hneA Rd.empty (fun b o h => by cases h) (fun s hs => by cases hs) hp
  | k :: r, hl, hk => fun e a b c9 B d w ha hb hc he hr hneA hB hneB hcap hp =>
    all_stroke bx e j A c a b c9 k r B d w hj ha hb hc hr hneA hB hneB (by simpa using hl) hcap (hk k List.mem_cons_self) hp he (all_strokes hj A c bx r (by have : r.length + 1 ≤ 6 := hl; omega) fun q hq => hk q (List.mem_cons_of_mem _ hq))
theorem flat_le {α β : Type} (F : α → List β) (m : Nat) : ∀ (l : List α), (∀ x ∈ l, (F x).length ≤ m) → (l.flatMap F).length ≤ l.length * m
  | [], _ => by simp
  | x :: l, h => by
    rw [List.flatMap_cons, List.length_append, List.length_cons, Nat.add_mul, Nat.one_mul]
    have h1 := h x List.mem_cons_self
    have h2 := flat_le F m l fun y hy => h y (List.mem_cons_of_mem _ hy)
    omega
theorem shT_le : ∀ (sh : List (Int × Int)) (acc : List Int), (∀ s ∈ sh, s.2 ≤ s.1 + 2) → (shT sh acc).length ≤ 3 ^ sh.length
  | [], acc, _ => by simp [shT]
  | s :: sh, acc, h => by
    have h1 := h s List.mem_cons_self
    rw [shT, List.length_cons, Nat.pow_succ, Nat.mul_comm]
    refine Nat.le_trans (flat_le _ (3 ^ sh.length) _ fun n _ => shT_le sh _ fun q hq => h q (List.mem_cons_of_mem _ hq)) (Nat.mul_le_mul_right _ ?_)
    rw [rangeI_length]
    omega
theorem stT_le {j : Jb} (hu : j.u1 - j.u0 ≤ 2) (hd : j.d1 - j.d0 ≤ 2) (ha : 0 ≤ j.a0 ∧ j.a1 ≤ 5) (hb : 0 ≤ j.b0 ∧ j.b1 ≤ 5) : ∀ (l : List Int) (f : Int × Int × Int), (stT j l f).length ≤ 18 ^ l.length
  | [], f => by simp [stT]
  | k :: r, f => by
    rw [stT, List.length_cons, Nat.pow_succ, Nat.mul_comm]
    have h1 : (rangeI (upR j k).1 (upR j k).2).length ≤ 3 := by rw [rangeI_length]; unfold upR; split <;> dsimp only <;> omega
    have h2 : (rangeI (wearR j k).1 (wearR j k).2).length ≤ 6 := by rw [rangeI_length]; unfold wearR; split <;> dsimp only <;> omega
    refine Nat.le_trans (flat_le _ (6 * 18 ^ r.length) _ fun n _ => Nat.le_trans (flat_le _ (18 ^ r.length) _ fun w _ => stT_le hu hd ha hb r _) (Nat.mul_le_mul_right _ h2)) ?_
    have := Nat.mul_le_mul_right (6 * 18 ^ r.length) h1
    omega
theorem trT_le {j : Jb} (hu : j.u1 - j.u0 ≤ 2) (hd : j.d1 - j.d0 ≤ 2) (ha : 0 ≤ j.a0 ∧ j.a1 ≤ 5) (hb : 0 ≤ j.b0 ∧ j.b1 ≤ 5) (hs : ∀ s ∈ j.sh, s.2 ≤ s.1 + 2) (hn : j.sh.length ≤ 2) {l : List Int} (hl : l.length ≤ 2) (f : Int × Int × Int) : (trT j l f).length ≤ 2916 := by
  have h1 := stT_le hu hd ha hb l f
  have h2 : 18 ^ l.length ≤ 324 := Nat.le_trans (Nat.pow_le_pow_right (by decide) hl) (by decide)
  have h3 : (shT j.sh []).length ≤ 9 := Nat.le_trans (shT_le j.sh [] hs) (Nat.le_trans (Nat.pow_le_pow_right (by decide) hn) (by decide))
  have h4 : (trT j l f).length ≤ (stT j l f).length * 9 := flat_le _ 9 _ fun g _ => by rw [List.length_map]; exact h3
  have h5 := Nat.mul_le_mul_right 9 (Nat.le_trans h1 h2)
  omega
theorem Sw.own {size n b : Nat} {A : Option Addr} {xs : List Value} {I : List (Nat × BA)} (h : Sw size A n b xs I) (hn : 0 < n) : Own A I := by
  obtain ⟨-, rfl | ⟨rfl, ys, rfl⟩⟩ := h
  · omega
  · intro b' o e
    injection e with e
    injection e with e _ _
    simp [e]
def TrimF (lx : List (Int × Int)) (k : Nat) : Prop := ∀ (i : Nat) (y : Int × Int), lx[i]? = some y → (-5 ≤ y.1 ∧ y.1 ≤ y.2 ∧ y.2 ≤ 5) ∧ (i < k → y.2 ≤ y.1 + 2)
theorem TrimF.set {lx : List (Int × Int)} {k : Nat} {x0 x1 : Int} (h : TrimF lx k) (hk : lx[k]? = some (x0, x1)) : TrimF (lx.set k (x0, min x1 (x0 + 2))) (k + 1) := by
  intro i y hy
  have hb := (h k _ hk).1
  dsimp only at hb
  by_cases e : k = i
  · subst e
    rw [List.getElem?_set_self (List.getElem?_eq_some_iff.1 hk).1] at hy
    injection hy with hy
    subst hy
    dsimp only
    exact ⟨by omega, fun _ => by omega⟩
  · rw [List.getElem?_set_ne e] at hy
    obtain ⟨a, b⟩ := h i y hy
    exact ⟨a, fun hi => b (by omega)⟩
set_option maxRecDepth 100000 in
set_option maxHeartbeats 1000000 in
theorem told_x (so al : Int) (w : World)  :
    Calls Try.prog 62 #[.int .i64 so, .int .i64 al] w fun e w' => e = .returned (.int .i64 (toldT so al)) ∧ Below w.heap.size w w' := by
  refine px_enter noEx Try.func62 rfl 11 rfl [.int .i64 so, .int .i64 al] rfl rfl (Mem.init w _) ?_
  intro ac wc T M
  refine wp_seq ?_
  refine wp_region_lit ?_
  refine l_q T rfl rfl rfl rfl (rn_assign rfl evc) ?_; clear T ac; intro ac T
  refine wpList_nil ?_
  replace T := T.pick [1, 2] rfl
  refine nm_then ?_
  refine wp_seq ?_
  refine wp_seq ?_
  refine wp_region_lit ?_
  refine l_q T rfl rfl rfl rfl (rn_move rfl (T.ev 0 rfl)) ?_; clear T ac; intro ac T
  refine wpList_nil ?_
  replace T := T.pick [0, 2] rfl
  refine nm_then ?_
  refine wp_block ?_
  refine wp_seq ?_
  refine wp_region_lit ?_
  refine l_q T rfl rfl rfl rfl (rn_move rfl (T.ev 1 rfl)) ?_; clear T ac; intro ac T
  refine l_q T rfl rfl rfl rfl (rn_eql rfl (T.ev 1 rfl) (T.ev 0 rfl)) ?_; clear T ac; intro ac T
  refine l_q T rfl rfl rfl rfl (rn_assign rfl (T.ev 0 rfl)) ?_; clear T ac; intro ac T
  refine wpList_nil ?_
  replace T := T.pick [0, 3] rfl
  refine nm_then ?_
  refine wp_if (T.ev 0 rfl) ?_ ?_
  ·intro h1
   refine wp_seq ?_
   refine wp_region_lit ?_
   refine l_q T rfl rfl rfl rfl (rn_assign rfl evc) ?_; clear T ac; intro ac T
   refine wpList_nil ?_
   replace T := T.pick [0] rfl
   refine nm_then ?_
   refine wp_ret ?_
   refine rt_blk ?_
   refine rt_then ?_
   refine rt_1 T rfl (T.ev 0 rfl) ?_
   refine ⟨ret_int ?_, M.below⟩
   unfold toldT
   (repeat' split) <;> first | rfl | omega | contradiction | (simp_all; done) | (simp_all; omega)
  ·intro h1
   refine wp_seq ?_
   refine wp_region_lit ?_
   refine l_q T rfl rfl rfl rfl (rn_eql rfl (T.ev 1 rfl) evc) ?_; clear T ac; intro ac T
   refine l_q T rfl rfl rfl rfl (rn_assign rfl (T.ev 0 rfl)) ?_; clear T ac; intro ac T
   refine wpList_nil ?_
   replace T := T.pick [0] rfl
   refine nm_then ?_
   refine wp_if (T.ev 0 rfl) ?_ ?_
   ·intro h2
    refine wp_seq ?_
    refine wp_region_lit ?_
    refine l_q T rfl rfl rfl rfl (rn_assign rfl evc) ?_; clear T ac; intro ac T
    refine wpList_nil ?_
    replace T := T.pick [0] rfl
    refine nm_then ?_
    refine wp_ret ?_
    refine rt_blk ?_
    refine rt_then ?_
    refine rt_1 T rfl (T.ev 0 rfl) ?_
    refine ⟨ret_int ?_, M.below⟩
    unfold toldT
    (repeat' split) <;> first | rfl | omega | contradiction | (simp_all; done) | (simp_all; omega)
   ·intro h2
    refine wp_skip ?_
    refine nm_blk ?_
    refine nm_then ?_
    refine wp_seq ?_
    refine wp_region_lit ?_
    refine l_q T rfl rfl rfl rfl (rn_assign rfl evc) ?_; clear T ac; intro ac T
    refine wpList_nil ?_
    replace T := T.pick [0] rfl
    refine nm_then ?_
    refine wp_ret ?_
    refine rt_1 T rfl (T.ev 0 rfl) ?_
    refine ⟨ret_int ?_, M.below⟩
    unfold toldT
    (repeat' split) <;> first | rfl | omega | contradiction | (simp_all; done) | (simp_all; omega)

set_option maxRecDepth 100000 in
set_option maxHeartbeats 4000000 in
theorem ReedAll_any (D : Option Addr) (n d : Nat) (l : List Int) (w : World) (hl : Rd w w.heap.size 1 D n (ic l)) (hm : n ≤ 9223372036854775807) :
    Calls Try.prog 14 #[.slice D n d] w fun e w' => e = .returned (.bool true) ∧ Below w.heap.size w w' := by
  have hll := hl.len1
  obtain ⟨bI, oI, SI⟩ := Sp.old hl
  have SN : Sp w noEx [] none 0 1 0 0 (ic []) := Sp.nil
  refine px_enter noEx Try.func14 rfl 252 rfl [.slice D n d] rfl rfl (Mem.init w _) ?_
  intro ac wc T M
  refine wp_seq ?_
  refine wp_region_lit ?_
  refine l_q T rfl rfl rfl rfl (rn_assign rfl evc) ?_; clear T ac; intro ac T
  refine wpList_nil ?_
  replace T := T.pick [1] rfl
  refine nm_then ?_
  refine wp_seq ?_
  refine wp_region_lit ?_
  refine l_q T rfl rfl rfl rfl (rn_move rfl (T.ev 0 rfl)) ?_; clear T ac; intro ac T
  refine l_w rfl ?_; intro K hK
  refine ow_call (first := []) (cap := []) T rfl rfl rfl rfl evf (.cons (T.ev 0 rfl) .nil) Try.func16 rfl rfl ?_
  refine Calls.mono (newPot_any _ _ _ l _ (SI.rd M (List.nil_sublist _)) (by omega)) ?_
  clear T
  rintro e wc ⟨bpu1, su1, hsu1, rfl, N⟩
  intro ac T
  replace M := M.join N; clear N
  replace M := M.mask [true] rfl
  refine sh_out hK _ _ ?_; clear hK K
  refine l_q T rfl rfl rfl rfl (rn_assign rfl (T.ev 0 rfl)) ?_; clear T ac; intro ac T
  refine wpList_nil ?_
  replace T := T.pick [0] rfl
  refine nm_then ?_
  refine wp_seq ?_
  refine wp_region_lit ?_
  refine l_q T rfl rfl rfl rfl (rn_move rfl (T.ev 0 rfl)) ?_; clear T ac; intro ac T
  refine l_w rfl ?_; intro K hK
  refine ow_call (first := []) (cap := []) T rfl rfl rfl rfl evf (.cons (T.ev 0 rfl) (.cons evc (.cons evc .nil))) Try.func17 rfl rfl ?_
  refine Calls.mono (jobOf_any _ bpu1 1 1 _ (by omega) (by omega) (by omega) (by omega) (M.nth 0 rfl) hsu1) ?_
  clear T
  rintro e wc ⟨ju2, Au2, cu2, su2, Iu2, rfl, hmu2, hsu2, hslu2, N⟩
  intro ac T
  replace M := (M.joinW .head N).swapI
  obtain ⟨bu2, Ju2, hswu2, hcapu2, hownu2, M⟩ := Sl.open (L := [(bpu1, .cells [.int .u64 su2])]) hslu2 M
  replace M : Mem w noEx wc ((bpu1, .cells [.int .u64 su2]) :: Ju2) := M
  have Su2 := hswu2.sp (w := w) (ex := noEx)
  clear N hslu2
  have hgu2 := hmu2.good
  have hfewu2 := hmu2.few
  have hp9 := hmu2.p
  have ht9 := hmu2.t
  have hr9 := hmu2.r
  have hu9 := hmu2.u
  have hd9 := hmu2.d
  have ha9 := hmu2.a
  have hb9 := hmu2.b
  have hle9 := hmu2.le
  have hwi9 := hmu2.wi
  have hme9 := hmu2.me
  refine sh_out hK _ _ ?_; clear hK K
  refine l_w rfl ?_; intro K hK
  refine ow_al M T rfl rfl rfl rfl ?_; clear M T; intro g1 wc ac M T
  refine sh_out hK _ _ ?_; clear hK K
  refine l_w rfl ?_; intro K hK
  refine ow_stO M T rfl rfl (T.ev 0 rfl) (T.ev 1 rfl) rfl .head rfl (by simp) rfl (by kernel_rfl) ?_; clear M T; intro wc ac M T
  refine sh_out hK _ _ ?_; clear hK K
  refine wpList_nil ?_
  replace T := T.pick [0, 3] rfl
  refine nm_then ?_
  refine wp_seq ?_
  refine wp_region_lit ?_
  refine l_q (v := (.pointer (some ⟨g1, 15, none⟩))) T rfl rfl rfl rfl (rn_fieldAddr (off := 15) rfl (T.ev 0 rfl) (fun _ _ _ => by kernel_rfl)) ?_; clear T ac; intro ac T
  refine l_q T rfl rfl rfl rfl (rn_one (Mem.nth M 0 rfl) rfl (T.ev 0 rfl) rfl) ?_; clear T ac; intro ac T
  refine l_q (v := (.pointer (some ⟨g1, 15, none⟩))) T rfl rfl rfl rfl (rn_fieldAddr (off := 15) rfl (T.ev 2 rfl) (fun _ _ _ => by kernel_rfl)) ?_; clear T ac; intro ac T
  refine l_q T rfl rfl rfl rfl (rn_one (Mem.nth M 0 rfl) rfl (T.ev 0 rfl) rfl) ?_; clear T ac; intro ac T
  refine l_q T rfl rfl rfl rfl (rn_lenS rfl Try.underlying28 (T.ev 0 rfl)) ?_; clear T ac; intro ac T
  refine l_q T rfl rfl rfl rfl (rn_min2 rfl (T.ev 0 rfl) evc) ?_; clear T ac; intro ac T
  refine l_q T rfl rfl rfl rfl (rn_slice (size := 2) (l := 0) (h := (min ju2.sh.length 2)) rfl Try.underlying28 (by kernel_rfl) (T.ev 4 rfl) rfl ((T.ev 0 rfl).trans (congrArg (Value.int .i64) (by omega))) (by omega) (by omega)) ?_; clear T ac; intro ac T
  obtain ⟨Aq1, hAq1⟩ : ∃ q : Option Addr, q = (if cu2 = 0 then Au2 else Option.map (fun x => x.add (0 * 2)) Au2) := ⟨_, rfl⟩
  rw [← hAq1] at T
  obtain ⟨lq1, hlq1⟩ : ∃ q, q = (ju2.sh.drop 0).take ((min ju2.sh.length 2) - 0) := ⟨_, rfl⟩
  have nlq1 : lq1.length = (min ju2.sh.length 2) - 0 := by rw [hlq1, List.length_take, List.length_drop]; (try simp only [List.length_cons, List.length_append, List.length_nil]); omega
  rw [← nlq1] at T
  have eAq1 : Aq1 = Au2 := by rw [hAq1]; exact ite_add0 _
  have hwAq1 : Sw 2 Aq1 lq1.length bu2 (rc lq1) Ju2 := by have h8 := Sw.take (k := (min ju2.sh.length 2)) hswu2 (by omega); rw [rc_take] at h8; rw [eAq1, nlq1, hlq1]; simpa using h8
  have SAq1 := hwAq1.sp (w := w) (ex := noEx)
  refine l_q (v := (.pointer (some ⟨g1, 15, none⟩))) T rfl rfl rfl rfl (rn_fieldAddr (off := 15) rfl (T.ev 7 rfl) (fun _ _ _ => by kernel_rfl)) ?_; clear T ac; intro ac T
  refine l_w rfl ?_; intro K hK
  refine ow_stO M T rfl rfl (T.ev 0 rfl) (T.ev 1 rfl) rfl .head rfl (by simp) rfl (by kernel_rfl) ?_; clear M T; intro wc ac M T
  refine sh_out hK _ _ ?_; clear hK K
  refine wpList_nil ?_
  replace T := T.pick [8, 9] rfl
  refine nm_then ?_
  refine wp_seq ?_
  refine wp_seq ?_
  refine wp_region_lit ?_
  refine l_q T rfl rfl rfl rfl (rn_assign rfl evc) ?_; clear T ac; intro ac T
  refine wpList_nil ?_
  refine nm_then ?_
  refine wp_block ?_
  have hown9 : Own Aq1 Ju2 := by rw [eAq1]; exact hownu2
  have htr9 : TrimF lq1 0 := fun i y hy => ⟨hmu2.sh y (by have h8 := List.mem_of_getElem? hy; rw [hlq1] at h8; exact List.mem_of_mem_drop (List.mem_of_mem_take h8)), fun h => absurd h (Nat.not_lt_zero _)⟩
  refine wp_loop_n (fun mz ac wc => ∃ (k : Nat) (lx : List (Int × Int)) (Ix : List (Nat × BA)), mz = lq1.length - k ∧ (k ≤ lq1.length) ∧ (lx.length = lq1.length) ∧ (TrimF lx k) ∧ (Sw 2 Aq1 lq1.length bu2 (rc lx) Ix) ∧ (Own Aq1 Ix) ∧ Tm ac 252 [(3, .pointer (some ⟨bpu1, 0, none⟩)), (4, .pointer (some ⟨g1, 0, none⟩)), (5, .int .i64 (k : Int))] ∧ Mem w noEx wc ((g1, .cells [.int .i64 ju2.p0, .int .i64 ju2.p1, .int .i64 ju2.t0, .int .i64 ju2.t1, .int .i64 ju2.r0, .int .i64 ju2.r1, .int .i64 ju2.u0, .int .i64 ju2.u1, .int .i64 ju2.d0, .int .i64 ju2.d1, .int .i64 ju2.a0, .int .i64 ju2.a1, .int .i64 ju2.b0, .int .i64 ju2.b1, .int .i64 ju2.le, .slice Aq1 lq1.length (cu2 - 0), .int .i64 ju2.wi, .int .i64 ju2.me]) :: (bpu1, .cells [.int .u64 su2]) :: Ix)) ?_ ?_
  ·exact ⟨_, 0, lq1, Ju2, rfl, (by omega), rfl, htr9, hwAq1, hown9, T.pick [2, 1, 0] rfl, M.mask [true, true] rfl⟩
  ·clear T M
   rintro mz ac wc ⟨k, lx, Ix, hmm1, hk, hll, htr, hsw, hox, T, M⟩
   have Sx := hsw.sp (w := w) (ex := noEx)
   refine wp_seq ?_
   refine wp_seq ?_
   refine wp_region_lit ?_
   refine l_q T rfl rfl rfl rfl (rn_move rfl (T.ev 2 rfl)) ?_; clear T ac; intro ac T
   refine l_q (v := (.pointer (some ⟨g1, 15, none⟩))) T rfl rfl rfl rfl (rn_fieldAddr (off := 15) rfl (T.ev 2 rfl) (fun _ _ _ => by kernel_rfl)) ?_; clear T ac; intro ac T
   refine l_q T rfl rfl rfl rfl (rn_one (Mem.nth M 0 rfl) rfl (T.ev 0 rfl) rfl) ?_; clear T ac; intro ac T
   refine l_q T rfl rfl rfl rfl (rn_lenS rfl Try.underlying28 (T.ev 0 rfl)) ?_; clear T ac; intro ac T
   refine l_q T rfl rfl rfl rfl (rn_lss rfl (T.ev 3 rfl) (T.ev 0 rfl)) ?_; clear T ac; intro ac T
   refine wpList_nil ?_
   replace T := T.pick [0, 5, 6, 7] rfl
   refine nm_then ?_
   refine wp_if (T.ev 0 rfl) ?_ ?_
   ·intro h1
    obtain ⟨x0, x1, hk1, hd⟩ := rc_next (l := lx) (k := k) (by omega)
    have hbx := (htr k _ hk1).1
    dsimp only at hbx
    refine wp_skip ?_
    refine nm_then ?_
    refine wp_seq ?_
    refine wp_block ?_
    refine g_start2 M (M.perm [] rfl rfl) 20 (by kernel_rfl) rfl (by kernel_rfl) ?_
    clear M; intro wc M
    refine g_addG 19 M ?_
    refine g_q (v := (.pointer (some ⟨g1, 15, none⟩))) (T := T) (i := 0) rfl (by kernel_rfl) (by kernel_rfl : (pbits 20 0).setIfInBounds 0 true = pbits 20 1) (si_and (si_G rfl) si_U) (fun _ _ _ h => h) rfl rfl rfl rfl (fun _ _ _ _ _ => (rn_fieldAddr (off := 15) rfl (T.ev 2 rfl) (fun _ _ _ => by kernel_rfl))) ?_; clear T ac; intro ac T
    refine g_q (T := T) (i := 1) rfl (by kernel_rfl) (by kernel_rfl : (pbits 20 1).setIfInBounds 1 true = pbits 20 3) (si_and (si_G rfl) si_U) (fun _ _ _ h => h) rfl rfl rfl rfl (fun B w' hD hl hS => (rn_one (Mem.nth (show Mem w noEx w' _ from ((MA.lft hS) (hD.wait (i := 1) (m := 19) (by kernel_rfl) hl))) 0 rfl) rfl (T.ev 0 rfl) rfl)) ?_; clear T ac; intro ac T
    refine g_q (T := T) (i := 2) rfl (by kernel_rfl) (by kernel_rfl : (pbits 20 3).setIfInBounds 2 true = pbits 20 7) (si_and (si_G rfl) si_U) (fun _ _ _ h => h) rfl rfl rfl rfl (fun _ _ _ _ _ => (rn_move rfl (T.ev 5 rfl))) ?_; clear T ac; intro ac T
    refine g_q (v := (.pointer (some ⟨g1, 15, none⟩))) (T := T) (i := 3) rfl (by kernel_rfl) (by kernel_rfl : (pbits 20 7).setIfInBounds 3 true = pbits 20 15) (si_and (si_G rfl) si_U) (fun _ _ _ h => h) rfl rfl rfl rfl (fun _ _ _ _ _ => (rn_fieldAddr (off := 15) rfl (T.ev 5 rfl) (fun _ _ _ => by kernel_rfl))) ?_; clear T ac; intro ac T
    refine g_q (T := T) (i := 4) rfl (by kernel_rfl) (by kernel_rfl : (pbits 20 15).setIfInBounds 4 true = pbits 20 31) (si_and (si_G rfl) si_U) (fun _ _ _ h => h) rfl rfl rfl rfl (fun B w' hD hl hS => (rn_one (Mem.nth (show Mem w noEx w' _ from ((MA.lft hS) (hD.wait (i := 4) (m := 19) (by kernel_rfl) hl))) 0 rfl) rfl (T.ev 0 rfl) rfl)) ?_; clear T ac; intro ac T
    refine g_q (T := T) (i := 5) rfl (by kernel_rfl) (by kernel_rfl : (pbits 20 31).setIfInBounds 5 true = pbits 20 63) (si_and (si_G rfl) si_U) (fun _ _ _ h => h) rfl rfl rfl rfl (fun _ _ _ _ _ => (rn_move rfl (T.ev 8 rfl))) ?_; clear T ac; intro ac T
    refine g_q (T := T) (i := 6) rfl (by kernel_rfl) (by kernel_rfl : (pbits 20 63).setIfInBounds 6 true = pbits 20 127) (si_and (si_G rfl) si_U) (fun _ _ _ h => h) rfl rfl rfl rfl (fun _ _ _ _ _ => (rn_indexAddr (size := 2) k rfl (T.ev 1 rfl) (T.ev 0 rfl) ⟨_, Try.underlying28, by kernel_rfl⟩ rfl (by omega) (Sx.at0 (by omega)))) ?_; clear T ac; intro ac T
    refine g_q (T := T) (i := 7) rfl (by kernel_rfl) (by kernel_rfl : (pbits 20 127).setIfInBounds 7 true = pbits 20 255) (si_and (si_G rfl) si_U) (fun _ _ _ h => h) rfl rfl rfl rfl (fun _ _ _ _ _ => (rn_fieldAddr (off := 1) rfl (T.ev 0 rfl) (fun _ _ _ => by kernel_rfl))) ?_; clear T ac; intro ac T
    refine g_q (T := T) (i := 8) rfl (by kernel_rfl) (by kernel_rfl : (pbits 20 255).setIfInBounds 8 true = pbits 20 511) (si_and (si_G rfl) si_U) (fun _ _ _ h => h) rfl rfl rfl rfl (fun B w' hD hl hS => (rn_cell (Sp.rc1 Sx (show Mem w noEx w' _ from ((MA.lft hS) (hD.wait (i := 8) (m := 19) (by kernel_rfl) hl))) (.cons _ (.cons _ (List.Sublist.refl _))) hk1) rfl (T.ev 0 rfl))) ?_; clear T ac; intro ac T
    refine g_q (v := (.pointer (some ⟨g1, 15, none⟩))) (T := T) (i := 9) rfl (by kernel_rfl) (by kernel_rfl : (pbits 20 511).setIfInBounds 9 true = pbits 20 1023) (si_and (si_G rfl) si_U) (fun _ _ _ h => h) rfl rfl rfl rfl (fun _ _ _ _ _ => (rn_fieldAddr (off := 15) rfl (T.ev 11 rfl) (fun _ _ _ => by kernel_rfl))) ?_; clear T ac; intro ac T
    refine g_q (T := T) (i := 10) rfl (by kernel_rfl) (by kernel_rfl : (pbits 20 1023).setIfInBounds 10 true = pbits 20 2047) (si_and (si_G rfl) si_U) (fun _ _ _ h => h) rfl rfl rfl rfl (fun B w' hD hl hS => (rn_one (Mem.nth (show Mem w noEx w' _ from ((MA.lft hS) (hD.wait (i := 10) (m := 19) (by kernel_rfl) hl))) 0 rfl) rfl (T.ev 0 rfl) rfl)) ?_; clear T ac; intro ac T
    refine g_q (T := T) (i := 11) rfl (by kernel_rfl) (by kernel_rfl : (pbits 20 2047).setIfInBounds 11 true = pbits 20 4095) (si_and (si_G rfl) si_U) (fun _ _ _ h => h) rfl rfl rfl rfl (fun _ _ _ _ _ => (rn_move rfl (T.ev 14 rfl))) ?_; clear T ac; intro ac T
    refine g_q (T := T) (i := 12) rfl (by kernel_rfl) (by kernel_rfl : (pbits 20 4095).setIfInBounds 12 true = pbits 20 8191) (si_and (si_G rfl) si_U) (fun _ _ _ h => h) rfl rfl rfl rfl (fun _ _ _ _ _ => (rn_indexAddr (size := 2) k rfl (T.ev 1 rfl) (T.ev 0 rfl) ⟨_, Try.underlying28, by kernel_rfl⟩ rfl (by omega) (Sx.at0 (by omega)))) ?_; clear T ac; intro ac T
    refine g_q (T := T) (i := 13) rfl (by kernel_rfl) (by kernel_rfl : (pbits 20 8191).setIfInBounds 13 true = pbits 20 16383) (si_and (si_G rfl) si_U) (fun _ _ _ h => h) rfl rfl rfl rfl (fun _ _ _ _ _ => (rn_fieldAddr (off := 0) rfl (T.ev 0 rfl) (fun _ _ _ => by kernel_rfl))) ?_; clear T ac; intro ac T
    refine g_q (T := T) (i := 14) rfl (by kernel_rfl) (by kernel_rfl : (pbits 20 16383).setIfInBounds 14 true = pbits 20 32767) (si_and (si_G rfl) si_U) (fun _ _ _ h => h) rfl rfl rfl rfl (fun B w' hD hl hS => (rn_cell (Sp.rc0 Sx (show Mem w noEx w' _ from ((MA.lft hS) (hD.wait (i := 14) (m := 19) (by kernel_rfl) hl))) (.cons _ (.cons _ (List.Sublist.refl _))) hk1) rfl (T.ev 0 rfl))) ?_; clear T ac; intro ac T
    refine g_q (T := T) (i := 15) rfl (by kernel_rfl) (by kernel_rfl : (pbits 20 32767).setIfInBounds 15 true = pbits 20 65535) (si_and (si_G rfl) si_U) (fun _ _ _ h => h) rfl rfl rfl rfl (fun _ _ _ _ _ => (rn_add rfl (T.ev 0 rfl) evc (by omega))) ?_; clear T ac; intro ac T
    refine g_q (T := T) (i := 16) rfl (by kernel_rfl) (by kernel_rfl : (pbits 20 65535).setIfInBounds 16 true = pbits 20 131071) (si_and (si_G rfl) si_U) (fun _ _ _ h => h) rfl rfl rfl rfl (fun _ _ _ _ _ => (rn_min2 rfl (T.ev 7 rfl) (T.ev 0 rfl))) ?_; clear T ac; intro ac T
    refine g_q (T := T) (i := 17) rfl (by kernel_rfl) (by kernel_rfl : (pbits 20 131071).setIfInBounds 17 true = pbits 20 262143) (si_and (si_G rfl) si_U) (fun _ _ _ h => h) rfl rfl rfl rfl (fun _ _ _ _ _ => (rn_indexAddr (size := 2) k rfl (T.ev 15 rfl) (T.ev 14 rfl) ⟨_, Try.underlying28, by kernel_rfl⟩ rfl (by omega) (Sx.at0 (by omega)))) ?_; clear T ac; intro ac T
    refine g_q (T := T) (i := 18) rfl (by kernel_rfl) (by kernel_rfl : (pbits 20 262143).setIfInBounds 18 true = pbits 20 524287) (si_and (si_G rfl) si_U) (fun _ _ _ h => h) rfl rfl rfl rfl (fun _ _ _ _ _ => (rn_fieldAddr (off := 1) rfl (T.ev 0 rfl) (fun _ _ _ => by kernel_rfl))) ?_; clear T ac; intro ac T
    refine g_w (i := 19) (by kernel_rfl) rfl (by kernel_rfl : (pbits 20 524287).setIfInBounds 19 true = pbits 20 1048575) rfl ?_; intro K hK
    refine ow_stT1 ([(g1, .cells [.int .i64 ju2.p0, .int .i64 ju2.p1, .int .i64 ju2.t0, .int .i64 ju2.t1, .int .i64 ju2.r0, .int .i64 ju2.r1, .int .i64 ju2.u0, .int .i64 ju2.u1, .int .i64 ju2.d0, .int .i64 ju2.d1, .int .i64 ju2.a0, .int .i64 ju2.a1, .int .i64 ju2.b0, .int .i64 ju2.b1, .int .i64 ju2.le, .slice Aq1 lq1.length (cu2 - 0), .int .i64 ju2.wi, .int .i64 ju2.me]), (bpu1, .cells [.int .u64 su2])]) M (by first | rfl | simp) hsw T rfl rfl (T.ev 0 rfl) (T.ev 2 rfl) hk1 rfl ?_; clear M T; intro Jw1 wc ac hsw1 M T
    replace M : Mem w noEx wc ((g1, .cells [.int .i64 ju2.p0, .int .i64 ju2.p1, .int .i64 ju2.t0, .int .i64 ju2.t1, .int .i64 ju2.r0, .int .i64 ju2.r1, .int .i64 ju2.u0, .int .i64 ju2.u1, .int .i64 ju2.d0, .int .i64 ju2.d1, .int .i64 ju2.a0, .int .i64 ju2.a1, .int .i64 ju2.b0, .int .i64 ju2.b1, .int .i64 ju2.le, .slice Aq1 lq1.length (cu2 - 0), .int .i64 ju2.wi, .int .i64 ju2.me]) :: (bpu1, .cells [.int .u64 su2]) :: Jw1) := M
    obtain ⟨lo1, hlo1⟩ : ∃ q, q = lx.set k (x0, (min x1 (x0 + 2))) := ⟨_, rfl⟩
    rw [← hlo1] at hsw1
    have lhlo1 : lo1.length = lx.length := by rw [hlo1, List.length_set]
    have Ss1 := hsw1.sp (w := w) (ex := noEx)
    refine sh_out hK _ _ (MA.mk (fun h => (no_of (by kernel_rfl) h).elim) (M.perm [] rfl rfl)) ?_; clear hK K
    refine g_done (by kernel_rfl) ?_
    replace T := T.pick [20, 21, 22] rfl
    refine nm_blk ?_
    refine nm_then ?_
    refine wp_region_lit ?_
    refine l_q T rfl rfl rfl rfl (rn_move rfl (T.ev 2 rfl)) ?_; clear T ac; intro ac T
    refine l_q T rfl rfl rfl rfl (rn_add rfl (T.ev 0 rfl) evc (by omega)) ?_; clear T ac; intro ac T
    refine l_q (v := (.int .i64 ((k : Int) + 1))) (T.pick [0, 1, 2, 3] rfl) rfl rfl rfl rfl (rn_assign rfl (T.ev 0 rfl)) ?_; clear T ac; intro ac T
    refine wpList_nil ?_
    replace T := T.pick [0, 3, 4] rfl
    refine nm_then ?_
    exact ⟨_, by omega, k + 1, lo1, Jw1, rfl, (by omega), (by omega), (by rw [hlo1]; exact htr.set hk1), hsw1, (hsw1.own (by omega)), T.pick [1, 2, 0] rfl, M.mask [true, true] rfl⟩
   ·intro h1
    refine wp_exit ?_
    refine ex_then ?_
    refine ex_then ?_
    refine ex_hit ?_
    refine nm_then ?_
    refine wp_seq ?_
    refine wp_region_lit ?_
    refine l_q (v := (.pointer (some ⟨g1, 0, none⟩))) T rfl rfl rfl rfl (rn_fieldAddr (off := 0) rfl (T.ev 2 rfl) (fun _ _ _ => by kernel_rfl)) ?_; clear T ac; intro ac T
    refine l_q (v := (.pointer (some ⟨g1, 2, none⟩))) T rfl rfl rfl rfl (rn_fieldAddr (off := 2) rfl (T.ev 0 rfl) (fun _ _ _ => by kernel_rfl)) ?_; clear T ac; intro ac T
    refine l_q (v := (.pointer (some ⟨g1, 3, none⟩))) T rfl rfl rfl rfl (rn_fieldAddr (off := 1) rfl (T.ev 0 rfl) (fun _ _ _ => by kernel_rfl)) ?_; clear T ac; intro ac T
    refine l_q T rfl rfl rfl rfl (rn_one (Mem.nth M 0 rfl) rfl (T.ev 0 rfl) rfl) ?_; clear T ac; intro ac T
    refine l_q (v := (.pointer (some ⟨g1, 0, none⟩))) T rfl rfl rfl rfl (rn_fieldAddr (off := 0) rfl (T.ev 6 rfl) (fun _ _ _ => by kernel_rfl)) ?_; clear T ac; intro ac T
    refine l_q (v := (.pointer (some ⟨g1, 2, none⟩))) T rfl rfl rfl rfl (rn_fieldAddr (off := 2) rfl (T.ev 0 rfl) (fun _ _ _ => by kernel_rfl)) ?_; clear T ac; intro ac T
    refine l_q (v := (.pointer (some ⟨g1, 2, none⟩))) T rfl rfl rfl rfl (rn_fieldAddr (off := 0) rfl (T.ev 0 rfl) (fun _ _ _ => by kernel_rfl)) ?_; clear T ac; intro ac T
    refine l_q T rfl rfl rfl rfl (rn_one (Mem.nth M 0 rfl) rfl (T.ev 0 rfl) rfl) ?_; clear T ac; intro ac T
    refine l_q T rfl rfl rfl rfl (rn_add rfl (T.ev 0 rfl) evc (by omega)) ?_; clear T ac; intro ac T
    refine l_q T rfl rfl rfl rfl (rn_min2 rfl (T.ev 5 rfl) (T.ev 0 rfl)) ?_; clear T ac; intro ac T
    refine l_q (v := (.pointer (some ⟨g1, 0, none⟩))) T rfl rfl rfl rfl (rn_fieldAddr (off := 0) rfl (T.ev 12 rfl) (fun _ _ _ => by kernel_rfl)) ?_; clear T ac; intro ac T
    refine l_q (v := (.pointer (some ⟨g1, 4, none⟩))) T rfl rfl rfl rfl (rn_fieldAddr (off := 4) rfl (T.ev 0 rfl) (fun _ _ _ => by kernel_rfl)) ?_; clear T ac; intro ac T
    refine l_q (v := (.pointer (some ⟨g1, 5, none⟩))) T rfl rfl rfl rfl (rn_fieldAddr (off := 1) rfl (T.ev 0 rfl) (fun _ _ _ => by kernel_rfl)) ?_; clear T ac; intro ac T
    refine l_q T rfl rfl rfl rfl (rn_one (Mem.nth M 0 rfl) rfl (T.ev 0 rfl) rfl) ?_; clear T ac; intro ac T
    refine l_q (v := (.pointer (some ⟨g1, 0, none⟩))) T rfl rfl rfl rfl (rn_fieldAddr (off := 0) rfl (T.ev 16 rfl) (fun _ _ _ => by kernel_rfl)) ?_; clear T ac; intro ac T
    refine l_q (v := (.pointer (some ⟨g1, 4, none⟩))) T rfl rfl rfl rfl (rn_fieldAddr (off := 4) rfl (T.ev 0 rfl) (fun _ _ _ => by kernel_rfl)) ?_; clear T ac; intro ac T
    refine l_q (v := (.pointer (some ⟨g1, 4, none⟩))) T rfl rfl rfl rfl (rn_fieldAddr (off := 0) rfl (T.ev 0 rfl) (fun _ _ _ => by kernel_rfl)) ?_; clear T ac; intro ac T
    refine l_q T rfl rfl rfl rfl (rn_one (Mem.nth M 0 rfl) rfl (T.ev 0 rfl) rfl) ?_; clear T ac; intro ac T
    refine l_q T rfl rfl rfl rfl (rn_add rfl (T.ev 0 rfl) evc (by omega)) ?_; clear T ac; intro ac T
    refine l_q T rfl rfl rfl rfl (rn_min2 rfl (T.ev 5 rfl) (T.ev 0 rfl)) ?_; clear T ac; intro ac T
    refine l_q (v := (.pointer (some ⟨g1, 0, none⟩))) T rfl rfl rfl rfl (rn_fieldAddr (off := 0) rfl (T.ev 22 rfl) (fun _ _ _ => by kernel_rfl)) ?_; clear T ac; intro ac T
    refine l_q (v := (.pointer (some ⟨g1, 2, none⟩))) T rfl rfl rfl rfl (rn_fieldAddr (off := 2) rfl (T.ev 0 rfl) (fun _ _ _ => by kernel_rfl)) ?_; clear T ac; intro ac T
    refine l_q (v := (.pointer (some ⟨g1, 3, none⟩))) T rfl rfl rfl rfl (rn_fieldAddr (off := 1) rfl (T.ev 0 rfl) (fun _ _ _ => by kernel_rfl)) ?_; clear T ac; intro ac T
    refine l_w rfl ?_; intro K hK
    refine ow_stO M T rfl rfl (T.ev 0 rfl) (T.ev 13 rfl) rfl .head rfl (by simp) rfl (by kernel_rfl) ?_; clear M T; intro wc ac M T
    refine sh_out hK _ _ ?_; clear hK K
    refine l_q (v := (.pointer (some ⟨g1, 0, none⟩))) T rfl rfl rfl rfl (rn_fieldAddr (off := 0) rfl (T.ev 25 rfl) (fun _ _ _ => by kernel_rfl)) ?_; clear T ac; intro ac T
    refine l_q (v := (.pointer (some ⟨g1, 4, none⟩))) T rfl rfl rfl rfl (rn_fieldAddr (off := 4) rfl (T.ev 0 rfl) (fun _ _ _ => by kernel_rfl)) ?_; clear T ac; intro ac T
    refine l_q (v := (.pointer (some ⟨g1, 5, none⟩))) T rfl rfl rfl rfl (rn_fieldAddr (off := 1) rfl (T.ev 0 rfl) (fun _ _ _ => by kernel_rfl)) ?_; clear T ac; intro ac T
    refine l_w rfl ?_; intro K hK
    refine ow_stO M T rfl rfl (T.ev 0 rfl) (T.ev 6 rfl) rfl .head rfl (by simp) rfl (by kernel_rfl) ?_; clear M T; intro wc ac M T
    refine sh_out hK _ _ ?_; clear hK K
    refine wpList_nil ?_
    replace T := T.pick [27, 28] rfl
    refine nm_then ?_
    refine wp_seq ?_
    refine g_start2 M (M.mask [false, false] rfl) 23 (by kernel_rfl) rfl (by kernel_rfl) ?_
    clear M; intro wc M
    refine g_addG 9 M ?_
    refine g_addG 22 (M.mask [true, false] rfl) ?_
    refine g_q (T := T) (i := 0) rfl (by kernel_rfl) (by kernel_rfl : (pbits 23 0).setIfInBounds 0 true = pbits 23 1) (si_and (si_G rfl) (si_and (si_G rfl) si_U)) (fun _ _ _ h => h) rfl rfl rfl rfl (fun _ _ _ _ _ => (rn_move rfl (T.ev 0 rfl))) ?_; clear T ac; intro ac T
    refine g_q (v := (.pointer (some ⟨g1, 6, none⟩))) (T := T) (i := 1) rfl (by kernel_rfl) (by kernel_rfl : (pbits 23 1).setIfInBounds 1 true = pbits 23 3) (si_and (si_G rfl) (si_and (si_G rfl) si_U)) (fun _ _ _ h => h) rfl rfl rfl rfl (fun _ _ _ _ _ => (rn_fieldAddr (off := 6) rfl (T.ev 2 rfl) (fun _ _ _ => by kernel_rfl))) ?_; clear T ac; intro ac T
    refine g_q (v := (.pointer (some ⟨g1, 14, none⟩))) (T := T) (i := 2) rfl (by kernel_rfl) (by kernel_rfl : (pbits 23 3).setIfInBounds 2 true = pbits 23 7) (si_and (si_G rfl) (si_and (si_G rfl) si_U)) (fun _ _ _ h => h) rfl rfl rfl rfl (fun _ _ _ _ _ => (rn_fieldAddr (off := 8) rfl (T.ev 0 rfl) (fun _ _ _ => by kernel_rfl))) ?_; clear T ac; intro ac T
    refine g_q (T := T) (i := 3) rfl (by kernel_rfl) (by kernel_rfl : (pbits 23 7).setIfInBounds 3 true = pbits 23 15) (si_and (si_G rfl) (si_and (si_G rfl) si_U)) (fun _ _ _ h => h) rfl rfl rfl rfl (fun B w' hD hl hS => (rn_one (Mem.nth (show Mem w noEx w' _ from ((MA.lft hS) (hD.wait (i := 3) (m := 22) (by kernel_rfl) hl))) 0 rfl) rfl (T.ev 0 rfl) rfl)) ?_; clear T ac; intro ac T
    refine g_q (v := (.pointer (some ⟨g1, 0, none⟩))) (T := T) (i := 4) rfl (by kernel_rfl) (by kernel_rfl : (pbits 23 15).setIfInBounds 4 true = pbits 23 31) (si_and (si_G rfl) (si_and (si_G rfl) si_U)) (fun _ _ _ h => h) rfl rfl rfl rfl (fun _ _ _ _ _ => (rn_fieldAddr (off := 0) rfl (T.ev 5 rfl) (fun _ _ _ => by kernel_rfl))) ?_; clear T ac; intro ac T
    refine g_q (v := (.pointer (some ⟨g1, 2, none⟩))) (T := T) (i := 5) rfl (by kernel_rfl) (by kernel_rfl : (pbits 23 31).setIfInBounds 5 true = pbits 23 63) (si_and (si_G rfl) (si_and (si_G rfl) si_U)) (fun _ _ _ h => h) rfl rfl rfl rfl (fun _ _ _ _ _ => (rn_fieldAddr (off := 2) rfl (T.ev 0 rfl) (fun _ _ _ => by kernel_rfl))) ?_; clear T ac; intro ac T
    refine g_q (v := (.pointer (some ⟨g1, 2, none⟩))) (T := T) (i := 6) rfl (by kernel_rfl) (by kernel_rfl : (pbits 23 63).setIfInBounds 6 true = pbits 23 127) (si_and (si_G rfl) (si_and (si_G rfl) si_U)) (fun _ _ _ h => h) rfl rfl rfl rfl (fun _ _ _ _ _ => (rn_fieldAddr (off := 0) rfl (T.ev 0 rfl) (fun _ _ _ => by kernel_rfl))) ?_; clear T ac; intro ac T
    refine g_q (T := T) (i := 7) rfl (by kernel_rfl) (by kernel_rfl : (pbits 23 127).setIfInBounds 7 true = pbits 23 255) (si_and (si_G rfl) (si_and (si_G rfl) si_U)) (fun _ _ _ h => h) rfl rfl rfl rfl (fun B w' hD hl hS => (rn_one (Mem.nth (show Mem w noEx w' _ from ((MA.lft hS) (hD.wait (i := 7) (m := 22) (by kernel_rfl) hl))) 0 rfl) rfl (T.ev 0 rfl) rfl)) ?_; clear T ac; intro ac T
    refine g_q (T := T) (i := 8) rfl (by kernel_rfl) (by kernel_rfl : (pbits 23 255).setIfInBounds 8 true = pbits 23 511) (si_and (si_G rfl) (si_and (si_G rfl) si_U)) (fun _ _ _ h => h) rfl rfl rfl rfl (fun _ _ _ _ _ => (rn_move rfl (T.ev 8 rfl))) ?_; clear T ac; intro ac T
    refine g_q (v := (.pointer (some ⟨g1, 0, none⟩))) (T := T) (i := 11) rfl (by kernel_rfl) (by kernel_rfl : (pbits 23 511).setIfInBounds 11 true = pbits 23 2559) (si_and (si_G rfl) (si_and (si_G rfl) si_U)) (fun _ _ _ h => h) rfl rfl rfl rfl (fun _ _ _ _ _ => (rn_fieldAddr (off := 0) rfl (T.ev 10 rfl) (fun _ _ _ => by kernel_rfl))) ?_; clear T ac; intro ac T
    refine g_q (v := (.pointer (some ⟨g1, 4, none⟩))) (T := T) (i := 12) rfl (by kernel_rfl) (by kernel_rfl : (pbits 23 2559).setIfInBounds 12 true = pbits 23 6655) (si_and (si_G rfl) (si_and (si_G rfl) si_U)) (fun _ _ _ h => h) rfl rfl rfl rfl (fun _ _ _ _ _ => (rn_fieldAddr (off := 4) rfl (T.ev 0 rfl) (fun _ _ _ => by kernel_rfl))) ?_; clear T ac; intro ac T
    refine g_q (v := (.pointer (some ⟨g1, 4, none⟩))) (T := T) (i := 13) rfl (by kernel_rfl) (by kernel_rfl : (pbits 23 6655).setIfInBounds 13 true = pbits 23 14847) (si_and (si_G rfl) (si_and (si_G rfl) si_U)) (fun _ _ _ h => h) rfl rfl rfl rfl (fun _ _ _ _ _ => (rn_fieldAddr (off := 0) rfl (T.ev 0 rfl) (fun _ _ _ => by kernel_rfl))) ?_; clear T ac; intro ac T
    refine g_q (T := T) (i := 14) rfl (by kernel_rfl) (by kernel_rfl : (pbits 23 14847).setIfInBounds 14 true = pbits 23 31231) (si_and (si_G rfl) (si_and (si_G rfl) si_U)) (fun _ _ _ h => h) rfl rfl rfl rfl (fun B w' hD hl hS => (rn_one (Mem.nth (show Mem w noEx w' _ from ((MA.lft hS) (hD.wait (i := 14) (m := 22) (by kernel_rfl) hl))) 0 rfl) rfl (T.ev 0 rfl) rfl)) ?_; clear T ac; intro ac T
    refine g_q (T := T) (i := 15) rfl (by kernel_rfl) (by kernel_rfl : (pbits 23 31231).setIfInBounds 15 true = pbits 23 63999) (si_and (si_G rfl) (si_and (si_G rfl) si_U)) (fun _ _ _ h => h) rfl rfl rfl rfl (fun _ _ _ _ _ => (rn_move rfl (T.ev 13 rfl))) ?_; clear T ac; intro ac T
    refine g_w (i := 9) (by kernel_rfl) rfl (by kernel_rfl : (pbits 23 63999).setIfInBounds 9 true = pbits 23 64511) rfl ?_; intro K hK
    refine ow_call (first := []) (cap := []) T rfl rfl rfl rfl evf (.cons (T.ev 5 rfl) (.cons evc .nil)) Try.func28 rfl rfl ?_
    refine Calls.mono (upto_any _ bpu1 6 _ (by omega) (by omega) (M.nth 1 rfl) hsu2) ?_
    clear T
    rintro e wc ⟨xu3, su3, hxu3, hsu3, rfl, hgr, hbk⟩
    intro ac T
    replace M := M.callC (cs' := [.int .u64 su3]) (.tail .head) hgr hbk
    clear hgr hbk
    refine sh_out hK _ _ (MA.mk (fun _ => M.mask [true, false] rfl) (MA.mk (fun h => (no_of (by kernel_rfl) h).elim) (M.mask [false, false] rfl))) ?_; clear hK K
    refine g_q (T := T) (i := 10) rfl (by kernel_rfl) (by kernel_rfl : (pbits 23 64511).setIfInBounds 10 true = pbits 23 65535) (si_and (si_G rfl) (si_and (si_G rfl) si_U)) (fun _ _ _ h => h) rfl rfl rfl rfl (fun _ _ _ _ _ => (rn_sub rfl (T.ev 7 rfl) (T.ev 0 rfl) (by omega))) ?_; clear T ac; intro ac T
    refine g_w (i := 16) (by kernel_rfl) rfl (by kernel_rfl : (pbits 23 65535).setIfInBounds 16 true = pbits 23 131071) rfl ?_; intro K hK
    refine ow_call (first := []) (cap := []) T rfl rfl rfl rfl evf (.cons (T.ev 2 rfl) (.cons evc .nil)) Try.func28 rfl rfl ?_
    refine Calls.mono (upto_any _ bpu1 6 _ (by omega) (by omega) (M.nth 1 rfl) hsu3) ?_
    clear T
    rintro e wc ⟨xu4, su4, hxu4, hsu4, rfl, hgr, hbk⟩
    intro ac T
    replace M := M.callC (cs' := [.int .u64 su4]) (.tail .head) hgr hbk
    clear hgr hbk
    refine sh_out hK _ _ (MA.mk (fun _ => M.mask [true, false] rfl) (MA.mk (fun h => (no_of (by kernel_rfl) h).elim) (M.mask [false, false] rfl))) ?_; clear hK K
    refine g_q (T := T) (i := 17) rfl (by kernel_rfl) (by kernel_rfl : (pbits 23 131071).setIfInBounds 17 true = pbits 23 262143) (si_and (si_G rfl) (si_and (si_G rfl) si_U)) (fun _ _ _ h => h) rfl rfl rfl rfl (fun _ _ _ _ _ => (rn_sub rfl (T.ev 4 rfl) (T.ev 0 rfl) (by omega))) ?_; clear T ac; intro ac T
    refine g_w (i := 18) (by kernel_rfl) rfl (by kernel_rfl : (pbits 23 262143).setIfInBounds 18 true = pbits 23 524287) rfl ?_; intro K hK
    refine ow_bs (e := 3) [.int .i64 ju2.le, .int .i64 (ju2.t0 - xu3), .int .i64 (ju2.r0 - xu4)] M T rfl rfl rfl rfl (.cons (T.ev 14 rfl) (.cons (T.ev 2 rfl) (.cons (T.ev 0 rfl) .nil))) (fun _ => by kernel_rfl) ?_; clear M T; intro g2 wc ac M T
    refine sh_out hK _ _ (MA.mk (fun _ => M.mask [false, true, false] rfl) (MA.mk (fun h => (no_of (by kernel_rfl) h).elim) (M.mask [false, false, false] rfl))) ?_; clear hK K
    refine g_w (i := 19) (by kernel_rfl) rfl (by kernel_rfl : (pbits 23 524287).setIfInBounds 19 true = pbits 23 1048575) rfl ?_; intro K hK
    refine ow_call (first := []) (cap := []) T rfl rfl rfl rfl evf (.cons (T.ev 18 rfl) (.cons (T.ev 0 rfl) .nil)) Try.func60 rfl rfl ?_
    refine Calls.mono (of_any _ bpu1 _ 3 3 [ju2.le, (ju2.t0 - xu3), (ju2.r0 - xu4)] _ (M.rdOwn (nthE_mem (i := 0) rfl) rfl rfl) (M.nee 0 2 rfl rfl rfl) (by decide) (by decide) (M.nth 2 rfl) hsu4) ?_
    clear T
    rintro e wc ⟨xu5, su5, hxu5, hsu5, rfl, hgr, hbk⟩
    intro ac T
    replace M := M.callC (cs' := [.int .u64 su5]) (.tail (.tail .head)) hgr hbk
    clear hgr hbk
    simp only [List.mem_cons, List.not_mem_nil, or_false] at hxu5
    refine sh_out hK _ _ (MA.mk (fun _ => M.mask [false, true, false] rfl) (MA.mk (fun h => (no_of (by kernel_rfl) h).elim) (M.mask [false, false, false] rfl))) ?_; clear hK K
    refine g_q (v := (.pointer (some ⟨g1, 6, none⟩))) (T := T) (i := 20) rfl (by kernel_rfl) (by kernel_rfl : (pbits 23 1048575).setIfInBounds 20 true = pbits 23 2097151) (si_and (si_G rfl) (si_and (si_G rfl) si_U)) (fun _ _ _ h => h) rfl rfl rfl rfl (fun _ _ _ _ _ => (rn_fieldAddr (off := 6) rfl (T.ev 21 rfl) (fun _ _ _ => by kernel_rfl))) ?_; clear T ac; intro ac T
    refine g_q (v := (.pointer (some ⟨g1, 14, none⟩))) (T := T) (i := 21) rfl (by kernel_rfl) (by kernel_rfl : (pbits 23 2097151).setIfInBounds 21 true = pbits 23 4194303) (si_and (si_G rfl) (si_and (si_G rfl) si_U)) (fun _ _ _ h => h) rfl rfl rfl rfl (fun _ _ _ _ _ => (rn_fieldAddr (off := 8) rfl (T.ev 0 rfl) (fun _ _ _ => by kernel_rfl))) ?_; clear T ac; intro ac T
    refine g_w (i := 22) (by kernel_rfl) rfl (by kernel_rfl : (pbits 23 4194303).setIfInBounds 22 true = pbits 23 8388607) rfl ?_; intro K hK
    refine ow_stO M T rfl rfl (T.ev 0 rfl) (T.ev 2 rfl) rfl (.tail .head) rfl (by simp) rfl (by kernel_rfl) ?_; clear M T; intro wc ac M T
    refine sh_out hK _ _ (MA.mk (fun h => (no_of (by kernel_rfl) h).elim) (MA.mk (fun h => (no_of (by kernel_rfl) h).elim) (M.mask [false, false, false] rfl))) ?_; clear hK K
    refine g_done (by kernel_rfl) ?_
    replace T := T.pick [22, 23] rfl
    replace M := M.mask [false, true, true] rfl
    refine nm_then ?_
    refine wp_seq ?_
    refine wp_region_lit ?_
    refine l_q T rfl rfl rfl rfl (rn_move rfl (T.ev 0 rfl)) ?_; clear T ac; intro ac T
    refine l_w rfl ?_; intro K hK
    refine ow_call (first := []) (cap := []) T rfl rfl rfl rfl evf (.cons (T.ev 0 rfl) (.cons evc .nil)) Try.func32 rfl rfl ?_
    refine Calls.mono (strokesOf_any _ bpu1 2 _ (by omega) (by omega) (M.nth 1 rfl) hsu5) ?_
    clear T
    rintro e wc ⟨lu6, Au6, cu6, su6, Iu6, rfl, ⟨hfewu6, hqu6⟩, hsu6, hslu6, N⟩
    intro ac T
    replace M := (M.joinW (.tail .head) N).swapI
    obtain ⟨bu6, Ju6, hsiu6, hcapu6, hownu6, M⟩ := Sl.open (L := ((g1, .cells [.int .i64 ju2.p0, .int .i64 ju2.p1, .int .i64 ju2.t0, .int .i64 (min ju2.t1 (ju2.t0 + 1)), .int .i64 ju2.r0, .int .i64 (min ju2.r1 (ju2.r0 + 1)), .int .i64 ju2.u0, .int .i64 ju2.u1, .int .i64 ju2.d0, .int .i64 ju2.d1, .int .i64 ju2.a0, .int .i64 ju2.a1, .int .i64 ju2.b0, .int .i64 ju2.b1, .int .i64 xu5, .slice Aq1 lq1.length (cu2 - 0), .int .i64 ju2.wi, .int .i64 ju2.me]) :: (bpu1, .cells [.int .u64 su6]) :: Ix)) hslu6 M
    replace M : Mem w noEx wc ((g1, .cells [.int .i64 ju2.p0, .int .i64 ju2.p1, .int .i64 ju2.t0, .int .i64 (min ju2.t1 (ju2.t0 + 1)), .int .i64 ju2.r0, .int .i64 (min ju2.r1 (ju2.r0 + 1)), .int .i64 ju2.u0, .int .i64 ju2.u1, .int .i64 ju2.d0, .int .i64 ju2.d1, .int .i64 ju2.a0, .int .i64 ju2.a1, .int .i64 ju2.b0, .int .i64 ju2.b1, .int .i64 xu5, .slice Aq1 lq1.length (cu2 - 0), .int .i64 ju2.wi, .int .i64 ju2.me]) :: (bpu1, .cells [.int .u64 su6]) :: (Ix ++ Ju6)) := M
    have Su6 := hsiu6.sp (w := w) (ex := noEx)
    clear N hslu6 hsiu6
    obtain ⟨jm, hjm⟩ : ∃ q : Jb, q = ⟨ju2.p0, ju2.p1, ju2.t0, (min ju2.t1 (ju2.t0 + 1)), ju2.r0, (min ju2.r1 (ju2.r0 + 1)), ju2.u0, ju2.u1, ju2.d0, ju2.d1, ju2.a0, ju2.a1, ju2.b0, ju2.b1, xu5, lx, ju2.wi, ju2.me⟩ := ⟨_, rfl⟩
    have hlm : lx = jm.sh := by rw [hjm]
    have hln : lq1.length = jm.sh.length := by rw [← hlm]; omega
    have Sjm : Sp w noEx Ix Aq1 jm.sh.length 2 bu2 0 (rc jm.sh) := by rw [← hln, ← hlm]; exact hsw.sp
    replace M : Mem w noEx wc ((g1, .cells (jobL jm Aq1 (cu2 - 0))) :: (bpu1, .cells [.int .u64 su6]) :: (Ix ++ Ju6)) := by
      have e : jobL jm Aq1 (cu2 - 0) = [.int .i64 ju2.p0, .int .i64 ju2.p1, .int .i64 ju2.t0, .int .i64 (min ju2.t1 (ju2.t0 + 1)), .int .i64 ju2.r0, .int .i64 (min ju2.r1 (ju2.r0 + 1)), .int .i64 ju2.u0, .int .i64 ju2.u1, .int .i64 ju2.d0, .int .i64 ju2.d1, .int .i64 ju2.a0, .int .i64 ju2.a1, .int .i64 ju2.b0, .int .i64 ju2.b1, .int .i64 xu5, .slice Aq1 lq1.length (cu2 - 0), .int .i64 ju2.wi, .int .i64 ju2.me] := by rw [hln, hjm]
      rw [e]; exact M
    have hjn : jm.sh.length ≤ 2 := by omega
    have hjs : ∀ s ∈ jm.sh, (-5 ≤ s.1 ∧ s.1 ≤ s.2 ∧ s.2 ≤ 5) ∧ s.2 ≤ s.1 + 2 := fun s hs => by
      rw [← hlm] at hs
      obtain ⟨i9, hi9⟩ := List.getElem?_of_mem hs
      have h8 := htr i9 s hi9
      exact ⟨h8.1, h8.2 (by have := (List.getElem?_eq_some_iff.1 hi9).1; omega)⟩
    have hgm : jm.good := ⟨by rw [hjm]; dsimp only; omega, by rw [hjm]; dsimp only; omega, by rw [hjm]; dsimp only; omega, by rw [hjm]; dsimp only; omega, by rw [hjm]; dsimp only; omega, by rw [hjm]; dsimp only; omega, by rw [hjm]; dsimp only; omega, by rw [hjm]; dsimp only; omega, by omega, fun s hs => by have := (hjs s hs).1; omega, by rw [hjm]; dsimp only; omega, by rw [hjm]; dsimp only; omega⟩
    have hjw : (jm.p1 - jm.p0 ≤ 2 ∧ jm.t1 - jm.t0 ≤ 1 ∧ jm.r1 - jm.r0 ≤ 1) ∧ jm.u1 - jm.u0 ≤ 2 ∧ jm.d1 - jm.d0 ≤ 2 ∧ (0 ≤ jm.a0 ∧ jm.a1 ≤ 5) ∧ (0 ≤ jm.b0 ∧ jm.b1 ≤ 5) := by
      rw [hjm]
      dsimp only
      omega
    have hjp := hgm.p
    have hjt := hgm.t
    have hjr := hgm.r
    clear hjm hlm hsw htr
    refine sh_out hK _ _ ?_; clear hK K
    refine l_q T rfl rfl rfl rfl (rn_assign rfl (T.ev 0 rfl)) ?_; clear T ac; intro ac T
    refine wpList_nil ?_
    replace T := T.pick [0, 4] rfl
    replace M := M.mask [true, false] rfl
    refine nm_then ?_
    refine wp_seq ?_
    refine wp_seq ?_
    refine wp_region_lit ?_
    refine l_q T rfl rfl rfl rfl (rn_assign rfl evc) ?_; clear T ac; intro ac T
    refine wpList_nil ?_
    refine nm_then ?_
    refine wp_block ?_
    refine wp_loop_rounds 3 ?_
    refine rounds_S ?_
    refine wp_seq ?_
    refine wp_seq ?_
    refine wp_region_lit ?_
    refine l_q T rfl rfl rfl rfl (rn_move rfl (T.ev 0 rfl)) ?_; clear T ac; intro ac T
    refine l_q (v := (.bool true)) T rfl rfl rfl rfl (rn_neqof (rn_lss rfl (T.ev 0 rfl) evc) (by simp)) ?_; clear T ac; intro ac T
    refine wpList_nil ?_
    replace T := T.pick [0, 2, 3, 4] rfl
    refine nm_then ?_
    refine wp_cond_true (T.ev 0 rfl) ?_
    refine wp_skip ?_
    refine nm_then ?_
    refine wp_seq ?_
    refine wp_block ?_
    refine wp_seq ?_
    refine wp_region_lit ?_
    refine l_w rfl ?_; intro K hK
    refine ow_al M T rfl rfl rfl rfl ?_; clear M T; intro g3 wc ac M T
    refine sh_out hK _ _ ?_; clear hK K
    refine wpList_nil ?_
    replace T := T.pick [0, 2, 3, 4] rfl
    refine nm_then ?_
    refine wp_seq ?_
    refine wp_seq ?_
    refine wp_region_lit ?_
    refine l_q (v := (.pointer (some ⟨g1, 0, none⟩))) T rfl rfl rfl rfl (rn_fieldAddr (off := 0) rfl (T.ev 3 rfl) (fun _ _ _ => by kernel_rfl)) ?_; clear T ac; intro ac T
    refine l_q (v := (.pointer (some ⟨g1, 0, none⟩))) T rfl rfl rfl rfl (rn_fieldAddr (off := 0) rfl (T.ev 0 rfl) (fun _ _ _ => by kernel_rfl)) ?_; clear T ac; intro ac T
    refine l_q (v := (.pointer (some ⟨g1, 0, none⟩))) T rfl rfl rfl rfl (rn_fieldAddr (off := 0) rfl (T.ev 0 rfl) (fun _ _ _ => by kernel_rfl)) ?_; clear T ac; intro ac T
    refine l_q T rfl rfl rfl rfl (rn_one (Mem.nth M 1 rfl) rfl (T.ev 0 rfl) rfl) ?_; clear T ac; intro ac T
    refine l_q T rfl rfl rfl rfl (rn_assign rfl (T.ev 0 rfl)) ?_; clear T ac; intro ac T
    refine wpList_nil ?_
    replace T := T.pick [0, 5, 6, 7, 8] rfl
    refine nm_then ?_
    refine wp_block ?_
    refine wp_loop_n (fun mz ac wc => ∃ (k : Nat) (N : Int) (ek : En), mz = (jm.p1 - jm.p0 + 1).toNat - k ∧ (N = jm.p0 + (k : Int)) ∧ (k ≤ (jm.p1 - jm.p0 + 1).toNat) ∧ (ek = En.all jm En.zero (((rangeI jm.p0 jm.p1).take k).flatMap (fun n => (rangeI jm.t0 jm.t1).flatMap fun t => (rangeI jm.r0 jm.r1).flatMap fun r => trT jm lu6 (n, t, r)))) ∧ (ek.ok (1000000 - k * 12000)) ∧ Tm ac 252 [(4, .pointer (some ⟨g1, 0, none⟩)), (6, .slice Au6 lu6.length cu6), (7, .int .i64 0), (8, .pointer (some ⟨g3, 0, none⟩)), (9, .int .i64 N)] ∧ Mem w noEx wc ((g3, .cells [.int .i64 ek.a0, .int .i64 ek.a1, .int .i64 ek.b0, .int .i64 ek.b1, .int .i64 ek.c0, .int .i64 ek.c1, .int .i64 ek.wo, .int .i64 ek.pa, .int .i64 ek.th, .int .i64 ek.fi, .int .i64 ek.tr]) :: (g1, .cells (jobL jm Aq1 (cu2 - 0))) :: (Ix ++ Ju6))) ?_ ?_
    ·exact ⟨_, 0, _, En.zero, rfl, (by omega), (by omega), rfl, ⟨by decide, by decide, by decide, by decide⟩, T.pick [4, 3, 2, 1, 0] rfl, M.mask [true, true] rfl⟩
    ·clear T M
     rintro mz ac wc ⟨k, N, ek, hmm3, hN, hk3, hek, hok, T, M⟩
     refine wp_seq ?_
     refine wp_seq ?_
     refine wp_region_lit ?_
     refine l_q T rfl rfl rfl rfl (rn_move rfl (T.ev 4 rfl)) ?_; clear T ac; intro ac T
     refine l_q (v := (.pointer (some ⟨g1, 0, none⟩))) T rfl rfl rfl rfl (rn_fieldAddr (off := 0) rfl (T.ev 1 rfl) (fun _ _ _ => by kernel_rfl)) ?_; clear T ac; intro ac T
     refine l_q (v := (.pointer (some ⟨g1, 0, none⟩))) T rfl rfl rfl rfl (rn_fieldAddr (off := 0) rfl (T.ev 0 rfl) (fun _ _ _ => by kernel_rfl)) ?_; clear T ac; intro ac T
     refine l_q (v := (.pointer (some ⟨g1, 1, none⟩))) T rfl rfl rfl rfl (rn_fieldAddr (off := 1) rfl (T.ev 0 rfl) (fun _ _ _ => by kernel_rfl)) ?_; clear T ac; intro ac T
     refine l_q T rfl rfl rfl rfl (rn_one (Mem.nth M 1 rfl) rfl (T.ev 0 rfl) rfl) ?_; clear T ac; intro ac T
     refine l_q T rfl rfl rfl rfl (rn_leq rfl (T.ev 4 rfl) (T.ev 0 rfl)) ?_; clear T ac; intro ac T
     refine wpList_nil ?_
     replace T := T.pick [0, 6, 7, 8, 9, 10] rfl
     refine nm_then ?_
     refine wp_if (T.ev 0 rfl) ?_ ?_
     ·intro h2
      have hg3 := rangeI_get hN (by omega)
      refine wp_skip ?_
      refine nm_then ?_
      refine wp_seq ?_
      refine wp_block ?_
      refine wp_seq ?_
      refine wp_region_lit ?_
      refine l_q (v := (.pointer (some ⟨g1, 0, none⟩))) T rfl rfl rfl rfl (rn_fieldAddr (off := 0) rfl (T.ev 1 rfl) (fun _ _ _ => by kernel_rfl)) ?_; clear T ac; intro ac T
      refine l_q (v := (.pointer (some ⟨g1, 2, none⟩))) T rfl rfl rfl rfl (rn_fieldAddr (off := 2) rfl (T.ev 0 rfl) (fun _ _ _ => by kernel_rfl)) ?_; clear T ac; intro ac T
      refine l_q (v := (.pointer (some ⟨g1, 2, none⟩))) T rfl rfl rfl rfl (rn_fieldAddr (off := 0) rfl (T.ev 0 rfl) (fun _ _ _ => by kernel_rfl)) ?_; clear T ac; intro ac T
      refine l_q T rfl rfl rfl rfl (rn_one (Mem.nth M 1 rfl) rfl (T.ev 0 rfl) rfl) ?_; clear T ac; intro ac T
      refine l_q T rfl rfl rfl rfl (rn_assign rfl (T.ev 0 rfl)) ?_; clear T ac; intro ac T
      refine wpList_nil ?_
      replace T := T.pick [0, 6, 7, 8, 9, 10] rfl
      refine nm_then ?_
      refine wp_block ?_
      refine wp_loop_n (fun mz ac wc => ∃ (q : Nat) (V : Int) (fk : En), mz = (jm.t1 - jm.t0 + 1).toNat - q ∧ (V = jm.t0 + (q : Int)) ∧ (q ≤ (jm.t1 - jm.t0 + 1).toNat) ∧ (fk = En.all jm ek (((rangeI jm.t0 jm.t1).take q).flatMap (fun t => (rangeI jm.r0 jm.r1).flatMap fun r => trT jm lu6 (N, t, r)))) ∧ (fk.ok (1000000 - k * 12000 - q * 6000)) ∧ Tm ac 252 [(4, .pointer (some ⟨g1, 0, none⟩)), (6, .slice Au6 lu6.length cu6), (7, .int .i64 0), (8, .pointer (some ⟨g3, 0, none⟩)), (9, .int .i64 N), (10, .int .i64 V)] ∧ Mem w noEx wc ((g3, .cells [.int .i64 fk.a0, .int .i64 fk.a1, .int .i64 fk.b0, .int .i64 fk.b1, .int .i64 fk.c0, .int .i64 fk.c1, .int .i64 fk.wo, .int .i64 fk.pa, .int .i64 fk.th, .int .i64 fk.fi, .int .i64 fk.tr]) :: (g1, .cells (jobL jm Aq1 (cu2 - 0))) :: (Ix ++ Ju6))) ?_ ?_
      ·exact ⟨_, 0, _, ek, rfl, (by omega), (by omega), rfl, (hok.le (by omega)), T.pick [1, 2, 3, 4, 5, 0] rfl, M.mask [true, true] rfl⟩
      ·clear T M
       rintro mz ac wc ⟨q, V, fk, hmm4, hV, hk4, hfk, hok, T, M⟩
       refine wp_seq ?_
       refine wp_seq ?_
       refine wp_region_lit ?_
       refine l_q T rfl rfl rfl rfl (rn_move rfl (T.ev 5 rfl)) ?_; clear T ac; intro ac T
       refine l_q (v := (.pointer (some ⟨g1, 0, none⟩))) T rfl rfl rfl rfl (rn_fieldAddr (off := 0) rfl (T.ev 1 rfl) (fun _ _ _ => by kernel_rfl)) ?_; clear T ac; intro ac T
       refine l_q (v := (.pointer (some ⟨g1, 2, none⟩))) T rfl rfl rfl rfl (rn_fieldAddr (off := 2) rfl (T.ev 0 rfl) (fun _ _ _ => by kernel_rfl)) ?_; clear T ac; intro ac T
       refine l_q (v := (.pointer (some ⟨g1, 3, none⟩))) T rfl rfl rfl rfl (rn_fieldAddr (off := 1) rfl (T.ev 0 rfl) (fun _ _ _ => by kernel_rfl)) ?_; clear T ac; intro ac T
       refine l_q T rfl rfl rfl rfl (rn_one (Mem.nth M 1 rfl) rfl (T.ev 0 rfl) rfl) ?_; clear T ac; intro ac T
       refine l_q T rfl rfl rfl rfl (rn_leq rfl (T.ev 4 rfl) (T.ev 0 rfl)) ?_; clear T ac; intro ac T
       refine wpList_nil ?_
       replace T := T.pick [0, 6, 7, 8, 9, 10, 11] rfl
       refine nm_then ?_
       refine wp_if (T.ev 0 rfl) ?_ ?_
       ·intro h3
        have hg4 := rangeI_get hV (by omega)
        refine wp_skip ?_
        refine nm_then ?_
        refine wp_seq ?_
        refine wp_block ?_
        refine wp_seq ?_
        refine wp_region_lit ?_
        refine l_q (v := (.pointer (some ⟨g1, 0, none⟩))) T rfl rfl rfl rfl (rn_fieldAddr (off := 0) rfl (T.ev 1 rfl) (fun _ _ _ => by kernel_rfl)) ?_; clear T ac; intro ac T
        refine l_q (v := (.pointer (some ⟨g1, 4, none⟩))) T rfl rfl rfl rfl (rn_fieldAddr (off := 4) rfl (T.ev 0 rfl) (fun _ _ _ => by kernel_rfl)) ?_; clear T ac; intro ac T
        refine l_q (v := (.pointer (some ⟨g1, 4, none⟩))) T rfl rfl rfl rfl (rn_fieldAddr (off := 0) rfl (T.ev 0 rfl) (fun _ _ _ => by kernel_rfl)) ?_; clear T ac; intro ac T
        refine l_q T rfl rfl rfl rfl (rn_one (Mem.nth M 1 rfl) rfl (T.ev 0 rfl) rfl) ?_; clear T ac; intro ac T
        refine l_q T rfl rfl rfl rfl (rn_assign rfl (T.ev 0 rfl)) ?_; clear T ac; intro ac T
        refine wpList_nil ?_
        replace T := T.pick [0, 6, 7, 8, 9, 10, 11] rfl
        refine nm_then ?_
        refine wp_block ?_
        refine wp_loop_n (fun mz ac wc => ∃ (z : Nat) (Z : Int) (gk : En), mz = (jm.r1 - jm.r0 + 1).toNat - z ∧ (Z = jm.r0 + (z : Int)) ∧ (z ≤ (jm.r1 - jm.r0 + 1).toNat) ∧ (gk = En.all jm fk (((rangeI jm.r0 jm.r1).take z).flatMap (fun r => trT jm lu6 (N, V, r)))) ∧ (gk.ok (1000000 - k * 12000 - q * 6000 - z * 3000)) ∧ Tm ac 252 [(4, .pointer (some ⟨g1, 0, none⟩)), (6, .slice Au6 lu6.length cu6), (7, .int .i64 0), (8, .pointer (some ⟨g3, 0, none⟩)), (9, .int .i64 N), (10, .int .i64 V), (11, .int .i64 Z)] ∧ Mem w noEx wc ((g3, .cells [.int .i64 gk.a0, .int .i64 gk.a1, .int .i64 gk.b0, .int .i64 gk.b1, .int .i64 gk.c0, .int .i64 gk.c1, .int .i64 gk.wo, .int .i64 gk.pa, .int .i64 gk.th, .int .i64 gk.fi, .int .i64 gk.tr]) :: (g1, .cells (jobL jm Aq1 (cu2 - 0))) :: (Ix ++ Ju6))) ?_ ?_
        ·exact ⟨_, 0, _, fk, rfl, (by omega), (by omega), rfl, (hok.le (by omega)), T.pick [1, 2, 3, 4, 5, 6, 0] rfl, M.mask [true, true] rfl⟩
        ·clear T M
         rintro mz ac wc ⟨z, Z, gk, hmm5, hZ, hk5, hgk, hok, T, M⟩
         refine wp_seq ?_
         refine wp_seq ?_
         refine wp_region_lit ?_
         refine l_q T rfl rfl rfl rfl (rn_move rfl (T.ev 6 rfl)) ?_; clear T ac; intro ac T
         refine l_q (v := (.pointer (some ⟨g1, 0, none⟩))) T rfl rfl rfl rfl (rn_fieldAddr (off := 0) rfl (T.ev 1 rfl) (fun _ _ _ => by kernel_rfl)) ?_; clear T ac; intro ac T
         refine l_q (v := (.pointer (some ⟨g1, 4, none⟩))) T rfl rfl rfl rfl (rn_fieldAddr (off := 4) rfl (T.ev 0 rfl) (fun _ _ _ => by kernel_rfl)) ?_; clear T ac; intro ac T
         refine l_q (v := (.pointer (some ⟨g1, 5, none⟩))) T rfl rfl rfl rfl (rn_fieldAddr (off := 1) rfl (T.ev 0 rfl) (fun _ _ _ => by kernel_rfl)) ?_; clear T ac; intro ac T
         refine l_q T rfl rfl rfl rfl (rn_one (Mem.nth M 1 rfl) rfl (T.ev 0 rfl) rfl) ?_; clear T ac; intro ac T
         refine l_q T rfl rfl rfl rfl (rn_leq rfl (T.ev 4 rfl) (T.ev 0 rfl)) ?_; clear T ac; intro ac T
         refine wpList_nil ?_
         replace T := T.pick [0, 6, 7, 8, 9, 10, 11, 12] rfl
         refine nm_then ?_
         refine wp_if (T.ev 0 rfl) ?_ ?_
         ·intro h4
          have hg5 := rangeI_get hZ (by omega)
          refine wp_skip ?_
          refine nm_then ?_
          refine wp_seq ?_
          refine wp_block ?_
          refine wp_region_lit ?_
          refine l_q T rfl rfl rfl rfl (rn_rowO (Mem.nth M 1 rfl) rfl (T.ev 1 rfl) rfl) ?_; clear T ac; intro ac T
          refine l_q T rfl rfl rfl rfl (rn_move rfl (T.ev 6 rfl)) ?_; clear T ac; intro ac T
          refine l_q T rfl rfl rfl rfl (rn_move rfl (T.ev 8 rfl)) ?_; clear T ac; intro ac T
          refine l_q T rfl rfl rfl rfl (rn_move rfl (T.ev 10 rfl)) ?_; clear T ac; intro ac T
          refine l_q (v := (.agg #[.int .i64 N, .int .i64 V, .int .i64 Z])) T rfl rfl rfl rfl (rn_build rfl (.cons (T.ev 2 rfl) (.cons (T.ev 1 rfl) (.cons (T.ev 0 rfl) .nil))) (fun _ => by kernel_rfl)) ?_; clear T ac; intro ac T
          refine l_q T rfl rfl rfl rfl (rn_move rfl (T.ev 7 rfl)) ?_; clear T ac; intro ac T
          refine l_w rfl ?_; intro K hK
          refine ow_call (first := []) (cap := []) T rfl rfl rfl rfl evf (.cons (T.ev 10 rfl) (.cons (T.ev 5 rfl) (.cons (T.ev 1 rfl) (.cons (T.ev 0 rfl) (.cons evc .nil))))) Try.func61 rfl rfl ?_
          refine Calls.mono (all_strokes hgm Aq1 (cu2 - 0) g3 lu6 (by omega) hqu6 gk N V Z _ _ _ (by omega) (by omega) (by omega) (hok.le (Nat.le_trans (trT_le hjw.2.1 hjw.2.2.1 hjw.2.2.2.1 hjw.2.2.2.2 (fun s hs => (hjs s hs).2) hjn (l := lu6) (by omega) (N, V, Z)) (by omega))) (Sjm.rd M (.cons _ (.cons _ (subL (List.Sublist.refl _))))) (M.own_ne hox (List.Sublist.cons_cons _ (.cons _ (subL (List.Sublist.refl _))))) (Su6.rd M (.cons _ (.cons _ (List.sublist_append_right _ _)))) (M.own_ne hownu6 (List.Sublist.cons_cons _ (.cons _ (List.sublist_append_right _ _)))) (by omega) (M.nth 0 rfl)) ?_
          clear T
          rintro e wc ⟨rfl, hgr, hbk⟩
          intro ac T
          obtain ⟨enu7, henu7⟩ : ∃ q : En, q = En.all jm gk (trT jm lu6 (N, V, Z)) := ⟨_, rfl⟩
          rw [← henu7] at hbk
          replace M := M.callC (cs' := [.int .i64 enu7.a0, .int .i64 enu7.a1, .int .i64 enu7.b0, .int .i64 enu7.b1, .int .i64 enu7.c0, .int .i64 enu7.c1, .int .i64 enu7.wo, .int .i64 enu7.pa, .int .i64 enu7.th, .int .i64 enu7.fi, .int .i64 enu7.tr]) .head hgr hbk
          clear hgr hbk
          have htlu7 := trT_le hjw.2.1 hjw.2.2.1 hjw.2.2.2.1 hjw.2.2.2.2 (fun s hs => (hjs s hs).2) hjn (l := lu6) (by omega) (N, V, Z)
          refine sh_out hK _ _ ?_; clear hK K
          refine wpList_nil ?_
          replace T := T.pick [8, 9, 10, 11, 12, 13, 14] rfl
          refine nm_blk ?_
          refine nm_then ?_
          refine wp_region_lit ?_
          refine l_q T rfl rfl rfl rfl (rn_move rfl (T.ev 6 rfl)) ?_; clear T ac; intro ac T
          refine l_q T rfl rfl rfl rfl (rn_add rfl (T.ev 0 rfl) evc (by omega)) ?_; clear T ac; intro ac T
          refine l_q (v := (.int .i64 (Z + 1))) (T.pick [0, 1, 2, 3, 4, 5, 6, 7] rfl) rfl rfl rfl rfl (rn_assign rfl (T.ev 0 rfl)) ?_; clear T ac; intro ac T
          refine wpList_nil ?_
          replace T := T.pick [0, 3, 4, 5, 6, 7, 8] rfl
          refine nm_then ?_
          exact ⟨_, by omega, z + 1, _, enu7, rfl, (by omega), (by omega), (by rw [take_flat (fun r => trT jm lu6 (N, V, r)) _ _ _ hg5, all_app, ← hgk]; exact henu7), (by rw [henu7]; exact En.ok.all _ (hok.le (by omega))), T.pick [1, 2, 3, 4, 5, 6, 0] rfl, M.mask [true, true] rfl⟩
         ·intro h4
          rw [List.take_of_length_le (by rw [rangeI_length]; omega)] at hgk
          have hq5 : gk = En.all jm fk ((fun t => (rangeI jm.r0 jm.r1).flatMap fun r => trT jm lu6 (N, t, r)) V) := hgk
          refine wp_exit ?_
          refine ex_then ?_
          refine ex_then ?_
          refine ex_hit ?_
          refine nm_blk ?_
          refine nm_then ?_
          refine wp_region_lit ?_
          refine l_q T rfl rfl rfl rfl (rn_move rfl (T.ev 6 rfl)) ?_; clear T ac; intro ac T
          refine l_q T rfl rfl rfl rfl (rn_add rfl (T.ev 0 rfl) evc (by omega)) ?_; clear T ac; intro ac T
          refine l_q (v := (.int .i64 (V + 1))) (T.pick [0, 1, 2, 3, 4, 5, 6, 7, 9] rfl) rfl rfl rfl rfl (rn_assign rfl (T.ev 0 rfl)) ?_; clear T ac; intro ac T
          refine wpList_nil ?_
          replace T := T.pick [0, 4, 5, 6, 7, 8] rfl
          refine nm_then ?_
          exact ⟨_, by omega, q + 1, _, gk, rfl, (by omega), (by omega), (by rw [take_flat (fun t => (rangeI jm.r0 jm.r1).flatMap fun r => trT jm lu6 (N, t, r)) _ _ _ hg4, all_app, ← hfk]; exact hq5), (hok.le (by omega)), T.pick [1, 2, 3, 4, 5, 0] rfl, M.mask [true, true] rfl⟩
       ·intro h3
        rw [List.take_of_length_le (by rw [rangeI_length]; omega)] at hfk
        have hq4 : fk = En.all jm ek ((fun n => (rangeI jm.t0 jm.t1).flatMap fun t => (rangeI jm.r0 jm.r1).flatMap fun r => trT jm lu6 (n, t, r)) N) := hfk
        refine wp_exit ?_
        refine ex_then ?_
        refine ex_then ?_
        refine ex_hit ?_
        refine nm_blk ?_
        refine nm_then ?_
        refine wp_region_lit ?_
        refine l_q T rfl rfl rfl rfl (rn_move rfl (T.ev 5 rfl)) ?_; clear T ac; intro ac T
        refine l_q T rfl rfl rfl rfl (rn_add rfl (T.ev 0 rfl) evc (by omega)) ?_; clear T ac; intro ac T
        refine l_q (v := (.int .i64 (N + 1))) (T.pick [0, 1, 2, 3, 4, 5, 6, 8] rfl) rfl rfl rfl rfl (rn_assign rfl (T.ev 0 rfl)) ?_; clear T ac; intro ac T
        refine wpList_nil ?_
        replace T := T.pick [0, 4, 5, 6, 7] rfl
        refine nm_then ?_
        exact ⟨_, by omega, k + 1, _, fk, rfl, (by omega), (by omega), (by rw [take_flat (fun n => (rangeI jm.t0 jm.t1).flatMap fun t => (rangeI jm.r0 jm.r1).flatMap fun r => trT jm lu6 (n, t, r)) _ _ _ hg3, all_app, ← hek]; exact hq4), (hok.le (by omega)), T.pick [1, 2, 3, 4, 0] rfl, M.mask [true, true] rfl⟩
     ·intro h2
      rw [List.take_of_length_le (by rw [rangeI_length]; omega)] at hek
      have hea : ek = En.all jm En.zero (allT jm lu6) := hek
      have hlaw := all_law hgm (l := lu6) hqu6
      rw [← hea] at hlaw
      obtain ⟨tp1, tp2, tp3, tp4, tp5⟩ := top_after hgm (l := lu6) (by omega) hqu6
      refine wp_exit ?_
      refine ex_then ?_
      refine ex_then ?_
      refine ex_hit ?_
      refine nm_then ?_
      refine wp_seq ?_
      refine wp_region_lit ?_
      refine l_q T rfl rfl rfl rfl (rn_rowO (Mem.nth M 1 rfl) rfl (T.ev 1 rfl) rfl) ?_; clear T ac; intro ac T
      refine l_q T rfl rfl rfl rfl (rn_move rfl (T.ev 3 rfl)) ?_; clear T ac; intro ac T
      refine l_w rfl ?_; intro K hK
      refine ow_call (first := []) (cap := []) T rfl rfl rfl rfl evf (.cons (T.ev 1 rfl) (.cons (T.ev 0 rfl) .nil)) Try.func34 rfl rfl ?_
      refine Calls.mono (After_T jm _ _ _ _ _ lu6 _ (Sjm.rd M (.cons _ (.cons _ (subL (List.Sublist.refl _))))) (by first | omega | (simp only [List.length_cons, List.length_nil, List.length_set]; omega)) (Su6.rd M (.cons _ (.cons _ (List.sublist_append_right _ _)))) (by first | omega | (simp only [List.length_cons, List.length_nil, List.length_set]; omega))) ?_
      clear T
      rintro e wc ⟨rfl, hb⟩
      intro ac T
      replace M := M.call hb; clear hb
      refine sh_out hK _ _ ?_; clear hK K
      refine l_q T rfl rfl rfl rfl (rn_move rfl (T.ev 0 rfl)) ?_; clear T ac; intro ac T
      refine l_q T rfl rfl rfl rfl (rn_extract rfl (T.ev 0 rfl) rfl) ?_; clear T ac; intro ac T
      refine l_q T rfl rfl rfl rfl (rn_extract rfl (T.ev 1 rfl) rfl) ?_; clear T ac; intro ac T
      refine l_w rfl ?_; intro K hK
      refine ow_al M T rfl rfl rfl rfl ?_; clear M T; intro g4 wc ac M T
      refine sh_out hK _ _ ?_; clear hK K
      refine l_w rfl ?_; intro K hK
      refine ow_stO M T rfl rfl (T.ev 0 rfl) (T.ev 2 rfl) rfl .head rfl (by simp) rfl (by kernel_rfl) ?_; clear M T; intro wc ac M T
      refine sh_out hK _ _ ?_; clear hK K
      refine l_q T rfl rfl rfl rfl (rn_assign rfl (T.ev 1 rfl)) ?_; clear T ac; intro ac T
      refine wpList_nil ?_
      replace T := T.pick [0, 1, 9, 10, 11, 12] rfl
      refine nm_then ?_
      refine wp_seq ?_
      refine wp_region_lit ?_
      refine l_q T rfl rfl rfl rfl (rn_rowO (Mem.nth M 2 rfl) rfl (T.ev 2 rfl) rfl) ?_; clear T ac; intro ac T
      refine l_q T rfl rfl rfl rfl (rn_move rfl (T.ev 4 rfl)) ?_; clear T ac; intro ac T
      refine l_w rfl ?_; intro K hK
      refine ow_call (first := []) (cap := []) T rfl rfl rfl rfl evf (.cons (T.ev 1 rfl) (.cons (T.ev 0 rfl) .nil)) Try.func51 rfl rfl ?_
      refine Calls.mono (Worst_any jm _ _ _ _ _ lu6 _ (Sjm.rd M (.cons _ (.cons _ (.cons _ (subL (List.Sublist.refl _)))))) (by first | omega | (simp only [List.length_cons, List.length_nil, List.length_set]; omega)) (Su6.rd M (.cons _ (.cons _ (.cons _ (List.sublist_append_right _ _))))) (by first | omega | (simp only [List.length_cons, List.length_nil, List.length_set]; omega))) ?_
      clear T
      rintro e wc ⟨rfl, hb⟩
      intro ac T
      replace M := M.call hb; clear hb
      refine sh_out hK _ _ ?_; clear hK K
      refine l_q T rfl rfl rfl rfl (rn_move rfl (T.ev 0 rfl)) ?_; clear T ac; intro ac T
      refine l_q T rfl rfl rfl rfl (rn_extract rfl (T.ev 0 rfl) rfl) ?_; clear T ac; intro ac T
      refine l_q T rfl rfl rfl rfl (rn_extract rfl (T.ev 1 rfl) rfl) ?_; clear T ac; intro ac T
      refine l_q T rfl rfl rfl rfl (rn_assign rfl (T.ev 1 rfl)) ?_; clear T ac; intro ac T
      refine l_q T rfl rfl rfl rfl (rn_assign rfl (T.ev 1 rfl)) ?_; clear T ac; intro ac T
      refine wpList_nil ?_
      replace T := T.pick [0, 1, 8, 9, 10, 11, 12, 13] rfl
      refine nm_then ?_
      refine wp_seq ?_
      refine wp_region_lit ?_
      refine l_q T rfl rfl rfl rfl (rn_rowO (Mem.nth M 2 rfl) rfl (T.ev 4 rfl) rfl) ?_; clear T ac; intro ac T
      refine l_q T rfl rfl rfl rfl (rn_move rfl (T.ev 6 rfl)) ?_; clear T ac; intro ac T
      refine l_w rfl ?_; intro K hK
      refine ow_call (first := []) (cap := []) T rfl rfl rfl rfl evf (.cons (T.ev 1 rfl) (.cons (T.ev 0 rfl) .nil)) Try.func44 rfl rfl ?_
      refine Calls.mono (Spoiled_any jm _ _ _ _ _ lu6 _ (Sjm.rd M (.cons _ (.cons _ (.cons _ (subL (List.Sublist.refl _)))))) (by first | omega | (simp only [List.length_cons, List.length_nil, List.length_set]; omega)) (Su6.rd M (.cons _ (.cons _ (.cons _ (List.sublist_append_right _ _))))) (by first | omega | (simp only [List.length_cons, List.length_nil, List.length_set]; omega))) ?_
      clear T
      rintro e wc ⟨rfl, hb⟩
      intro ac T
      replace M := M.call hb; clear hb
      refine sh_out hK _ _ ?_; clear hK K
      refine l_q T rfl rfl rfl rfl (rn_move rfl (T.ev 0 rfl)) ?_; clear T ac; intro ac T
      refine l_q T rfl rfl rfl rfl (rn_extract rfl (T.ev 0 rfl) rfl) ?_; clear T ac; intro ac T
      refine l_q T rfl rfl rfl rfl (rn_extract rfl (T.ev 1 rfl) rfl) ?_; clear T ac; intro ac T
      refine l_q T rfl rfl rfl rfl (rn_assign rfl (T.ev 1 rfl)) ?_; clear T ac; intro ac T
      refine l_q T rfl rfl rfl rfl (rn_assign rfl (T.ev 1 rfl)) ?_; clear T ac; intro ac T
      refine wpList_nil ?_
      replace T := T.pick [0, 1, 8, 9, 10, 11, 12, 13, 14, 15] rfl
      refine nm_then ?_
      refine wp_seq ?_
      refine wp_region_lit ?_
      refine l_q T rfl rfl rfl rfl (rn_rowO (Mem.nth M 2 rfl) rfl (T.ev 6 rfl) rfl) ?_; clear T ac; intro ac T
      refine l_q T rfl rfl rfl rfl (rn_move rfl (T.ev 8 rfl)) ?_; clear T ac; intro ac T
      refine l_w rfl ?_; intro K hK
      refine ow_call (first := []) (cap := []) T rfl rfl rfl rfl evf (.cons (T.ev 1 rfl) (.cons (T.ev 0 rfl) .nil)) Try.func30 rfl rfl ?_
      refine Calls.mono (Fine_any jm _ _ _ _ _ lu6 _ (Sjm.rd M (.cons _ (.cons _ (.cons _ (subL (List.Sublist.refl _)))))) (by first | omega | (simp only [List.length_cons, List.length_nil, List.length_set]; omega)) (Su6.rd M (.cons _ (.cons _ (.cons _ (List.sublist_append_right _ _))))) (by first | omega | (simp only [List.length_cons, List.length_nil, List.length_set]; omega))) ?_
      clear T
      rintro e wc ⟨rfl, hb⟩
      intro ac T
      replace M := M.call hb; clear hb
      refine sh_out hK _ _ ?_; clear hK K
      refine l_q T rfl rfl rfl rfl (rn_move rfl (T.ev 0 rfl)) ?_; clear T ac; intro ac T
      refine l_q T rfl rfl rfl rfl (rn_extract rfl (T.ev 0 rfl) rfl) ?_; clear T ac; intro ac T
      refine l_q T rfl rfl rfl rfl (rn_extract rfl (T.ev 1 rfl) rfl) ?_; clear T ac; intro ac T
      refine l_q T rfl rfl rfl rfl (rn_assign rfl (T.ev 1 rfl)) ?_; clear T ac; intro ac T
      refine l_q T rfl rfl rfl rfl (rn_assign rfl (T.ev 1 rfl)) ?_; clear T ac; intro ac T
      refine wpList_nil ?_
      replace T := T.pick [0, 1, 8, 9, 10, 11, 12, 13, 14, 15, 16, 17] rfl
      refine nm_then ?_
      refine wp_seq ?_
      refine cut_seq (fun ac wc => Tm ac 252 [(4, .pointer (some ⟨g1, 0, none⟩)), (6, .slice Au6 lu6.length cu6), (7, .int .i64 0), (8, .pointer (some ⟨g3, 0, none⟩)), (229, .bool ((!(decide ((checkStrokesJ jm lu6) = 0))) || ((!(decide (((worstT jm lu6).2) = 0))) || ((!(decide (((spoiledT jm lu6).2) = 0))) || ((!(decide (((fineT jm lu6).2) = 0))) || ((!((decide (((afT jm lu6).p0) = ek.a0)) && ((decide (((afT jm lu6).p1) = ek.a1)) && ((decide (((afT jm lu6).t0) = ek.b0)) && ((decide (((afT jm lu6).t1) = ek.b1)) && ((decide (((afT jm lu6).r0) = ek.c0)) && (decide (((afT jm lu6).r1) = ek.c1)))))))) || ((!(decide (((worstT jm lu6).1) = ek.wo))) || ((!(decide (((spoiledT jm lu6).1) = (toldT ek.th ek.tr)))) || (!(decide (((fineT jm lu6).1) = (toldT ek.fi ek.tr))))))))))))] ∧ Mem w noEx wc ((g3, .cells [.int .i64 ek.a0, .int .i64 ek.a1, .int .i64 ek.b0, .int .i64 ek.b1, .int .i64 ek.c0, .int .i64 ek.c1, .int .i64 ek.wo, .int .i64 ek.pa, .int .i64 ek.th, .int .i64 ek.fi, .int .i64 ek.tr]) :: (g1, .cells (jobL jm Aq1 (cu2 - 0))) :: (Ix ++ Ju6))) ?_ ?_
      ·refine wp_region_lit ?_
       refine l_q T rfl rfl rfl rfl (rn_move rfl (T.ev 6 rfl)) ?_; clear T ac; intro ac T
       refine l_q T rfl rfl rfl rfl (rn_neq rfl (T.ev 0 rfl) evc) ?_; clear T ac; intro ac T
       refine l_q T rfl rfl rfl rfl (rn_move rfl (T.ev 0 rfl)) ?_; clear T ac; intro ac T
       rcases Bool.eq_false_or_eq_true (!(decide ((checkStrokesJ jm lu6) = 0))) with h5 | h5
       ·replace h5 : ¬ ((checkStrokesJ jm lu6) = 0) := by first | (rw [Bool.not_eq_true'] at h5; exact of_decide_eq_false h5) | simpa using h5
        refine l_pass T (wanted_no rfl rfl (T.ev 0 rfl) (by simp [h5])) rfl rfl rfl ?_; clear T ac; intro ac T
        refine l_pass T (wanted_no rfl rfl (T.ev 1 rfl) (by simp [h5])) rfl rfl rfl ?_; clear T ac; intro ac T
        refine l_q T rfl rfl rfl rfl (rn_pick1 rfl (T.ev 2 rfl) (by simp [h5]) evc) ?_; clear T ac; intro ac T
        refine l_q T rfl rfl rfl rfl (rn_move rfl (T.ev 0 rfl)) ?_; clear T ac; intro ac T
        refine l_pass T (wanted_no rfl rfl (T.ev 0 rfl) rfl) rfl rfl rfl ?_; clear T ac; intro ac T
        refine l_pass T (wanted_no rfl rfl (T.ev 1 rfl) rfl) rfl rfl rfl ?_; clear T ac; intro ac T
        refine l_q T rfl rfl rfl rfl (rn_pick1 rfl (T.ev 2 rfl) rfl evc) ?_; clear T ac; intro ac T
        refine l_q T rfl rfl rfl rfl (rn_move rfl (T.ev 0 rfl)) ?_; clear T ac; intro ac T
        refine l_pass T (wanted_no rfl rfl (T.ev 0 rfl) rfl) rfl rfl rfl ?_; clear T ac; intro ac T
        refine l_pass T (wanted_no rfl rfl (T.ev 1 rfl) rfl) rfl rfl rfl ?_; clear T ac; intro ac T
        refine l_q T rfl rfl rfl rfl (rn_pick1 rfl (T.ev 2 rfl) rfl evc) ?_; clear T ac; intro ac T
        refine l_q T rfl rfl rfl rfl (rn_move rfl (T.ev 0 rfl)) ?_; clear T ac; intro ac T
        refine l_pass T (wanted_no rfl rfl (T.ev 0 rfl) rfl) rfl rfl rfl ?_; clear T ac; intro ac T
        refine l_pass T (wanted_no rfl rfl (T.ev 1 rfl) rfl) rfl rfl rfl ?_; clear T ac; intro ac T
        refine l_pass T (wanted_no rfl rfl (T.ev 2 rfl) rfl) rfl rfl rfl ?_; clear T ac; intro ac T
        refine l_pass T (wanted_no rfl rfl (T.ev 3 rfl) rfl) rfl rfl rfl ?_; clear T ac; intro ac T
        refine l_pass T (wanted_no rfl rfl (T.ev 4 rfl) rfl) rfl rfl rfl ?_; clear T ac; intro ac T
        refine l_pass T (wanted_no rfl rfl (T.ev 5 rfl) rfl) rfl rfl rfl ?_; clear T ac; intro ac T
        refine l_pass T (wanted_no rfl rfl (T.ev 6 rfl) rfl) rfl rfl rfl ?_; clear T ac; intro ac T
        refine l_pass T (wanted_no rfl rfl (T.ev 7 rfl) rfl) rfl rfl rfl ?_; clear T ac; intro ac T
        refine l_pass T (wanted_no rfl rfl (T.ev 8 rfl) rfl) rfl rfl rfl ?_; clear T ac; intro ac T
        refine l_q T rfl rfl rfl rfl (rn_pick1 rfl (T.ev 9 rfl) rfl evc) ?_; clear T ac; intro ac T
        refine l_q T rfl rfl rfl rfl (rn_move rfl (T.ev 0 rfl)) ?_; clear T ac; intro ac T
        refine l_pass T (wanted_no rfl rfl (T.ev 0 rfl) rfl) rfl rfl rfl ?_; clear T ac; intro ac T
        refine l_pass T (wanted_no rfl rfl (T.ev 1 rfl) rfl) rfl rfl rfl ?_; clear T ac; intro ac T
        refine l_pass T (wanted_no rfl rfl (T.ev 2 rfl) rfl) rfl rfl rfl ?_; clear T ac; intro ac T
        refine l_pass T (wanted_no rfl rfl (T.ev 3 rfl) rfl) rfl rfl rfl ?_; clear T ac; intro ac T
        refine l_q T rfl rfl rfl rfl (rn_pick1 rfl (T.ev 4 rfl) rfl evc) ?_; clear T ac; intro ac T
        refine l_q T rfl rfl rfl rfl (rn_move rfl (T.ev 0 rfl)) ?_; clear T ac; intro ac T
        refine l_pass T (wanted_no rfl rfl (T.ev 0 rfl) rfl) rfl rfl rfl ?_; clear T ac; intro ac T
        refine l_pass T (wanted_no rfl rfl (T.ev 1 rfl) rfl) rfl rfl rfl ?_; clear T ac; intro ac T
        refine l_pass T (wanted_no rfl rfl (T.ev 2 rfl) rfl) rfl rfl rfl ?_; clear T ac; intro ac T
        refine l_pass T (wanted_no rfl rfl (T.ev 3 rfl) rfl) rfl rfl rfl ?_; clear T ac; intro ac T
        refine l_pass T (wanted_no rfl rfl (T.ev 4 rfl) rfl) rfl rfl rfl ?_; clear T ac; intro ac T
        refine l_pass T (wanted_no rfl rfl (T.ev 5 rfl) rfl) rfl rfl rfl ?_; clear T ac; intro ac T
        refine l_pass T (wanted_no rfl rfl (T.ev 6 rfl) rfl) rfl rfl rfl ?_; clear T ac; intro ac T
        refine l_q T rfl rfl rfl rfl (rn_pick1 rfl (T.ev 7 rfl) rfl evc) ?_; clear T ac; intro ac T
        refine l_q T rfl rfl rfl rfl (rn_move rfl (T.ev 0 rfl)) ?_; clear T ac; intro ac T
        refine l_pass T (wanted_no rfl rfl (T.ev 0 rfl) rfl) rfl rfl rfl ?_; clear T ac; intro ac T
        refine l_pass T (wanted_no rfl rfl (T.ev 1 rfl) rfl) rfl rfl rfl ?_; clear T ac; intro ac T
        refine l_pass T (wanted_no rfl rfl (T.ev 2 rfl) rfl) rfl rfl rfl ?_; clear T ac; intro ac T
        refine l_pass T (wanted_no rfl rfl (T.ev 3 rfl) rfl) rfl rfl rfl ?_; clear T ac; intro ac T
        refine l_pass T (wanted_no rfl rfl (T.ev 4 rfl) rfl) rfl rfl rfl ?_; clear T ac; intro ac T
        refine l_pass T (wanted_no rfl rfl (T.ev 5 rfl) rfl) rfl rfl rfl ?_; clear T ac; intro ac T
        refine l_pass T (wanted_no rfl rfl (T.ev 6 rfl) rfl) rfl rfl rfl ?_; clear T ac; intro ac T
        refine l_q T rfl rfl rfl rfl (rn_pick1 rfl (T.ev 7 rfl) rfl evc) ?_; clear T ac; intro ac T
        refine wpList_nil ?_
        replace T := T.pick [0, 1, 2, 3, 4, 5, 6, 7, 10, 11, 12, 13, 14, 15, 16, 19, 20, 21, 22, 25, 26, 27, 28, 29, 30, 31, 32, 33, 36, 37, 40, 41, 44, 45, 57, 58, 59, 60] rfl
        replace M := M.mask [false, true, true] rfl
        exact ⟨(T.pick (E' := [(4, .pointer (some ⟨g1, 0, none⟩)), (6, .slice Au6 lu6.length cu6), (7, .int .i64 0), (8, .pointer (some ⟨g3, 0, none⟩)), (229, .bool true)]) [34, 35, 36, 37, 0] rfl).as (by (try rw [show (!(decide ((checkStrokesJ jm lu6) = 0))) = true from (by simp [h5])]); (try rfl)), M.mask [true, true] rfl⟩
       ·replace h5 : (checkStrokesJ jm lu6) = 0 := by first | (rw [Bool.not_eq_false'] at h5; exact of_decide_eq_true h5) | simpa using h5
        refine l_q T (wanted_yes rfl rfl (T.ev 0 rfl) (by simp [h5])) rfl rfl rfl (rn_move rfl (T.ev 7 rfl)) ?_; clear T ac; intro ac T
        refine l_q T (wanted_yes rfl rfl (T.ev 1 rfl) (by simp [h5])) rfl rfl rfl (rn_neq rfl (T.ev 0 rfl) evc) ?_; clear T ac; intro ac T
        refine l_q T rfl rfl rfl rfl (rn_pick0 rfl (T.ev 2 rfl) (by simp [h5]) (T.ev 0 rfl)) ?_; clear T ac; intro ac T
        refine l_q T rfl rfl rfl rfl (rn_move rfl (T.ev 0 rfl)) ?_; clear T ac; intro ac T
        rcases Bool.eq_false_or_eq_true (!(decide (((worstT jm lu6).2) = 0))) with h6 | h6
        ·replace h6 : ¬ (((worstT jm lu6).2) = 0) := by first | (rw [Bool.not_eq_true'] at h6; exact of_decide_eq_false h6) | simpa using h6
         refine l_pass T (wanted_no rfl rfl (T.ev 0 rfl) (by simp [h6])) rfl rfl rfl ?_; clear T ac; intro ac T
         refine l_pass T (wanted_no rfl rfl (T.ev 1 rfl) (by simp [h6])) rfl rfl rfl ?_; clear T ac; intro ac T
         refine l_q T rfl rfl rfl rfl (rn_pick1 rfl (T.ev 2 rfl) (by simp [h6]) evc) ?_; clear T ac; intro ac T
         refine l_q T rfl rfl rfl rfl (rn_move rfl (T.ev 0 rfl)) ?_; clear T ac; intro ac T
         refine l_pass T (wanted_no rfl rfl (T.ev 0 rfl) rfl) rfl rfl rfl ?_; clear T ac; intro ac T
         refine l_pass T (wanted_no rfl rfl (T.ev 1 rfl) rfl) rfl rfl rfl ?_; clear T ac; intro ac T
         refine l_q T rfl rfl rfl rfl (rn_pick1 rfl (T.ev 2 rfl) rfl evc) ?_; clear T ac; intro ac T
         refine l_q T rfl rfl rfl rfl (rn_move rfl (T.ev 0 rfl)) ?_; clear T ac; intro ac T
         refine l_pass T (wanted_no rfl rfl (T.ev 0 rfl) rfl) rfl rfl rfl ?_; clear T ac; intro ac T
         refine l_pass T (wanted_no rfl rfl (T.ev 1 rfl) rfl) rfl rfl rfl ?_; clear T ac; intro ac T
         refine l_pass T (wanted_no rfl rfl (T.ev 2 rfl) rfl) rfl rfl rfl ?_; clear T ac; intro ac T
         refine l_pass T (wanted_no rfl rfl (T.ev 3 rfl) rfl) rfl rfl rfl ?_; clear T ac; intro ac T
         refine l_pass T (wanted_no rfl rfl (T.ev 4 rfl) rfl) rfl rfl rfl ?_; clear T ac; intro ac T
         refine l_pass T (wanted_no rfl rfl (T.ev 5 rfl) rfl) rfl rfl rfl ?_; clear T ac; intro ac T
         refine l_pass T (wanted_no rfl rfl (T.ev 6 rfl) rfl) rfl rfl rfl ?_; clear T ac; intro ac T
         refine l_pass T (wanted_no rfl rfl (T.ev 7 rfl) rfl) rfl rfl rfl ?_; clear T ac; intro ac T
         refine l_pass T (wanted_no rfl rfl (T.ev 8 rfl) rfl) rfl rfl rfl ?_; clear T ac; intro ac T
         refine l_q T rfl rfl rfl rfl (rn_pick1 rfl (T.ev 9 rfl) rfl evc) ?_; clear T ac; intro ac T
         refine l_q T rfl rfl rfl rfl (rn_move rfl (T.ev 0 rfl)) ?_; clear T ac; intro ac T
         refine l_pass T (wanted_no rfl rfl (T.ev 0 rfl) rfl) rfl rfl rfl ?_; clear T ac; intro ac T
         refine l_pass T (wanted_no rfl rfl (T.ev 1 rfl) rfl) rfl rfl rfl ?_; clear T ac; intro ac T
         refine l_pass T (wanted_no rfl rfl (T.ev 2 rfl) rfl) rfl rfl rfl ?_; clear T ac; intro ac T
         refine l_pass T (wanted_no rfl rfl (T.ev 3 rfl) rfl) rfl rfl rfl ?_; clear T ac; intro ac T
         refine l_q T rfl rfl rfl rfl (rn_pick1 rfl (T.ev 4 rfl) rfl evc) ?_; clear T ac; intro ac T
         refine l_q T rfl rfl rfl rfl (rn_move rfl (T.ev 0 rfl)) ?_; clear T ac; intro ac T
         refine l_pass T (wanted_no rfl rfl (T.ev 0 rfl) rfl) rfl rfl rfl ?_; clear T ac; intro ac T
         refine l_pass T (wanted_no rfl rfl (T.ev 1 rfl) rfl) rfl rfl rfl ?_; clear T ac; intro ac T
         refine l_pass T (wanted_no rfl rfl (T.ev 2 rfl) rfl) rfl rfl rfl ?_; clear T ac; intro ac T
         refine l_pass T (wanted_no rfl rfl (T.ev 3 rfl) rfl) rfl rfl rfl ?_; clear T ac; intro ac T
         refine l_pass T (wanted_no rfl rfl (T.ev 4 rfl) rfl) rfl rfl rfl ?_; clear T ac; intro ac T
         refine l_pass T (wanted_no rfl rfl (T.ev 5 rfl) rfl) rfl rfl rfl ?_; clear T ac; intro ac T
         refine l_pass T (wanted_no rfl rfl (T.ev 6 rfl) rfl) rfl rfl rfl ?_; clear T ac; intro ac T
         refine l_q T rfl rfl rfl rfl (rn_pick1 rfl (T.ev 7 rfl) rfl evc) ?_; clear T ac; intro ac T
         refine l_q T rfl rfl rfl rfl (rn_move rfl (T.ev 0 rfl)) ?_; clear T ac; intro ac T
         refine l_pass T (wanted_no rfl rfl (T.ev 0 rfl) rfl) rfl rfl rfl ?_; clear T ac; intro ac T
         refine l_pass T (wanted_no rfl rfl (T.ev 1 rfl) rfl) rfl rfl rfl ?_; clear T ac; intro ac T
         refine l_pass T (wanted_no rfl rfl (T.ev 2 rfl) rfl) rfl rfl rfl ?_; clear T ac; intro ac T
         refine l_pass T (wanted_no rfl rfl (T.ev 3 rfl) rfl) rfl rfl rfl ?_; clear T ac; intro ac T
         refine l_pass T (wanted_no rfl rfl (T.ev 4 rfl) rfl) rfl rfl rfl ?_; clear T ac; intro ac T
         refine l_pass T (wanted_no rfl rfl (T.ev 5 rfl) rfl) rfl rfl rfl ?_; clear T ac; intro ac T
         refine l_pass T (wanted_no rfl rfl (T.ev 6 rfl) rfl) rfl rfl rfl ?_; clear T ac; intro ac T
         refine l_q T rfl rfl rfl rfl (rn_pick1 rfl (T.ev 7 rfl) rfl evc) ?_; clear T ac; intro ac T
         refine wpList_nil ?_
         replace T := T.pick [0, 1, 2, 3, 4, 5, 6, 7, 10, 11, 12, 13, 14, 15, 16, 19, 20, 21, 22, 25, 26, 27, 28, 29, 30, 31, 32, 33, 36, 37, 40, 41, 44, 45, 57, 58, 59, 60] rfl
         replace M := M.mask [false, true, true] rfl
         exact ⟨(T.pick (E' := [(4, .pointer (some ⟨g1, 0, none⟩)), (6, .slice Au6 lu6.length cu6), (7, .int .i64 0), (8, .pointer (some ⟨g3, 0, none⟩)), (229, .bool true)]) [34, 35, 36, 37, 0] rfl).as (by (try rw [show (!(decide ((checkStrokesJ jm lu6) = 0))) = false from (by simp [h5])]); (try rw [show (!(decide (((worstT jm lu6).2) = 0))) = true from (by simp [h6])]); (try rfl)), M.mask [true, true] rfl⟩
        ·replace h6 : ((worstT jm lu6).2) = 0 := by first | (rw [Bool.not_eq_false'] at h6; exact of_decide_eq_true h6) | simpa using h6
         refine l_q T (wanted_yes rfl rfl (T.ev 0 rfl) (by simp [h6])) rfl rfl rfl (rn_move rfl (T.ev 9 rfl)) ?_; clear T ac; intro ac T
         refine l_q T (wanted_yes rfl rfl (T.ev 1 rfl) (by simp [h6])) rfl rfl rfl (rn_neq rfl (T.ev 0 rfl) evc) ?_; clear T ac; intro ac T
         refine l_q T rfl rfl rfl rfl (rn_pick0 rfl (T.ev 2 rfl) (by simp [h6]) (T.ev 0 rfl)) ?_; clear T ac; intro ac T
         refine l_q T rfl rfl rfl rfl (rn_move rfl (T.ev 0 rfl)) ?_; clear T ac; intro ac T
         rcases Bool.eq_false_or_eq_true (!(decide (((spoiledT jm lu6).2) = 0))) with h7 | h7
         ·replace h7 : ¬ (((spoiledT jm lu6).2) = 0) := by first | (rw [Bool.not_eq_true'] at h7; exact of_decide_eq_false h7) | simpa using h7
          refine l_pass T (wanted_no rfl rfl (T.ev 0 rfl) (by simp [h7])) rfl rfl rfl ?_; clear T ac; intro ac T
          refine l_pass T (wanted_no rfl rfl (T.ev 1 rfl) (by simp [h7])) rfl rfl rfl ?_; clear T ac; intro ac T
          refine l_q T rfl rfl rfl rfl (rn_pick1 rfl (T.ev 2 rfl) (by simp [h7]) evc) ?_; clear T ac; intro ac T
          refine l_q T rfl rfl rfl rfl (rn_move rfl (T.ev 0 rfl)) ?_; clear T ac; intro ac T
          refine l_pass T (wanted_no rfl rfl (T.ev 0 rfl) rfl) rfl rfl rfl ?_; clear T ac; intro ac T
          refine l_pass T (wanted_no rfl rfl (T.ev 1 rfl) rfl) rfl rfl rfl ?_; clear T ac; intro ac T
          refine l_pass T (wanted_no rfl rfl (T.ev 2 rfl) rfl) rfl rfl rfl ?_; clear T ac; intro ac T
          refine l_pass T (wanted_no rfl rfl (T.ev 3 rfl) rfl) rfl rfl rfl ?_; clear T ac; intro ac T
          refine l_pass T (wanted_no rfl rfl (T.ev 4 rfl) rfl) rfl rfl rfl ?_; clear T ac; intro ac T
          refine l_pass T (wanted_no rfl rfl (T.ev 5 rfl) rfl) rfl rfl rfl ?_; clear T ac; intro ac T
          refine l_pass T (wanted_no rfl rfl (T.ev 6 rfl) rfl) rfl rfl rfl ?_; clear T ac; intro ac T
          refine l_pass T (wanted_no rfl rfl (T.ev 7 rfl) rfl) rfl rfl rfl ?_; clear T ac; intro ac T
          refine l_pass T (wanted_no rfl rfl (T.ev 8 rfl) rfl) rfl rfl rfl ?_; clear T ac; intro ac T
          refine l_q T rfl rfl rfl rfl (rn_pick1 rfl (T.ev 9 rfl) rfl evc) ?_; clear T ac; intro ac T
          refine l_q T rfl rfl rfl rfl (rn_move rfl (T.ev 0 rfl)) ?_; clear T ac; intro ac T
          refine l_pass T (wanted_no rfl rfl (T.ev 0 rfl) rfl) rfl rfl rfl ?_; clear T ac; intro ac T
          refine l_pass T (wanted_no rfl rfl (T.ev 1 rfl) rfl) rfl rfl rfl ?_; clear T ac; intro ac T
          refine l_pass T (wanted_no rfl rfl (T.ev 2 rfl) rfl) rfl rfl rfl ?_; clear T ac; intro ac T
          refine l_pass T (wanted_no rfl rfl (T.ev 3 rfl) rfl) rfl rfl rfl ?_; clear T ac; intro ac T
          refine l_q T rfl rfl rfl rfl (rn_pick1 rfl (T.ev 4 rfl) rfl evc) ?_; clear T ac; intro ac T
          refine l_q T rfl rfl rfl rfl (rn_move rfl (T.ev 0 rfl)) ?_; clear T ac; intro ac T
          refine l_pass T (wanted_no rfl rfl (T.ev 0 rfl) rfl) rfl rfl rfl ?_; clear T ac; intro ac T
          refine l_pass T (wanted_no rfl rfl (T.ev 1 rfl) rfl) rfl rfl rfl ?_; clear T ac; intro ac T
          refine l_pass T (wanted_no rfl rfl (T.ev 2 rfl) rfl) rfl rfl rfl ?_; clear T ac; intro ac T
          refine l_pass T (wanted_no rfl rfl (T.ev 3 rfl) rfl) rfl rfl rfl ?_; clear T ac; intro ac T
          refine l_pass T (wanted_no rfl rfl (T.ev 4 rfl) rfl) rfl rfl rfl ?_; clear T ac; intro ac T
          refine l_pass T (wanted_no rfl rfl (T.ev 5 rfl) rfl) rfl rfl rfl ?_; clear T ac; intro ac T
          refine l_pass T (wanted_no rfl rfl (T.ev 6 rfl) rfl) rfl rfl rfl ?_; clear T ac; intro ac T
          refine l_q T rfl rfl rfl rfl (rn_pick1 rfl (T.ev 7 rfl) rfl evc) ?_; clear T ac; intro ac T
          refine l_q T rfl rfl rfl rfl (rn_move rfl (T.ev 0 rfl)) ?_; clear T ac; intro ac T
          refine l_pass T (wanted_no rfl rfl (T.ev 0 rfl) rfl) rfl rfl rfl ?_; clear T ac; intro ac T
          refine l_pass T (wanted_no rfl rfl (T.ev 1 rfl) rfl) rfl rfl rfl ?_; clear T ac; intro ac T
          refine l_pass T (wanted_no rfl rfl (T.ev 2 rfl) rfl) rfl rfl rfl ?_; clear T ac; intro ac T
          refine l_pass T (wanted_no rfl rfl (T.ev 3 rfl) rfl) rfl rfl rfl ?_; clear T ac; intro ac T
          refine l_pass T (wanted_no rfl rfl (T.ev 4 rfl) rfl) rfl rfl rfl ?_; clear T ac; intro ac T
          refine l_pass T (wanted_no rfl rfl (T.ev 5 rfl) rfl) rfl rfl rfl ?_; clear T ac; intro ac T
          refine l_pass T (wanted_no rfl rfl (T.ev 6 rfl) rfl) rfl rfl rfl ?_; clear T ac; intro ac T
          refine l_q T rfl rfl rfl rfl (rn_pick1 rfl (T.ev 7 rfl) rfl evc) ?_; clear T ac; intro ac T
          refine wpList_nil ?_
          replace T := T.pick [0, 1, 2, 3, 4, 5, 6, 7, 10, 11, 12, 13, 14, 15, 16, 19, 20, 21, 22, 25, 26, 27, 28, 29, 30, 31, 32, 33, 36, 37, 40, 41, 44, 45, 57, 58, 59, 60] rfl
          replace M := M.mask [false, true, true] rfl
          exact ⟨(T.pick (E' := [(4, .pointer (some ⟨g1, 0, none⟩)), (6, .slice Au6 lu6.length cu6), (7, .int .i64 0), (8, .pointer (some ⟨g3, 0, none⟩)), (229, .bool true)]) [34, 35, 36, 37, 0] rfl).as (by (try rw [show (!(decide ((checkStrokesJ jm lu6) = 0))) = false from (by simp [h5])]); (try rw [show (!(decide (((worstT jm lu6).2) = 0))) = false from (by simp [h6])]); (try rw [show (!(decide (((spoiledT jm lu6).2) = 0))) = true from (by simp [h7])]); (try rfl)), M.mask [true, true] rfl⟩
         ·replace h7 : ((spoiledT jm lu6).2) = 0 := by first | (rw [Bool.not_eq_false'] at h7; exact of_decide_eq_true h7) | simpa using h7
          refine l_q T (wanted_yes rfl rfl (T.ev 0 rfl) (by simp [h7])) rfl rfl rfl (rn_move rfl (T.ev 11 rfl)) ?_; clear T ac; intro ac T
          refine l_q T (wanted_yes rfl rfl (T.ev 1 rfl) (by simp [h7])) rfl rfl rfl (rn_neq rfl (T.ev 0 rfl) evc) ?_; clear T ac; intro ac T
          refine l_q T rfl rfl rfl rfl (rn_pick0 rfl (T.ev 2 rfl) (by simp [h7]) (T.ev 0 rfl)) ?_; clear T ac; intro ac T
          refine l_q T rfl rfl rfl rfl (rn_move rfl (T.ev 0 rfl)) ?_; clear T ac; intro ac T
          rcases Bool.eq_false_or_eq_true (!(decide (((fineT jm lu6).2) = 0))) with h8 | h8
          ·replace h8 : ¬ (((fineT jm lu6).2) = 0) := by first | (rw [Bool.not_eq_true'] at h8; exact of_decide_eq_false h8) | simpa using h8
           refine l_pass T (wanted_no rfl rfl (T.ev 0 rfl) (by simp [h8])) rfl rfl rfl ?_; clear T ac; intro ac T
           refine l_pass T (wanted_no rfl rfl (T.ev 1 rfl) (by simp [h8])) rfl rfl rfl ?_; clear T ac; intro ac T
           refine l_pass T (wanted_no rfl rfl (T.ev 2 rfl) (by simp [h8])) rfl rfl rfl ?_; clear T ac; intro ac T
           refine l_pass T (wanted_no rfl rfl (T.ev 3 rfl) (by simp [h8])) rfl rfl rfl ?_; clear T ac; intro ac T
           refine l_pass T (wanted_no rfl rfl (T.ev 4 rfl) (by simp [h8])) rfl rfl rfl ?_; clear T ac; intro ac T
           refine l_pass T (wanted_no rfl rfl (T.ev 5 rfl) (by simp [h8])) rfl rfl rfl ?_; clear T ac; intro ac T
           refine l_pass T (wanted_no rfl rfl (T.ev 6 rfl) (by simp [h8])) rfl rfl rfl ?_; clear T ac; intro ac T
           refine l_pass T (wanted_no rfl rfl (T.ev 7 rfl) (by simp [h8])) rfl rfl rfl ?_; clear T ac; intro ac T
           refine l_pass T (wanted_no rfl rfl (T.ev 8 rfl) (by simp [h8])) rfl rfl rfl ?_; clear T ac; intro ac T
           refine l_q T rfl rfl rfl rfl (rn_pick1 rfl (T.ev 9 rfl) (by simp [h8]) evc) ?_; clear T ac; intro ac T
           refine l_q T rfl rfl rfl rfl (rn_move rfl (T.ev 0 rfl)) ?_; clear T ac; intro ac T
           refine l_pass T (wanted_no rfl rfl (T.ev 0 rfl) rfl) rfl rfl rfl ?_; clear T ac; intro ac T
           refine l_pass T (wanted_no rfl rfl (T.ev 1 rfl) rfl) rfl rfl rfl ?_; clear T ac; intro ac T
           refine l_pass T (wanted_no rfl rfl (T.ev 2 rfl) rfl) rfl rfl rfl ?_; clear T ac; intro ac T
           refine l_pass T (wanted_no rfl rfl (T.ev 3 rfl) rfl) rfl rfl rfl ?_; clear T ac; intro ac T
           refine l_q T rfl rfl rfl rfl (rn_pick1 rfl (T.ev 4 rfl) rfl evc) ?_; clear T ac; intro ac T
           refine l_q T rfl rfl rfl rfl (rn_move rfl (T.ev 0 rfl)) ?_; clear T ac; intro ac T
           refine l_pass T (wanted_no rfl rfl (T.ev 0 rfl) rfl) rfl rfl rfl ?_; clear T ac; intro ac T
           refine l_pass T (wanted_no rfl rfl (T.ev 1 rfl) rfl) rfl rfl rfl ?_; clear T ac; intro ac T
           refine l_pass T (wanted_no rfl rfl (T.ev 2 rfl) rfl) rfl rfl rfl ?_; clear T ac; intro ac T
           refine l_pass T (wanted_no rfl rfl (T.ev 3 rfl) rfl) rfl rfl rfl ?_; clear T ac; intro ac T
           refine l_pass T (wanted_no rfl rfl (T.ev 4 rfl) rfl) rfl rfl rfl ?_; clear T ac; intro ac T
           refine l_pass T (wanted_no rfl rfl (T.ev 5 rfl) rfl) rfl rfl rfl ?_; clear T ac; intro ac T
           refine l_pass T (wanted_no rfl rfl (T.ev 6 rfl) rfl) rfl rfl rfl ?_; clear T ac; intro ac T
           refine l_q T rfl rfl rfl rfl (rn_pick1 rfl (T.ev 7 rfl) rfl evc) ?_; clear T ac; intro ac T
           refine l_q T rfl rfl rfl rfl (rn_move rfl (T.ev 0 rfl)) ?_; clear T ac; intro ac T
           refine l_pass T (wanted_no rfl rfl (T.ev 0 rfl) rfl) rfl rfl rfl ?_; clear T ac; intro ac T
           refine l_pass T (wanted_no rfl rfl (T.ev 1 rfl) rfl) rfl rfl rfl ?_; clear T ac; intro ac T
           refine l_pass T (wanted_no rfl rfl (T.ev 2 rfl) rfl) rfl rfl rfl ?_; clear T ac; intro ac T
           refine l_pass T (wanted_no rfl rfl (T.ev 3 rfl) rfl) rfl rfl rfl ?_; clear T ac; intro ac T
           refine l_pass T (wanted_no rfl rfl (T.ev 4 rfl) rfl) rfl rfl rfl ?_; clear T ac; intro ac T
           refine l_pass T (wanted_no rfl rfl (T.ev 5 rfl) rfl) rfl rfl rfl ?_; clear T ac; intro ac T
           refine l_pass T (wanted_no rfl rfl (T.ev 6 rfl) rfl) rfl rfl rfl ?_; clear T ac; intro ac T
           refine l_q T rfl rfl rfl rfl (rn_pick1 rfl (T.ev 7 rfl) rfl evc) ?_; clear T ac; intro ac T
           refine wpList_nil ?_
           replace T := T.pick [0, 1, 2, 3, 4, 5, 6, 7, 10, 11, 12, 13, 14, 15, 16, 19, 20, 21, 22, 25, 26, 27, 28, 29, 30, 31, 32, 33, 36, 37, 40, 41, 44, 45, 57, 58, 59, 60] rfl
           replace M := M.mask [false, true, true] rfl
           exact ⟨(T.pick (E' := [(4, .pointer (some ⟨g1, 0, none⟩)), (6, .slice Au6 lu6.length cu6), (7, .int .i64 0), (8, .pointer (some ⟨g3, 0, none⟩)), (229, .bool true)]) [34, 35, 36, 37, 0] rfl).as (by (try rw [show (!(decide ((checkStrokesJ jm lu6) = 0))) = false from (by simp [h5])]); (try rw [show (!(decide (((worstT jm lu6).2) = 0))) = false from (by simp [h6])]); (try rw [show (!(decide (((spoiledT jm lu6).2) = 0))) = false from (by simp [h7])]); (try rw [show (!(decide (((fineT jm lu6).2) = 0))) = true from (by simp [h8])]); (try rfl)), M.mask [true, true] rfl⟩
          ·replace h8 : ((fineT jm lu6).2) = 0 := by first | (rw [Bool.not_eq_false'] at h8; exact of_decide_eq_true h8) | simpa using h8
           refine l_q T (wanted_yes rfl rfl (T.ev 0 rfl) (by simp [h8])) rfl rfl rfl (rn_rowO (Mem.nth M 0 rfl) rfl (T.ev 22 rfl) rfl) ?_; clear T ac; intro ac T
           refine l_q (v := (.pointer (some ⟨g3, 0, none⟩))) T (wanted_yes rfl rfl (T.ev 1 rfl) (by simp [h8])) rfl rfl rfl (rn_fieldAddr (off := 0) rfl (T.ev 27 rfl) (fun _ _ _ => by kernel_rfl)) ?_; clear T ac; intro ac T
           refine l_q T (wanted_yes rfl rfl (T.ev 2 rfl) (by simp [h8])) rfl rfl rfl (rn_rowO (Mem.nth M 1 rfl) rfl (T.ev 0 rfl) rfl) ?_; clear T ac; intro ac T
           refine l_q (v := (.pointer (some ⟨g3, 2, none⟩))) T (wanted_yes rfl rfl (T.ev 3 rfl) (by simp [h8])) rfl rfl rfl (rn_fieldAddr (off := 2) rfl (T.ev 29 rfl) (fun _ _ _ => by kernel_rfl)) ?_; clear T ac; intro ac T
           refine l_q T (wanted_yes rfl rfl (T.ev 4 rfl) (by simp [h8])) rfl rfl rfl (rn_rowO (Mem.nth M 1 rfl) rfl (T.ev 0 rfl) rfl) ?_; clear T ac; intro ac T
           refine l_q (v := (.pointer (some ⟨g3, 4, none⟩))) T (wanted_yes rfl rfl (T.ev 5 rfl) (by simp [h8])) rfl rfl rfl (rn_fieldAddr (off := 4) rfl (T.ev 31 rfl) (fun _ _ _ => by kernel_rfl)) ?_; clear T ac; intro ac T
           refine l_q T (wanted_yes rfl rfl (T.ev 6 rfl) (by simp [h8])) rfl rfl rfl (rn_rowO (Mem.nth M 1 rfl) rfl (T.ev 0 rfl) rfl) ?_; clear T ac; intro ac T
           refine l_q (v := (.agg #[.int .i64 ek.a0, .int .i64 ek.a1, .int .i64 ek.b0, .int .i64 ek.b1, .int .i64 ek.c0, .int .i64 ek.c1])) T (wanted_yes rfl rfl (T.ev 7 rfl) (by simp [h8])) rfl rfl rfl (rn_build rfl (.cons (T.ev 4 rfl) (.cons (T.ev 2 rfl) (.cons (T.ev 0 rfl) .nil))) (fun _ => by kernel_rfl)) ?_; clear T ac; intro ac T
           refine l_q (v := (.bool (!((decide (((afT jm lu6).p0) = ek.a0)) && ((decide (((afT jm lu6).p1) = ek.a1)) && ((decide (((afT jm lu6).t0) = ek.b0)) && ((decide (((afT jm lu6).t1) = ek.b1)) && ((decide (((afT jm lu6).r0) = ek.c0)) && (decide (((afT jm lu6).r1) = ek.c1)))))))))) T (wanted_yes rfl rfl (T.ev 8 rfl) (by simp [h8])) rfl rfl rfl (rn_bin rfl (T.ev 7 rfl) (T.ev 0 rfl) neT25) ?_; clear T ac; intro ac T
           refine l_q T rfl rfl rfl rfl (rn_pick0 rfl (T.ev 9 rfl) (by simp [h8]) (T.ev 0 rfl)) ?_; clear T ac; intro ac T
           refine l_q T rfl rfl rfl rfl (rn_move rfl (T.ev 0 rfl)) ?_; clear T ac; intro ac T
           rcases Bool.eq_false_or_eq_true (!((decide (((afT jm lu6).p0) = ek.a0)) && ((decide (((afT jm lu6).p1) = ek.a1)) && ((decide (((afT jm lu6).t0) = ek.b0)) && ((decide (((afT jm lu6).t1) = ek.b1)) && ((decide (((afT jm lu6).r0) = ek.c0)) && (decide (((afT jm lu6).r1) = ek.c1)))))))) with h9 | h9
           ·refine l_pass T (wanted_no rfl rfl (T.ev 0 rfl) h9) rfl rfl rfl ?_; clear T ac; intro ac T
            refine l_pass T (wanted_no rfl rfl (T.ev 1 rfl) h9) rfl rfl rfl ?_; clear T ac; intro ac T
            refine l_pass T (wanted_no rfl rfl (T.ev 2 rfl) h9) rfl rfl rfl ?_; clear T ac; intro ac T
            refine l_pass T (wanted_no rfl rfl (T.ev 3 rfl) h9) rfl rfl rfl ?_; clear T ac; intro ac T
            refine l_q T rfl rfl rfl rfl (rn_pick1 rfl (T.ev 4 rfl) h9 evc) ?_; clear T ac; intro ac T
            refine l_q T rfl rfl rfl rfl (rn_move rfl (T.ev 0 rfl)) ?_; clear T ac; intro ac T
            refine l_pass T (wanted_no rfl rfl (T.ev 0 rfl) rfl) rfl rfl rfl ?_; clear T ac; intro ac T
            refine l_pass T (wanted_no rfl rfl (T.ev 1 rfl) rfl) rfl rfl rfl ?_; clear T ac; intro ac T
            refine l_pass T (wanted_no rfl rfl (T.ev 2 rfl) rfl) rfl rfl rfl ?_; clear T ac; intro ac T
            refine l_pass T (wanted_no rfl rfl (T.ev 3 rfl) rfl) rfl rfl rfl ?_; clear T ac; intro ac T
            refine l_pass T (wanted_no rfl rfl (T.ev 4 rfl) rfl) rfl rfl rfl ?_; clear T ac; intro ac T
            refine l_pass T (wanted_no rfl rfl (T.ev 5 rfl) rfl) rfl rfl rfl ?_; clear T ac; intro ac T
            refine l_pass T (wanted_no rfl rfl (T.ev 6 rfl) rfl) rfl rfl rfl ?_; clear T ac; intro ac T
            refine l_q T rfl rfl rfl rfl (rn_pick1 rfl (T.ev 7 rfl) rfl evc) ?_; clear T ac; intro ac T
            refine l_q T rfl rfl rfl rfl (rn_move rfl (T.ev 0 rfl)) ?_; clear T ac; intro ac T
            refine l_pass T (wanted_no rfl rfl (T.ev 0 rfl) rfl) rfl rfl rfl ?_; clear T ac; intro ac T
            refine l_pass T (wanted_no rfl rfl (T.ev 1 rfl) rfl) rfl rfl rfl ?_; clear T ac; intro ac T
            refine l_pass T (wanted_no rfl rfl (T.ev 2 rfl) rfl) rfl rfl rfl ?_; clear T ac; intro ac T
            refine l_pass T (wanted_no rfl rfl (T.ev 3 rfl) rfl) rfl rfl rfl ?_; clear T ac; intro ac T
            refine l_pass T (wanted_no rfl rfl (T.ev 4 rfl) rfl) rfl rfl rfl ?_; clear T ac; intro ac T
            refine l_pass T (wanted_no rfl rfl (T.ev 5 rfl) rfl) rfl rfl rfl ?_; clear T ac; intro ac T
            refine l_pass T (wanted_no rfl rfl (T.ev 6 rfl) rfl) rfl rfl rfl ?_; clear T ac; intro ac T
            refine l_q T rfl rfl rfl rfl (rn_pick1 rfl (T.ev 7 rfl) rfl evc) ?_; clear T ac; intro ac T
            refine wpList_nil ?_
            replace T := T.pick [0, 1, 2, 3, 4, 5, 6, 7, 10, 11, 12, 13, 14, 15, 16, 19, 20, 21, 22, 25, 26, 27, 28, 29, 30, 31, 32, 33, 36, 37, 40, 41, 44, 45, 57, 58, 59, 60] rfl
            replace M := M.mask [false, true, true] rfl
            exact ⟨(T.pick (E' := [(4, .pointer (some ⟨g1, 0, none⟩)), (6, .slice Au6 lu6.length cu6), (7, .int .i64 0), (8, .pointer (some ⟨g3, 0, none⟩)), (229, .bool true)]) [34, 35, 36, 37, 0] rfl).as (by (try rw [show (!(decide ((checkStrokesJ jm lu6) = 0))) = false from (by simp [h5])]); (try rw [show (!(decide (((worstT jm lu6).2) = 0))) = false from (by simp [h6])]); (try rw [show (!(decide (((spoiledT jm lu6).2) = 0))) = false from (by simp [h7])]); (try rw [show (!(decide (((fineT jm lu6).2) = 0))) = false from (by simp [h8])]); (try rw [show (!((decide (((afT jm lu6).p0) = ek.a0)) && ((decide (((afT jm lu6).p1) = ek.a1)) && ((decide (((afT jm lu6).t0) = ek.b0)) && ((decide (((afT jm lu6).t1) = ek.b1)) && ((decide (((afT jm lu6).r0) = ek.c0)) && (decide (((afT jm lu6).r1) = ek.c1)))))))) = true from h9]); (try rfl)), M.mask [true, true] rfl⟩
           ·refine l_q T (wanted_yes rfl rfl (T.ev 0 rfl) h9) rfl rfl rfl (rn_move rfl (T.ev 31 rfl)) ?_; clear T ac; intro ac T
            refine l_q (v := (.pointer (some ⟨g3, 6, none⟩))) T (wanted_yes rfl rfl (T.ev 1 rfl) h9) rfl rfl rfl (rn_fieldAddr (off := 6) rfl (T.ev 38 rfl) (fun _ _ _ => by kernel_rfl)) ?_; clear T ac; intro ac T
            refine l_q T (wanted_yes rfl rfl (T.ev 2 rfl) h9) rfl rfl rfl (rn_one (Mem.nth M 1 rfl) rfl (T.ev 0 rfl) rfl) ?_; clear T ac; intro ac T
            refine l_q T (wanted_yes rfl rfl (T.ev 3 rfl) h9) rfl rfl rfl (rn_neq rfl (T.ev 2 rfl) (T.ev 0 rfl)) ?_; clear T ac; intro ac T
            refine l_q T rfl rfl rfl rfl (rn_pick0 rfl (T.ev 4 rfl) h9 (T.ev 0 rfl)) ?_; clear T ac; intro ac T
            refine l_q T rfl rfl rfl rfl (rn_move rfl (T.ev 0 rfl)) ?_; clear T ac; intro ac T
            rcases Bool.eq_false_or_eq_true (!(decide (((worstT jm lu6).1) = ek.wo))) with h10 | h10
            ·replace h10 : ¬ (((worstT jm lu6).1) = ek.wo) := by first | (rw [Bool.not_eq_true'] at h10; exact of_decide_eq_false h10) | simpa using h10
             refine l_pass T (wanted_no rfl rfl (T.ev 0 rfl) (by simp [h10])) rfl rfl rfl ?_; clear T ac; intro ac T
             refine l_pass T (wanted_no rfl rfl (T.ev 1 rfl) (by simp [h10])) rfl rfl rfl ?_; clear T ac; intro ac T
             refine l_pass T (wanted_no rfl rfl (T.ev 2 rfl) (by simp [h10])) rfl rfl rfl ?_; clear T ac; intro ac T
             refine l_pass T (wanted_no rfl rfl (T.ev 3 rfl) (by simp [h10])) rfl rfl rfl ?_; clear T ac; intro ac T
             refine l_pass T (wanted_no rfl rfl (T.ev 4 rfl) (by simp [h10])) rfl rfl rfl ?_; clear T ac; intro ac T
             refine l_pass T (wanted_no rfl rfl (T.ev 5 rfl) (by simp [h10])) rfl rfl rfl ?_; clear T ac; intro ac T
             refine l_pass T (wanted_no rfl rfl (T.ev 6 rfl) (by simp [h10])) rfl rfl rfl ?_; clear T ac; intro ac T
             refine l_q T rfl rfl rfl rfl (rn_pick1 rfl (T.ev 7 rfl) (by simp [h10]) evc) ?_; clear T ac; intro ac T
             refine l_q T rfl rfl rfl rfl (rn_move rfl (T.ev 0 rfl)) ?_; clear T ac; intro ac T
             refine l_pass T (wanted_no rfl rfl (T.ev 0 rfl) rfl) rfl rfl rfl ?_; clear T ac; intro ac T
             refine l_pass T (wanted_no rfl rfl (T.ev 1 rfl) rfl) rfl rfl rfl ?_; clear T ac; intro ac T
             refine l_pass T (wanted_no rfl rfl (T.ev 2 rfl) rfl) rfl rfl rfl ?_; clear T ac; intro ac T
             refine l_pass T (wanted_no rfl rfl (T.ev 3 rfl) rfl) rfl rfl rfl ?_; clear T ac; intro ac T
             refine l_pass T (wanted_no rfl rfl (T.ev 4 rfl) rfl) rfl rfl rfl ?_; clear T ac; intro ac T
             refine l_pass T (wanted_no rfl rfl (T.ev 5 rfl) rfl) rfl rfl rfl ?_; clear T ac; intro ac T
             refine l_pass T (wanted_no rfl rfl (T.ev 6 rfl) rfl) rfl rfl rfl ?_; clear T ac; intro ac T
             refine l_q T rfl rfl rfl rfl (rn_pick1 rfl (T.ev 7 rfl) rfl evc) ?_; clear T ac; intro ac T
             refine wpList_nil ?_
             replace T := T.pick [0, 1, 2, 3, 4, 5, 6, 7, 10, 11, 12, 13, 14, 15, 16, 19, 20, 21, 22, 25, 26, 27, 28, 29, 30, 31, 32, 33, 36, 37, 40, 41, 44, 45, 57, 58, 59, 60] rfl
             replace M := M.mask [false, true, true] rfl
             exact ⟨(T.pick (E' := [(4, .pointer (some ⟨g1, 0, none⟩)), (6, .slice Au6 lu6.length cu6), (7, .int .i64 0), (8, .pointer (some ⟨g3, 0, none⟩)), (229, .bool true)]) [34, 35, 36, 37, 0] rfl).as (by (try rw [show (!(decide ((checkStrokesJ jm lu6) = 0))) = false from (by simp [h5])]); (try rw [show (!(decide (((worstT jm lu6).2) = 0))) = false from (by simp [h6])]); (try rw [show (!(decide (((spoiledT jm lu6).2) = 0))) = false from (by simp [h7])]); (try rw [show (!(decide (((fineT jm lu6).2) = 0))) = false from (by simp [h8])]); (try rw [show (!((decide (((afT jm lu6).p0) = ek.a0)) && ((decide (((afT jm lu6).p1) = ek.a1)) && ((decide (((afT jm lu6).t0) = ek.b0)) && ((decide (((afT jm lu6).t1) = ek.b1)) && ((decide (((afT jm lu6).r0) = ek.c0)) && (decide (((afT jm lu6).r1) = ek.c1)))))))) = false from h9]); (try rw [show (!(decide (((worstT jm lu6).1) = ek.wo))) = true from (by simp [h10])]); (try rfl)), M.mask [true, true] rfl⟩
            ·replace h10 : ((worstT jm lu6).1) = ek.wo := by first | (rw [Bool.not_eq_false'] at h10; exact of_decide_eq_true h10) | simpa using h10
             refine l_q T (wanted_yes rfl rfl (T.ev 0 rfl) (by simp [h10])) rfl rfl rfl (rn_move rfl (T.ev 35 rfl)) ?_; clear T ac; intro ac T
             refine l_q (v := (.pointer (some ⟨g3, 8, none⟩))) T (wanted_yes rfl rfl (T.ev 1 rfl) (by simp [h10])) rfl rfl rfl (rn_fieldAddr (off := 8) rfl (T.ev 44 rfl) (fun _ _ _ => by kernel_rfl)) ?_; clear T ac; intro ac T
             refine l_q T (wanted_yes rfl rfl (T.ev 2 rfl) (by simp [h10])) rfl rfl rfl (rn_one (Mem.nth M 1 rfl) rfl (T.ev 0 rfl) rfl) ?_; clear T ac; intro ac T
             refine l_q (v := (.pointer (some ⟨g3, 10, none⟩))) T (wanted_yes rfl rfl (T.ev 3 rfl) (by simp [h10])) rfl rfl rfl (rn_fieldAddr (off := 10) rfl (T.ev 46 rfl) (fun _ _ _ => by kernel_rfl)) ?_; clear T ac; intro ac T
             refine l_q T (wanted_yes rfl rfl (T.ev 4 rfl) (by simp [h10])) rfl rfl rfl (rn_one (Mem.nth M 1 rfl) rfl (T.ev 0 rfl) rfl) ?_; clear T ac; intro ac T
             refine l_w (wanted_yes rfl rfl (T.ev 5 rfl) (by simp [h10])) ?_; intro K hK
             refine ow_call (first := []) (cap := []) T rfl rfl rfl rfl evf (.cons (T.ev 2 rfl) (.cons (T.ev 0 rfl) .nil)) Try.func62 rfl rfl ?_
             refine Calls.mono (told_x ek.th ek.tr _) ?_
             clear T
             rintro e wc ⟨rfl, hb⟩
             intro ac T
             replace M := M.call hb; clear hb
             refine sh_out hK _ _ ?_; clear hK K
             refine l_q T (wanted_yes rfl rfl (T.ev 6 rfl) (by simp [h10])) rfl rfl rfl (rn_neq rfl (T.ev 5 rfl) (T.ev 0 rfl)) ?_; clear T ac; intro ac T
             refine l_q T rfl rfl rfl rfl (rn_pick0 rfl (T.ev 7 rfl) (by simp [h10]) (T.ev 0 rfl)) ?_; clear T ac; intro ac T
             refine l_q T rfl rfl rfl rfl (rn_move rfl (T.ev 0 rfl)) ?_; clear T ac; intro ac T
             rcases Bool.eq_false_or_eq_true (!(decide (((spoiledT jm lu6).1) = (toldT ek.th ek.tr)))) with h11 | h11
             ·replace h11 : ¬ (((spoiledT jm lu6).1) = (toldT ek.th ek.tr)) := by first | (rw [Bool.not_eq_true'] at h11; exact of_decide_eq_false h11) | simpa using h11
              refine l_pass T (wanted_no rfl rfl (T.ev 0 rfl) (by simp [h11])) rfl rfl rfl ?_; clear T ac; intro ac T
              refine l_pass T (wanted_no rfl rfl (T.ev 1 rfl) (by simp [h11])) rfl rfl rfl ?_; clear T ac; intro ac T
              refine l_pass T (wanted_no rfl rfl (T.ev 2 rfl) (by simp [h11])) rfl rfl rfl ?_; clear T ac; intro ac T
              refine l_pass T (wanted_no rfl rfl (T.ev 3 rfl) (by simp [h11])) rfl rfl rfl ?_; clear T ac; intro ac T
              refine l_pass T (wanted_no rfl rfl (T.ev 4 rfl) (by simp [h11])) rfl rfl rfl ?_; clear T ac; intro ac T
              refine l_pass T (wanted_no rfl rfl (T.ev 5 rfl) (by simp [h11])) rfl rfl rfl ?_; clear T ac; intro ac T
              refine l_pass T (wanted_no rfl rfl (T.ev 6 rfl) (by simp [h11])) rfl rfl rfl ?_; clear T ac; intro ac T
              refine l_q T rfl rfl rfl rfl (rn_pick1 rfl (T.ev 7 rfl) (by simp [h11]) evc) ?_; clear T ac; intro ac T
              refine wpList_nil ?_
              replace T := T.pick [0, 1, 2, 3, 4, 5, 6, 7, 10, 11, 12, 13, 14, 15, 16, 19, 20, 21, 22, 25, 26, 27, 28, 29, 30, 31, 32, 33, 36, 37, 40, 41, 44, 45, 57, 58, 59, 60] rfl
              replace M := M.mask [false, true, true] rfl
              exact ⟨(T.pick (E' := [(4, .pointer (some ⟨g1, 0, none⟩)), (6, .slice Au6 lu6.length cu6), (7, .int .i64 0), (8, .pointer (some ⟨g3, 0, none⟩)), (229, .bool true)]) [34, 35, 36, 37, 0] rfl).as (by (try rw [show (!(decide ((checkStrokesJ jm lu6) = 0))) = false from (by simp [h5])]); (try rw [show (!(decide (((worstT jm lu6).2) = 0))) = false from (by simp [h6])]); (try rw [show (!(decide (((spoiledT jm lu6).2) = 0))) = false from (by simp [h7])]); (try rw [show (!(decide (((fineT jm lu6).2) = 0))) = false from (by simp [h8])]); (try rw [show (!((decide (((afT jm lu6).p0) = ek.a0)) && ((decide (((afT jm lu6).p1) = ek.a1)) && ((decide (((afT jm lu6).t0) = ek.b0)) && ((decide (((afT jm lu6).t1) = ek.b1)) && ((decide (((afT jm lu6).r0) = ek.c0)) && (decide (((afT jm lu6).r1) = ek.c1)))))))) = false from h9]); (try rw [show (!(decide (((worstT jm lu6).1) = ek.wo))) = false from (by simp [h10])]); (try rw [show (!(decide (((spoiledT jm lu6).1) = (toldT ek.th ek.tr)))) = true from (by simp [h11])]); (try rfl)), M.mask [true, true] rfl⟩
             ·replace h11 : ((spoiledT jm lu6).1) = (toldT ek.th ek.tr) := by first | (rw [Bool.not_eq_false'] at h11; exact of_decide_eq_true h11) | simpa using h11
              refine l_q T (wanted_yes rfl rfl (T.ev 0 rfl) (by simp [h11])) rfl rfl rfl (rn_move rfl (T.ev 42 rfl)) ?_; clear T ac; intro ac T
              refine l_q (v := (.pointer (some ⟨g3, 9, none⟩))) T (wanted_yes rfl rfl (T.ev 1 rfl) (by simp [h11])) rfl rfl rfl (rn_fieldAddr (off := 9) rfl (T.ev 53 rfl) (fun _ _ _ => by kernel_rfl)) ?_; clear T ac; intro ac T
              refine l_q T (wanted_yes rfl rfl (T.ev 2 rfl) (by simp [h11])) rfl rfl rfl (rn_one (Mem.nth M 1 rfl) rfl (T.ev 0 rfl) rfl) ?_; clear T ac; intro ac T
              refine l_q (v := (.pointer (some ⟨g3, 10, none⟩))) T (wanted_yes rfl rfl (T.ev 3 rfl) (by simp [h11])) rfl rfl rfl (rn_fieldAddr (off := 10) rfl (T.ev 55 rfl) (fun _ _ _ => by kernel_rfl)) ?_; clear T ac; intro ac T
              refine l_q T (wanted_yes rfl rfl (T.ev 4 rfl) (by simp [h11])) rfl rfl rfl (rn_one (Mem.nth M 1 rfl) rfl (T.ev 0 rfl) rfl) ?_; clear T ac; intro ac T
              refine l_w (wanted_yes rfl rfl (T.ev 5 rfl) (by simp [h11])) ?_; intro K hK
              refine ow_call (first := []) (cap := []) T rfl rfl rfl rfl evf (.cons (T.ev 2 rfl) (.cons (T.ev 0 rfl) .nil)) Try.func62 rfl rfl ?_
              refine Calls.mono (told_x ek.fi ek.tr _) ?_
              clear T
              rintro e wc ⟨rfl, hb⟩
              intro ac T
              replace M := M.call hb; clear hb
              refine sh_out hK _ _ ?_; clear hK K
              refine l_q T (wanted_yes rfl rfl (T.ev 6 rfl) (by simp [h11])) rfl rfl rfl (rn_neq rfl (T.ev 5 rfl) (T.ev 0 rfl)) ?_; clear T ac; intro ac T
              refine l_q T rfl rfl rfl rfl (rn_pick0 rfl (T.ev 7 rfl) (by simp [h11]) (T.ev 0 rfl)) ?_; clear T ac; intro ac T
              refine wpList_nil ?_
              replace T := T.pick [0, 1, 2, 3, 4, 5, 6, 7, 10, 11, 12, 13, 14, 15, 16, 19, 20, 21, 22, 25, 26, 27, 28, 29, 30, 31, 32, 33, 36, 37, 40, 41, 44, 45, 57, 58, 59, 60] rfl
              replace M := M.mask [false, true, true] rfl
              exact ⟨(T.pick (E' := [(4, .pointer (some ⟨g1, 0, none⟩)), (6, .slice Au6 lu6.length cu6), (7, .int .i64 0), (8, .pointer (some ⟨g3, 0, none⟩)), (229, .bool (!(decide (((fineT jm lu6).1) = (toldT ek.fi ek.tr)))))]) [34, 35, 36, 37, 0] rfl).as (by (try rw [show (!(decide ((checkStrokesJ jm lu6) = 0))) = false from (by simp [h5])]); (try rw [show (!(decide (((worstT jm lu6).2) = 0))) = false from (by simp [h6])]); (try rw [show (!(decide (((spoiledT jm lu6).2) = 0))) = false from (by simp [h7])]); (try rw [show (!(decide (((fineT jm lu6).2) = 0))) = false from (by simp [h8])]); (try rw [show (!((decide (((afT jm lu6).p0) = ek.a0)) && ((decide (((afT jm lu6).p1) = ek.a1)) && ((decide (((afT jm lu6).t0) = ek.b0)) && ((decide (((afT jm lu6).t1) = ek.b1)) && ((decide (((afT jm lu6).r0) = ek.c0)) && (decide (((afT jm lu6).r1) = ek.c1)))))))) = false from h9]); (try rw [show (!(decide (((worstT jm lu6).1) = ek.wo))) = false from (by simp [h10])]); (try rw [show (!(decide (((spoiledT jm lu6).1) = (toldT ek.th ek.tr)))) = false from (by simp [h11])]); (try rfl)), M.mask [true, true] rfl⟩
      ·clear T M
       rintro ac wc ⟨T, M⟩
       refine wp_cond_split (T.ev 4 rfl) ?_ ?_
       ·intro h12
        (try have h12' := h12; try simp only [Bool.and_eq_true, Bool.or_eq_true, Bool.not_eq_true', Bool.and_eq_false_imp, Bool.or_eq_false_iff, decide_eq_true_eq, decide_eq_false_iff_not] at h12')
        refine wp_seq ?_
        refine wp_region_lit ?_
        refine l_q T rfl rfl rfl rfl (rn_assign rfl evc) ?_; clear T ac; intro ac T
        refine wpList_nil ?_
        replace T := T.pick [0] rfl
        replace M := M.mask [false, false] rfl
        refine nm_then ?_
        refine wp_ret ?_
        refine rt_then ?_
        refine rt_blk ?_
        refine rt_then ?_
        refine rt_then ?_
        refine rt_blk ?_
        refine rt_then ?_
        refine rt_1 T rfl (T.ev 0 rfl) ?_
        exfalso
        rw [tp2] at h12
        simp [tp1, tp3, tp4, tp5, hlaw.a0, hlaw.a1, hlaw.b0, hlaw.b1, hlaw.c0, hlaw.c1, hlaw.wo, hlaw.th, hlaw.fi] at h12
       ·intro h12
        (try have h12' := h12; try simp only [Bool.and_eq_true, Bool.or_eq_true, Bool.not_eq_true', Bool.and_eq_false_imp, Bool.or_eq_false_iff, decide_eq_true_eq, decide_eq_false_iff_not] at h12')
        refine wp_skip ?_
        refine nm_then ?_
        refine wp_seq ?_
        refine wp_seq ?_
        refine wp_region_lit ?_
        refine l_q T rfl rfl rfl rfl (rn_rowO (Mem.nth M 1 rfl) rfl (T.ev 0 rfl) rfl) ?_; clear T ac; intro ac T
        refine l_w rfl ?_; intro K hK
        refine ow_call (first := []) (cap := []) T rfl rfl rfl rfl evf (.cons (T.ev 0 rfl) .nil) Try.func46 rfl rfl ?_
        refine Calls.mono (Passes_any jm _ _ _ (Sjm.rd M (.cons _ (.cons _ (subL (List.Sublist.refl _))))) (by first | omega | (dsimp only [Jb.one]; omega))) ?_
        clear T
        rintro e wc ⟨rfl, hb⟩
        intro ac T
        replace M := M.call hb; clear hb
        refine sh_out hK _ _ ?_; clear hK K
        refine l_q T rfl rfl rfl rfl (rn_move rfl (T.ev 0 rfl)) ?_; clear T ac; intro ac T
        refine l_q T rfl rfl rfl rfl (rn_extract rfl (T.ev 0 rfl) rfl) ?_; clear T ac; intro ac T
        refine l_q T rfl rfl rfl rfl (rn_extract rfl (T.ev 1 rfl) rfl) ?_; clear T ac; intro ac T
        refine l_q T rfl rfl rfl rfl (rn_assign rfl (T.ev 1 rfl)) ?_; clear T ac; intro ac T
        refine l_q T rfl rfl rfl rfl (rn_assign rfl (T.ev 1 rfl)) ?_; clear T ac; intro ac T
        refine wpList_nil ?_
        replace T := T.pick [0, 1, 7, 8, 9, 10] rfl
        refine nm_then ?_
        refine cut_seq (fun ac wc => Tm ac 252 [(4, .pointer (some ⟨g1, 0, none⟩)), (7, .int .i64 0), (250, .bool ((decide (((lu6.length : Nat) : Int) = 0)) && ((!(decide (((passesT jm).2) = 0))) || (!(decide (((passesT jm).1) = (toldT ek.pa ek.tr)))))))] ∧ Mem w noEx wc ((g1, .cells (jobL jm Aq1 (cu2 - 0))) :: (Ix ++ Ju6))) ?_ ?_
        ·refine wp_region_lit ?_
         refine l_q T rfl rfl rfl rfl (rn_move rfl (T.ev 3 rfl)) ?_; clear T ac; intro ac T
         refine l_q T rfl rfl rfl rfl (rn_lenS rfl Try.underlying31 (T.ev 0 rfl)) ?_; clear T ac; intro ac T
         refine l_q T rfl rfl rfl rfl (rn_eql rfl (T.ev 0 rfl) evc) ?_; clear T ac; intro ac T
         refine l_q T rfl rfl rfl rfl (rn_move rfl (T.ev 0 rfl)) ?_; clear T ac; intro ac T
         rcases Bool.eq_false_or_eq_true (decide (((lu6.length : Nat) : Int) = 0)) with h13 | h13
         ·replace h13 := of_decide_eq_true h13
          refine l_q T (wanted_yes rfl rfl (T.ev 0 rfl) (decide_eq_true h13)) rfl rfl rfl (rn_move rfl (T.ev 4 rfl)) ?_; clear T ac; intro ac T
          refine l_q T (wanted_yes rfl rfl (T.ev 1 rfl) (decide_eq_true h13)) rfl rfl rfl (rn_neq rfl (T.ev 0 rfl) evc) ?_; clear T ac; intro ac T
          refine l_q T (wanted_yes rfl rfl (T.ev 2 rfl) (decide_eq_true h13)) rfl rfl rfl (rn_move rfl (T.ev 0 rfl)) ?_; clear T ac; intro ac T
          rcases Bool.eq_false_or_eq_true (!(decide (((passesT jm).2) = 0))) with h14 | h14
          ·replace h14 : ¬ (((passesT jm).2) = 0) := by first | (rw [Bool.not_eq_true'] at h14; exact of_decide_eq_false h14) | simpa using h14
           refine l_pass T (wanted_no rfl rfl (T.ev 0 rfl) (by simp [h14])) rfl rfl rfl ?_; clear T ac; intro ac T
           refine l_pass T (wanted_no rfl rfl (T.ev 1 rfl) (by simp [h14])) rfl rfl rfl ?_; clear T ac; intro ac T
           refine l_pass T (wanted_no rfl rfl (T.ev 2 rfl) (by simp [h14])) rfl rfl rfl ?_; clear T ac; intro ac T
           refine l_pass T (wanted_no rfl rfl (T.ev 3 rfl) (by simp [h14])) rfl rfl rfl ?_; clear T ac; intro ac T
           refine l_pass T (wanted_no rfl rfl (T.ev 4 rfl) (by simp [h14])) rfl rfl rfl ?_; clear T ac; intro ac T
           refine l_pass T (wanted_no rfl rfl (T.ev 5 rfl) (by simp [h14])) rfl rfl rfl ?_; clear T ac; intro ac T
           refine l_pass T (wanted_no rfl rfl (T.ev 6 rfl) (by simp [h14])) rfl rfl rfl ?_; clear T ac; intro ac T
           refine l_q T (wanted_yes rfl rfl (T.ev 10 rfl) (decide_eq_true h13)) rfl rfl rfl (rn_pick1 rfl (T.ev 7 rfl) (by simp [h14]) evc) ?_; clear T ac; intro ac T
           refine l_q T rfl rfl rfl rfl (rn_pick1 rfl (T.ev 11 rfl) (decide_eq_true h13) (T.ev 0 rfl)) ?_; clear T ac; intro ac T
           refine wpList_nil ?_
           replace T := T.pick [0, 1, 2, 3, 4, 5, 6, 7, 8, 9, 10, 11, 18, 20] rfl
           replace M := M.mask [false, true] rfl
           exact ⟨(T.pick (E' := [(4, .pointer (some ⟨g1, 0, none⟩)), (7, .int .i64 0), (250, .bool true)]) [12, 13, 0] rfl).as (by (try rw [show (decide (((lu6.length : Nat) : Int) = 0)) = true from (decide_eq_true h13)]); (try rw [show (!(decide (((passesT jm).2) = 0))) = true from (by simp [h14])]); (try rfl)), M.mask [true] rfl⟩
          ·replace h14 : ((passesT jm).2) = 0 := by first | (rw [Bool.not_eq_false'] at h14; exact of_decide_eq_true h14) | simpa using h14
           refine l_q T (wanted_yes rfl rfl (T.ev 0 rfl) (by simp [h14])) rfl rfl rfl (rn_move rfl (T.ev 8 rfl)) ?_; clear T ac; intro ac T
           refine l_q (v := (.pointer (some ⟨g3, 7, none⟩))) T (wanted_yes rfl rfl (T.ev 1 rfl) (by simp [h14])) rfl rfl rfl (rn_fieldAddr (off := 7) rfl (T.ev 13 rfl) (fun _ _ _ => by kernel_rfl)) ?_; clear T ac; intro ac T
           refine l_q T (wanted_yes rfl rfl (T.ev 2 rfl) (by simp [h14])) rfl rfl rfl (rn_one (Mem.nth M 0 rfl) rfl (T.ev 0 rfl) rfl) ?_; clear T ac; intro ac T
           refine l_q (v := (.pointer (some ⟨g3, 10, none⟩))) T (wanted_yes rfl rfl (T.ev 3 rfl) (by simp [h14])) rfl rfl rfl (rn_fieldAddr (off := 10) rfl (T.ev 15 rfl) (fun _ _ _ => by kernel_rfl)) ?_; clear T ac; intro ac T
           refine l_q T (wanted_yes rfl rfl (T.ev 4 rfl) (by simp [h14])) rfl rfl rfl (rn_one (Mem.nth M 0 rfl) rfl (T.ev 0 rfl) rfl) ?_; clear T ac; intro ac T
           refine l_w (wanted_yes rfl rfl (T.ev 5 rfl) (by simp [h14])) ?_; intro K hK
           refine ow_call (first := []) (cap := []) T rfl rfl rfl rfl evf (.cons (T.ev 2 rfl) (.cons (T.ev 0 rfl) .nil)) Try.func62 rfl rfl ?_
           refine Calls.mono (told_x ek.pa ek.tr _) ?_
           clear T
           rintro e wc ⟨rfl, hb⟩
           intro ac T
           replace M := M.call hb; clear hb
           refine sh_out hK _ _ ?_; clear hK K
           refine l_q T (wanted_yes rfl rfl (T.ev 6 rfl) (by simp [h14])) rfl rfl rfl (rn_neq rfl (T.ev 5 rfl) (T.ev 0 rfl)) ?_; clear T ac; intro ac T
           refine l_q T (wanted_yes rfl rfl (T.ev 10 rfl) (decide_eq_true h13)) rfl rfl rfl (rn_pick0 rfl (T.ev 7 rfl) (by simp [h14]) (T.ev 0 rfl)) ?_; clear T ac; intro ac T
           refine l_q T rfl rfl rfl rfl (rn_pick1 rfl (T.ev 11 rfl) (decide_eq_true h13) (T.ev 0 rfl)) ?_; clear T ac; intro ac T
           refine wpList_nil ?_
           replace T := T.pick [0, 1, 2, 3, 4, 5, 6, 7, 8, 9, 10, 11, 18, 20] rfl
           exact ⟨(T.pick (E' := [(4, .pointer (some ⟨g1, 0, none⟩)), (7, .int .i64 0), (250, .bool (!(decide (((passesT jm).1) = (toldT ek.pa ek.tr)))))]) [12, 13, 0] rfl).as (by (try rw [show (decide (((lu6.length : Nat) : Int) = 0)) = true from (decide_eq_true h13)]); (try rw [show (!(decide (((passesT jm).2) = 0))) = false from (by simp [h14])]); (try rfl)), M.mask [false, true] rfl⟩
         ·replace h13 := of_decide_eq_false h13
          refine l_pass T (wanted_no rfl rfl (T.ev 0 rfl) (decide_eq_false h13)) rfl rfl rfl ?_; clear T ac; intro ac T
          refine l_pass T (wanted_no rfl rfl (T.ev 1 rfl) (decide_eq_false h13)) rfl rfl rfl ?_; clear T ac; intro ac T
          refine l_pass T (wanted_no rfl rfl (T.ev 2 rfl) (decide_eq_false h13)) rfl rfl rfl ?_; clear T ac; intro ac T
          refine l_pass T (wanted_un rfl rfl (T.ev 0 rfl)) rfl rfl rfl ?_; clear T ac; intro ac T
          refine l_pass T (wanted_un rfl rfl (T.ev 1 rfl)) rfl rfl rfl ?_; clear T ac; intro ac T
          refine l_pass T (wanted_un rfl rfl (T.ev 2 rfl)) rfl rfl rfl ?_; clear T ac; intro ac T
          refine l_pass T (wanted_un rfl rfl (T.ev 3 rfl)) rfl rfl rfl ?_; clear T ac; intro ac T
          refine l_pass T (wanted_un rfl rfl (T.ev 4 rfl)) rfl rfl rfl ?_; clear T ac; intro ac T
          refine l_pass T (wanted_un rfl rfl (T.ev 5 rfl)) rfl rfl rfl ?_; clear T ac; intro ac T
          refine l_pass T (wanted_un rfl rfl (T.ev 6 rfl)) rfl rfl rfl ?_; clear T ac; intro ac T
          refine l_pass T (wanted_no rfl rfl (T.ev 10 rfl) (decide_eq_false h13)) rfl rfl rfl ?_; clear T ac; intro ac T
          refine l_q T rfl rfl rfl rfl (rn_pick0 rfl (T.ev 11 rfl) (decide_eq_false h13) evc) ?_; clear T ac; intro ac T
          refine wpList_nil ?_
          replace T := T.pick [0, 1, 2, 3, 4, 5, 6, 7, 8, 9, 10, 11, 18, 20] rfl
          replace M := M.mask [false, true] rfl
          exact ⟨(T.pick (E' := [(4, .pointer (some ⟨g1, 0, none⟩)), (7, .int .i64 0), (250, .bool false)]) [12, 13, 0] rfl).as (by (try rw [show (decide (((lu6.length : Nat) : Int) = 0)) = false from (decide_eq_false h13)]); (try rfl)), M.mask [true] rfl⟩
        ·clear T M
         rintro ac wc ⟨T, M⟩
         refine wp_cond_split (T.ev 2 rfl) ?_ ?_
         ·intro h15
          (try have h15' := h15; try simp only [Bool.and_eq_true, Bool.or_eq_true, Bool.not_eq_true', Bool.and_eq_false_imp, Bool.or_eq_false_iff, decide_eq_true_eq, decide_eq_false_iff_not] at h15')
          refine wp_seq ?_
          refine wp_region_lit ?_
          refine l_q T rfl rfl rfl rfl (rn_assign rfl evc) ?_; clear T ac; intro ac T
          refine wpList_nil ?_
          replace T := T.pick [0] rfl
          replace M := M.mask [false] rfl
          refine nm_then ?_
          refine wp_ret ?_
          refine rt_then ?_
          refine rt_blk ?_
          refine rt_then ?_
          refine rt_then ?_
          refine rt_blk ?_
          refine rt_then ?_
          refine rt_1 T rfl (T.ev 0 rfl) ?_
          exfalso
          have hp9 : passesT jm = (passesJ jm jm.p0 jm.p1, 0) := if_pos (check_of_good hgm)
          have hl0 : lu6 = [] := List.eq_nil_of_length_eq_zero (by rw [Bool.and_eq_true] at h15; have := of_decide_eq_true h15.1; omega)
          have e9 : passesJ jm (jm.st.after lu6).p0 (jm.st.after lu6).p1 = passesJ jm jm.p0 jm.p1 := by rw [hl0]; rfl
          simp [hp9, hlaw.pa, e9] at h15
         ·intro h15
          (try have h15' := h15; try simp only [Bool.and_eq_true, Bool.or_eq_true, Bool.not_eq_true', Bool.and_eq_false_imp, Bool.or_eq_false_iff, decide_eq_true_eq, decide_eq_false_iff_not] at h15')
          refine wp_skip ?_
          refine nm_then ?_
          refine wp_region_lit ?_
          refine l_q T rfl rfl rfl rfl (rn_assign rfl evc) ?_; clear T ac; intro ac T
          refine wpList_nil ?_
          replace T := T.pick [0, 1, 2] rfl
          refine nm_blk ?_
          refine nm_then ?_
          refine wp_region_lit ?_
          refine l_q T rfl rfl rfl rfl (rn_move rfl (T.ev 2 rfl)) ?_; clear T ac; intro ac T
          refine l_q (v := (.int .i64 1)) T rfl rfl rfl rfl (rn_ofI (rn_add rfl (T.ev 0 rfl) evc (by omega)) (by rfl)) ?_; clear T ac; intro ac T
          refine l_q (v := (.int .i64 1)) (T.pick [0, 1, 2, 3] rfl) rfl rfl rfl rfl (rn_assign rfl (T.ev 0 rfl)) ?_; clear T ac; intro ac T
          refine wpList_nil ?_
          replace T := T.pick [0, 3, 4] rfl
          refine nm_then ?_
          refine rounds_S ?_
          refine wp_seq ?_
          refine wp_seq ?_
          refine wp_region_lit ?_
          refine l_q T rfl rfl rfl rfl (rn_move rfl (T.ev 0 rfl)) ?_; clear T ac; intro ac T
          refine l_q (v := (.bool true)) T rfl rfl rfl rfl (rn_neqof (rn_lss rfl (T.ev 0 rfl) evc) (by simp)) ?_; clear T ac; intro ac T
          refine wpList_nil ?_
          replace T := T.pick [0, 2, 3, 4] rfl
          refine nm_then ?_
          refine wp_cond_true (T.ev 0 rfl) ?_
          refine wp_skip ?_
          refine nm_then ?_
          refine wp_seq ?_
          refine wp_block ?_
          refine wp_seq ?_
          refine wp_region_lit ?_
          refine l_w rfl ?_; intro K hK
          refine ow_al M T rfl rfl rfl rfl ?_; clear M T; intro g5 wc ac M T
          refine sh_out hK _ _ ?_; clear hK K
          refine wpList_nil ?_
          replace T := T.pick [0, 2, 3, 4] rfl
          refine nm_then ?_
          refine wp_seq ?_
          refine wp_seq ?_
          refine wp_region_lit ?_
          refine l_q (v := (.pointer (some ⟨g1, 0, none⟩))) T rfl rfl rfl rfl (rn_fieldAddr (off := 0) rfl (T.ev 3 rfl) (fun _ _ _ => by kernel_rfl)) ?_; clear T ac; intro ac T
          refine l_q (v := (.pointer (some ⟨g1, 0, none⟩))) T rfl rfl rfl rfl (rn_fieldAddr (off := 0) rfl (T.ev 0 rfl) (fun _ _ _ => by kernel_rfl)) ?_; clear T ac; intro ac T
          refine l_q (v := (.pointer (some ⟨g1, 0, none⟩))) T rfl rfl rfl rfl (rn_fieldAddr (off := 0) rfl (T.ev 0 rfl) (fun _ _ _ => by kernel_rfl)) ?_; clear T ac; intro ac T
          refine l_q T rfl rfl rfl rfl (rn_one (Mem.nth M 1 rfl) rfl (T.ev 0 rfl) rfl) ?_; clear T ac; intro ac T
          refine l_q T rfl rfl rfl rfl (rn_assign rfl (T.ev 0 rfl)) ?_; clear T ac; intro ac T
          refine wpList_nil ?_
          replace T := T.pick [0, 5, 6, 7, 8] rfl
          refine nm_then ?_
          refine wp_block ?_
          refine wp_loop_n (fun mz ac wc => ∃ (ky : Nat) (Ny : Int) (eky : En), mz = (jm.p1 - jm.p0 + 1).toNat - ky ∧ (Ny = jm.p0 + (ky : Int)) ∧ (ky ≤ (jm.p1 - jm.p0 + 1).toNat) ∧ (eky = En.all jm En.zero (((rangeI jm.p0 jm.p1).take ky).flatMap (fun n => (rangeI jm.t0 jm.t1).flatMap fun t => (rangeI jm.r0 jm.r1).flatMap fun r => trT jm [] (n, t, r)))) ∧ (eky.ok (1000000 - ky * 12000)) ∧ Tm ac 252 [(4, .pointer (some ⟨g1, 0, none⟩)), (6, .slice none 0 0), (7, .int .i64 1), (8, .pointer (some ⟨g5, 0, none⟩)), (9, .int .i64 Ny)] ∧ Mem w noEx wc ((g5, .cells [.int .i64 eky.a0, .int .i64 eky.a1, .int .i64 eky.b0, .int .i64 eky.b1, .int .i64 eky.c0, .int .i64 eky.c1, .int .i64 eky.wo, .int .i64 eky.pa, .int .i64 eky.th, .int .i64 eky.fi, .int .i64 eky.tr]) :: (g1, .cells (jobL jm Aq1 (cu2 - 0))) :: (Ix ++ Ju6))) ?_ ?_
          ·exact ⟨_, 0, _, En.zero, rfl, (by omega), (by omega), rfl, ⟨by decide, by decide, by decide, by decide⟩, T.pick [4, 3, 2, 1, 0] rfl, M.mask [true, true] rfl⟩
          ·clear T M
           rintro mz ac wc ⟨ky, Ny, eky, hmm3, hNy, hk3, heky, hok, T, M⟩
           refine wp_seq ?_
           refine wp_seq ?_
           refine wp_region_lit ?_
           refine l_q T rfl rfl rfl rfl (rn_move rfl (T.ev 4 rfl)) ?_; clear T ac; intro ac T
           refine l_q (v := (.pointer (some ⟨g1, 0, none⟩))) T rfl rfl rfl rfl (rn_fieldAddr (off := 0) rfl (T.ev 1 rfl) (fun _ _ _ => by kernel_rfl)) ?_; clear T ac; intro ac T
           refine l_q (v := (.pointer (some ⟨g1, 0, none⟩))) T rfl rfl rfl rfl (rn_fieldAddr (off := 0) rfl (T.ev 0 rfl) (fun _ _ _ => by kernel_rfl)) ?_; clear T ac; intro ac T
           refine l_q (v := (.pointer (some ⟨g1, 1, none⟩))) T rfl rfl rfl rfl (rn_fieldAddr (off := 1) rfl (T.ev 0 rfl) (fun _ _ _ => by kernel_rfl)) ?_; clear T ac; intro ac T
           refine l_q T rfl rfl rfl rfl (rn_one (Mem.nth M 1 rfl) rfl (T.ev 0 rfl) rfl) ?_; clear T ac; intro ac T
           refine l_q T rfl rfl rfl rfl (rn_leq rfl (T.ev 4 rfl) (T.ev 0 rfl)) ?_; clear T ac; intro ac T
           refine wpList_nil ?_
           replace T := T.pick [0, 6, 7, 8, 9, 10] rfl
           refine nm_then ?_
           refine wp_if (T.ev 0 rfl) ?_ ?_
           ·intro h16
            have hg3 := rangeI_get hNy (by omega)
            refine wp_skip ?_
            refine nm_then ?_
            refine wp_seq ?_
            refine wp_block ?_
            refine wp_seq ?_
            refine wp_region_lit ?_
            refine l_q (v := (.pointer (some ⟨g1, 0, none⟩))) T rfl rfl rfl rfl (rn_fieldAddr (off := 0) rfl (T.ev 1 rfl) (fun _ _ _ => by kernel_rfl)) ?_; clear T ac; intro ac T
            refine l_q (v := (.pointer (some ⟨g1, 2, none⟩))) T rfl rfl rfl rfl (rn_fieldAddr (off := 2) rfl (T.ev 0 rfl) (fun _ _ _ => by kernel_rfl)) ?_; clear T ac; intro ac T
            refine l_q (v := (.pointer (some ⟨g1, 2, none⟩))) T rfl rfl rfl rfl (rn_fieldAddr (off := 0) rfl (T.ev 0 rfl) (fun _ _ _ => by kernel_rfl)) ?_; clear T ac; intro ac T
            refine l_q T rfl rfl rfl rfl (rn_one (Mem.nth M 1 rfl) rfl (T.ev 0 rfl) rfl) ?_; clear T ac; intro ac T
            refine l_q T rfl rfl rfl rfl (rn_assign rfl (T.ev 0 rfl)) ?_; clear T ac; intro ac T
            refine wpList_nil ?_
            replace T := T.pick [0, 6, 7, 8, 9, 10] rfl
            refine nm_then ?_
            refine wp_block ?_
            refine wp_loop_n (fun mz ac wc => ∃ (qy : Nat) (Vy : Int) (fky : En), mz = (jm.t1 - jm.t0 + 1).toNat - qy ∧ (Vy = jm.t0 + (qy : Int)) ∧ (qy ≤ (jm.t1 - jm.t0 + 1).toNat) ∧ (fky = En.all jm eky (((rangeI jm.t0 jm.t1).take qy).flatMap (fun t => (rangeI jm.r0 jm.r1).flatMap fun r => trT jm [] (Ny, t, r)))) ∧ (fky.ok (1000000 - ky * 12000 - qy * 6000)) ∧ Tm ac 252 [(4, .pointer (some ⟨g1, 0, none⟩)), (6, .slice none 0 0), (7, .int .i64 1), (8, .pointer (some ⟨g5, 0, none⟩)), (9, .int .i64 Ny), (10, .int .i64 Vy)] ∧ Mem w noEx wc ((g5, .cells [.int .i64 fky.a0, .int .i64 fky.a1, .int .i64 fky.b0, .int .i64 fky.b1, .int .i64 fky.c0, .int .i64 fky.c1, .int .i64 fky.wo, .int .i64 fky.pa, .int .i64 fky.th, .int .i64 fky.fi, .int .i64 fky.tr]) :: (g1, .cells (jobL jm Aq1 (cu2 - 0))) :: (Ix ++ Ju6))) ?_ ?_
            ·exact ⟨_, 0, _, eky, rfl, (by omega), (by omega), rfl, (hok.le (by omega)), T.pick [1, 2, 3, 4, 5, 0] rfl, M.mask [true, true] rfl⟩
            ·clear T M
             rintro mz ac wc ⟨qy, Vy, fky, hmm4, hVy, hk4, hfky, hok, T, M⟩
             refine wp_seq ?_
             refine wp_seq ?_
             refine wp_region_lit ?_
             refine l_q T rfl rfl rfl rfl (rn_move rfl (T.ev 5 rfl)) ?_; clear T ac; intro ac T
             refine l_q (v := (.pointer (some ⟨g1, 0, none⟩))) T rfl rfl rfl rfl (rn_fieldAddr (off := 0) rfl (T.ev 1 rfl) (fun _ _ _ => by kernel_rfl)) ?_; clear T ac; intro ac T
             refine l_q (v := (.pointer (some ⟨g1, 2, none⟩))) T rfl rfl rfl rfl (rn_fieldAddr (off := 2) rfl (T.ev 0 rfl) (fun _ _ _ => by kernel_rfl)) ?_; clear T ac; intro ac T
             refine l_q (v := (.pointer (some ⟨g1, 3, none⟩))) T rfl rfl rfl rfl (rn_fieldAddr (off := 1) rfl (T.ev 0 rfl) (fun _ _ _ => by kernel_rfl)) ?_; clear T ac; intro ac T
             refine l_q T rfl rfl rfl rfl (rn_one (Mem.nth M 1 rfl) rfl (T.ev 0 rfl) rfl) ?_; clear T ac; intro ac T
             refine l_q T rfl rfl rfl rfl (rn_leq rfl (T.ev 4 rfl) (T.ev 0 rfl)) ?_; clear T ac; intro ac T
             refine wpList_nil ?_
             replace T := T.pick [0, 6, 7, 8, 9, 10, 11] rfl
             refine nm_then ?_
             refine wp_if (T.ev 0 rfl) ?_ ?_
             ·intro h17
              have hg4 := rangeI_get hVy (by omega)
              refine wp_skip ?_
              refine nm_then ?_
              refine wp_seq ?_
              refine wp_block ?_
              refine wp_seq ?_
              refine wp_region_lit ?_
              refine l_q (v := (.pointer (some ⟨g1, 0, none⟩))) T rfl rfl rfl rfl (rn_fieldAddr (off := 0) rfl (T.ev 1 rfl) (fun _ _ _ => by kernel_rfl)) ?_; clear T ac; intro ac T
              refine l_q (v := (.pointer (some ⟨g1, 4, none⟩))) T rfl rfl rfl rfl (rn_fieldAddr (off := 4) rfl (T.ev 0 rfl) (fun _ _ _ => by kernel_rfl)) ?_; clear T ac; intro ac T
              refine l_q (v := (.pointer (some ⟨g1, 4, none⟩))) T rfl rfl rfl rfl (rn_fieldAddr (off := 0) rfl (T.ev 0 rfl) (fun _ _ _ => by kernel_rfl)) ?_; clear T ac; intro ac T
              refine l_q T rfl rfl rfl rfl (rn_one (Mem.nth M 1 rfl) rfl (T.ev 0 rfl) rfl) ?_; clear T ac; intro ac T
              refine l_q T rfl rfl rfl rfl (rn_assign rfl (T.ev 0 rfl)) ?_; clear T ac; intro ac T
              refine wpList_nil ?_
              replace T := T.pick [0, 6, 7, 8, 9, 10, 11] rfl
              refine nm_then ?_
              refine wp_block ?_
              refine wp_loop_n (fun mz ac wc => ∃ (zy : Nat) (Zy : Int) (gky : En), mz = (jm.r1 - jm.r0 + 1).toNat - zy ∧ (Zy = jm.r0 + (zy : Int)) ∧ (zy ≤ (jm.r1 - jm.r0 + 1).toNat) ∧ (gky = En.all jm fky (((rangeI jm.r0 jm.r1).take zy).flatMap (fun r => trT jm [] (Ny, Vy, r)))) ∧ (gky.ok (1000000 - ky * 12000 - qy * 6000 - zy * 3000)) ∧ Tm ac 252 [(4, .pointer (some ⟨g1, 0, none⟩)), (6, .slice none 0 0), (7, .int .i64 1), (8, .pointer (some ⟨g5, 0, none⟩)), (9, .int .i64 Ny), (10, .int .i64 Vy), (11, .int .i64 Zy)] ∧ Mem w noEx wc ((g5, .cells [.int .i64 gky.a0, .int .i64 gky.a1, .int .i64 gky.b0, .int .i64 gky.b1, .int .i64 gky.c0, .int .i64 gky.c1, .int .i64 gky.wo, .int .i64 gky.pa, .int .i64 gky.th, .int .i64 gky.fi, .int .i64 gky.tr]) :: (g1, .cells (jobL jm Aq1 (cu2 - 0))) :: (Ix ++ Ju6))) ?_ ?_
              ·exact ⟨_, 0, _, fky, rfl, (by omega), (by omega), rfl, (hok.le (by omega)), T.pick [1, 2, 3, 4, 5, 6, 0] rfl, M.mask [true, true] rfl⟩
              ·clear T M
               rintro mz ac wc ⟨zy, Zy, gky, hmm5, hZy, hk5, hgky, hok, T, M⟩
               refine wp_seq ?_
               refine wp_seq ?_
               refine wp_region_lit ?_
               refine l_q T rfl rfl rfl rfl (rn_move rfl (T.ev 6 rfl)) ?_; clear T ac; intro ac T
               refine l_q (v := (.pointer (some ⟨g1, 0, none⟩))) T rfl rfl rfl rfl (rn_fieldAddr (off := 0) rfl (T.ev 1 rfl) (fun _ _ _ => by kernel_rfl)) ?_; clear T ac; intro ac T
               refine l_q (v := (.pointer (some ⟨g1, 4, none⟩))) T rfl rfl rfl rfl (rn_fieldAddr (off := 4) rfl (T.ev 0 rfl) (fun _ _ _ => by kernel_rfl)) ?_; clear T ac; intro ac T
               refine l_q (v := (.pointer (some ⟨g1, 5, none⟩))) T rfl rfl rfl rfl (rn_fieldAddr (off := 1) rfl (T.ev 0 rfl) (fun _ _ _ => by kernel_rfl)) ?_; clear T ac; intro ac T
               refine l_q T rfl rfl rfl rfl (rn_one (Mem.nth M 1 rfl) rfl (T.ev 0 rfl) rfl) ?_; clear T ac; intro ac T
               refine l_q T rfl rfl rfl rfl (rn_leq rfl (T.ev 4 rfl) (T.ev 0 rfl)) ?_; clear T ac; intro ac T
               refine wpList_nil ?_
               replace T := T.pick [0, 6, 7, 8, 9, 10, 11, 12] rfl
               refine nm_then ?_
               refine wp_if (T.ev 0 rfl) ?_ ?_
               ·intro h18
                have hg5 := rangeI_get hZy (by omega)
                refine wp_skip ?_
                refine nm_then ?_
                refine wp_seq ?_
                refine wp_block ?_
                refine wp_region_lit ?_
                refine l_q T rfl rfl rfl rfl (rn_rowO (Mem.nth M 1 rfl) rfl (T.ev 1 rfl) rfl) ?_; clear T ac; intro ac T
                refine l_q T rfl rfl rfl rfl (rn_move rfl (T.ev 6 rfl)) ?_; clear T ac; intro ac T
                refine l_q T rfl rfl rfl rfl (rn_move rfl (T.ev 8 rfl)) ?_; clear T ac; intro ac T
                refine l_q T rfl rfl rfl rfl (rn_move rfl (T.ev 10 rfl)) ?_; clear T ac; intro ac T
                refine l_q (v := (.agg #[.int .i64 Ny, .int .i64 Vy, .int .i64 Zy])) T rfl rfl rfl rfl (rn_build rfl (.cons (T.ev 2 rfl) (.cons (T.ev 1 rfl) (.cons (T.ev 0 rfl) .nil))) (fun _ => by kernel_rfl)) ?_; clear T ac; intro ac T
                refine l_q T rfl rfl rfl rfl (rn_move rfl (T.ev 7 rfl)) ?_; clear T ac; intro ac T
                refine l_w rfl ?_; intro K hK
                refine ow_call (first := []) (cap := []) T rfl rfl rfl rfl evf (.cons (T.ev 10 rfl) (.cons (T.ev 5 rfl) (.cons (T.ev 1 rfl) (.cons (T.ev 0 rfl) (.cons evc .nil))))) Try.func61 rfl rfl ?_
                refine Calls.mono (all_strokes hgm Aq1 (cu2 - 0) g5 [] (by decide) (fun q hq => by cases hq) gky Ny Vy Zy _ _ _ (by simp only [List.length_nil]; omega) (by simp only [List.length_nil]; omega) (by simp only [List.length_nil]; omega) (hok.le (Nat.le_trans (trT_le hjw.2.1 hjw.2.2.1 hjw.2.2.2.1 hjw.2.2.2.2 (fun s hs => (hjs s hs).2) hjn (l := []) (by decide) (Ny, Vy, Zy)) (by omega))) (Sjm.rd M (.cons _ (.cons _ (subL (List.Sublist.refl _))))) (M.own_ne hox (List.Sublist.cons_cons _ (.cons _ (subL (List.Sublist.refl _))))) (Rd.empty) (fun b o h => by cases h) (Nat.zero_le _) (M.nth 0 rfl)) ?_
                clear T
                rintro e wc ⟨rfl, hgr, hbk⟩
                intro ac T
                obtain ⟨enu16, henu16⟩ : ∃ q : En, q = En.all jm gky (trT jm [] (Ny, Vy, Zy)) := ⟨_, rfl⟩
                rw [← henu16] at hbk
                replace M := M.callC (cs' := [.int .i64 enu16.a0, .int .i64 enu16.a1, .int .i64 enu16.b0, .int .i64 enu16.b1, .int .i64 enu16.c0, .int .i64 enu16.c1, .int .i64 enu16.wo, .int .i64 enu16.pa, .int .i64 enu16.th, .int .i64 enu16.fi, .int .i64 enu16.tr]) .head hgr hbk
                clear hgr hbk
                have htlu16 := trT_le hjw.2.1 hjw.2.2.1 hjw.2.2.2.1 hjw.2.2.2.2 (fun s hs => (hjs s hs).2) hjn (l := []) (by decide) (Ny, Vy, Zy)
                refine sh_out hK _ _ ?_; clear hK K
                refine wpList_nil ?_
                replace T := T.pick [8, 9, 10, 11, 12, 13, 14] rfl
                refine nm_blk ?_
                refine nm_then ?_
                refine wp_region_lit ?_
                refine l_q T rfl rfl rfl rfl (rn_move rfl (T.ev 6 rfl)) ?_; clear T ac; intro ac T
                refine l_q T rfl rfl rfl rfl (rn_add rfl (T.ev 0 rfl) evc (by omega)) ?_; clear T ac; intro ac T
                refine l_q (v := (.int .i64 (Zy + 1))) (T.pick [0, 1, 2, 3, 4, 5, 6, 7] rfl) rfl rfl rfl rfl (rn_assign rfl (T.ev 0 rfl)) ?_; clear T ac; intro ac T
                refine wpList_nil ?_
                replace T := T.pick [0, 3, 4, 5, 6, 7, 8] rfl
                refine nm_then ?_
                exact ⟨_, by omega, zy + 1, _, enu16, rfl, (by omega), (by omega), (by rw [take_flat (fun r => trT jm [] (Ny, Vy, r)) _ _ _ hg5, all_app, ← hgky]; exact henu16), (by rw [henu16]; exact En.ok.all _ (hok.le (by omega))), T.pick [1, 2, 3, 4, 5, 6, 0] rfl, M.mask [true, true] rfl⟩
               ·intro h18
                rw [List.take_of_length_le (by rw [rangeI_length]; omega)] at hgky
                have hq5 : gky = En.all jm fky ((fun t => (rangeI jm.r0 jm.r1).flatMap fun r => trT jm [] (Ny, t, r)) Vy) := hgky
                refine wp_exit ?_
                refine ex_then ?_
                refine ex_then ?_
                refine ex_hit ?_
                refine nm_blk ?_
                refine nm_then ?_
                refine wp_region_lit ?_
                refine l_q T rfl rfl rfl rfl (rn_move rfl (T.ev 6 rfl)) ?_; clear T ac; intro ac T
                refine l_q T rfl rfl rfl rfl (rn_add rfl (T.ev 0 rfl) evc (by omega)) ?_; clear T ac; intro ac T
                refine l_q (v := (.int .i64 (Vy + 1))) (T.pick [0, 1, 2, 3, 4, 5, 6, 7, 9] rfl) rfl rfl rfl rfl (rn_assign rfl (T.ev 0 rfl)) ?_; clear T ac; intro ac T
                refine wpList_nil ?_
                replace T := T.pick [0, 4, 5, 6, 7, 8] rfl
                refine nm_then ?_
                exact ⟨_, by omega, qy + 1, _, gky, rfl, (by omega), (by omega), (by rw [take_flat (fun t => (rangeI jm.r0 jm.r1).flatMap fun r => trT jm [] (Ny, t, r)) _ _ _ hg4, all_app, ← hfky]; exact hq5), (hok.le (by omega)), T.pick [1, 2, 3, 4, 5, 0] rfl, M.mask [true, true] rfl⟩
             ·intro h17
              rw [List.take_of_length_le (by rw [rangeI_length]; omega)] at hfky
              have hq4 : fky = En.all jm eky ((fun n => (rangeI jm.t0 jm.t1).flatMap fun t => (rangeI jm.r0 jm.r1).flatMap fun r => trT jm [] (n, t, r)) Ny) := hfky
              refine wp_exit ?_
              refine ex_then ?_
              refine ex_then ?_
              refine ex_hit ?_
              refine nm_blk ?_
              refine nm_then ?_
              refine wp_region_lit ?_
              refine l_q T rfl rfl rfl rfl (rn_move rfl (T.ev 5 rfl)) ?_; clear T ac; intro ac T
              refine l_q T rfl rfl rfl rfl (rn_add rfl (T.ev 0 rfl) evc (by omega)) ?_; clear T ac; intro ac T
              refine l_q (v := (.int .i64 (Ny + 1))) (T.pick [0, 1, 2, 3, 4, 5, 6, 8] rfl) rfl rfl rfl rfl (rn_assign rfl (T.ev 0 rfl)) ?_; clear T ac; intro ac T
              refine wpList_nil ?_
              replace T := T.pick [0, 4, 5, 6, 7] rfl
              refine nm_then ?_
              exact ⟨_, by omega, ky + 1, _, fky, rfl, (by omega), (by omega), (by rw [take_flat (fun n => (rangeI jm.t0 jm.t1).flatMap fun t => (rangeI jm.r0 jm.r1).flatMap fun r => trT jm [] (n, t, r)) _ _ _ hg3, all_app, ← heky]; exact hq4), (hok.le (by omega)), T.pick [1, 2, 3, 4, 0] rfl, M.mask [true, true] rfl⟩
           ·intro h16
            rw [List.take_of_length_le (by rw [rangeI_length]; omega)] at heky
            have hea : eky = En.all jm En.zero (allT jm []) := heky
            have hlaw := all_law hgm (l := []) (fun q hq => by cases hq)
            rw [← hea] at hlaw
            obtain ⟨tp1, tp2, tp3, tp4, tp5⟩ := top_after hgm (l := []) (by decide) (fun q hq => by cases hq)
            refine wp_exit ?_
            refine ex_then ?_
            refine ex_then ?_
            refine ex_hit ?_
            refine nm_then ?_
            refine wp_seq ?_
            refine wp_region_lit ?_
            refine l_q T rfl rfl rfl rfl (rn_rowO (Mem.nth M 1 rfl) rfl (T.ev 1 rfl) rfl) ?_; clear T ac; intro ac T
            refine l_q T rfl rfl rfl rfl (rn_move rfl (T.ev 3 rfl)) ?_; clear T ac; intro ac T
            refine l_w rfl ?_; intro K hK
            refine ow_call (first := []) (cap := []) T rfl rfl rfl rfl evf (.cons (T.ev 1 rfl) (.cons (T.ev 0 rfl) .nil)) Try.func34 rfl rfl ?_
            refine Calls.mono (After_T jm _ _ _ _ _ ([]) _ (Sjm.rd M (.cons _ (.cons _ (subL (List.Sublist.refl _))))) (by first | omega | (simp only [List.length_cons, List.length_nil, List.length_set]; omega)) (SN.rd M (List.nil_sublist _)) (by first | omega | (simp only [List.length_cons, List.length_nil, List.length_set]; omega))) ?_
            clear T
            rintro e wc ⟨rfl, hb⟩
            intro ac T
            replace M := M.call hb; clear hb
            refine sh_out hK _ _ ?_; clear hK K
            refine l_q T rfl rfl rfl rfl (rn_move rfl (T.ev 0 rfl)) ?_; clear T ac; intro ac T
            refine l_q T rfl rfl rfl rfl (rn_extract rfl (T.ev 0 rfl) rfl) ?_; clear T ac; intro ac T
            refine l_q T rfl rfl rfl rfl (rn_extract rfl (T.ev 1 rfl) rfl) ?_; clear T ac; intro ac T
            refine l_w rfl ?_; intro K hK
            refine ow_al M T rfl rfl rfl rfl ?_; clear M T; intro g6 wc ac M T
            refine sh_out hK _ _ ?_; clear hK K
            refine l_w rfl ?_; intro K hK
            refine ow_stO M T rfl rfl (T.ev 0 rfl) (T.ev 2 rfl) rfl .head rfl (by simp) rfl (by kernel_rfl) ?_; clear M T; intro wc ac M T
            refine sh_out hK _ _ ?_; clear hK K
            refine l_q T rfl rfl rfl rfl (rn_assign rfl (T.ev 1 rfl)) ?_; clear T ac; intro ac T
            refine wpList_nil ?_
            replace T := T.pick [0, 1, 9, 10, 11, 12] rfl
            refine nm_then ?_
            refine wp_seq ?_
            refine wp_region_lit ?_
            refine l_q T rfl rfl rfl rfl (rn_rowO (Mem.nth M 2 rfl) rfl (T.ev 2 rfl) rfl) ?_; clear T ac; intro ac T
            refine l_q T rfl rfl rfl rfl (rn_move rfl (T.ev 4 rfl)) ?_; clear T ac; intro ac T
            refine l_w rfl ?_; intro K hK
            refine ow_call (first := []) (cap := []) T rfl rfl rfl rfl evf (.cons (T.ev 1 rfl) (.cons (T.ev 0 rfl) .nil)) Try.func51 rfl rfl ?_
            refine Calls.mono (Worst_any jm _ _ _ _ _ ([]) _ (Sjm.rd M (.cons _ (.cons _ (.cons _ (subL (List.Sublist.refl _)))))) (by first | omega | (simp only [List.length_cons, List.length_nil, List.length_set]; omega)) (SN.rd M (List.nil_sublist _)) (by first | omega | (simp only [List.length_cons, List.length_nil, List.length_set]; omega))) ?_
            clear T
            rintro e wc ⟨rfl, hb⟩
            intro ac T
            replace M := M.call hb; clear hb
            refine sh_out hK _ _ ?_; clear hK K
            refine l_q T rfl rfl rfl rfl (rn_move rfl (T.ev 0 rfl)) ?_; clear T ac; intro ac T
            refine l_q T rfl rfl rfl rfl (rn_extract rfl (T.ev 0 rfl) rfl) ?_; clear T ac; intro ac T
            refine l_q T rfl rfl rfl rfl (rn_extract rfl (T.ev 1 rfl) rfl) ?_; clear T ac; intro ac T
            refine l_q T rfl rfl rfl rfl (rn_assign rfl (T.ev 1 rfl)) ?_; clear T ac; intro ac T
            refine l_q T rfl rfl rfl rfl (rn_assign rfl (T.ev 1 rfl)) ?_; clear T ac; intro ac T
            refine wpList_nil ?_
            replace T := T.pick [0, 1, 8, 9, 10, 11, 12, 13] rfl
            refine nm_then ?_
            refine wp_seq ?_
            refine wp_region_lit ?_
            refine l_q T rfl rfl rfl rfl (rn_rowO (Mem.nth M 2 rfl) rfl (T.ev 4 rfl) rfl) ?_; clear T ac; intro ac T
            refine l_q T rfl rfl rfl rfl (rn_move rfl (T.ev 6 rfl)) ?_; clear T ac; intro ac T
            refine l_w rfl ?_; intro K hK
            refine ow_call (first := []) (cap := []) T rfl rfl rfl rfl evf (.cons (T.ev 1 rfl) (.cons (T.ev 0 rfl) .nil)) Try.func44 rfl rfl ?_
            refine Calls.mono (Spoiled_any jm _ _ _ _ _ ([]) _ (Sjm.rd M (.cons _ (.cons _ (.cons _ (subL (List.Sublist.refl _)))))) (by first | omega | (simp only [List.length_cons, List.length_nil, List.length_set]; omega)) (SN.rd M (List.nil_sublist _)) (by first | omega | (simp only [List.length_cons, List.length_nil, List.length_set]; omega))) ?_
            clear T
            rintro e wc ⟨rfl, hb⟩
            intro ac T
            replace M := M.call hb; clear hb
            refine sh_out hK _ _ ?_; clear hK K
            refine l_q T rfl rfl rfl rfl (rn_move rfl (T.ev 0 rfl)) ?_; clear T ac; intro ac T
            refine l_q T rfl rfl rfl rfl (rn_extract rfl (T.ev 0 rfl) rfl) ?_; clear T ac; intro ac T
            refine l_q T rfl rfl rfl rfl (rn_extract rfl (T.ev 1 rfl) rfl) ?_; clear T ac; intro ac T
            refine l_q T rfl rfl rfl rfl (rn_assign rfl (T.ev 1 rfl)) ?_; clear T ac; intro ac T
            refine l_q T rfl rfl rfl rfl (rn_assign rfl (T.ev 1 rfl)) ?_; clear T ac; intro ac T
            refine wpList_nil ?_
            replace T := T.pick [0, 1, 8, 9, 10, 11, 12, 13, 14, 15] rfl
            refine nm_then ?_
            refine wp_seq ?_
            refine wp_region_lit ?_
            refine l_q T rfl rfl rfl rfl (rn_rowO (Mem.nth M 2 rfl) rfl (T.ev 6 rfl) rfl) ?_; clear T ac; intro ac T
            refine l_q T rfl rfl rfl rfl (rn_move rfl (T.ev 8 rfl)) ?_; clear T ac; intro ac T
            refine l_w rfl ?_; intro K hK
            refine ow_call (first := []) (cap := []) T rfl rfl rfl rfl evf (.cons (T.ev 1 rfl) (.cons (T.ev 0 rfl) .nil)) Try.func30 rfl rfl ?_
            refine Calls.mono (Fine_any jm _ _ _ _ _ ([]) _ (Sjm.rd M (.cons _ (.cons _ (.cons _ (subL (List.Sublist.refl _)))))) (by first | omega | (simp only [List.length_cons, List.length_nil, List.length_set]; omega)) (SN.rd M (List.nil_sublist _)) (by first | omega | (simp only [List.length_cons, List.length_nil, List.length_set]; omega))) ?_
            clear T
            rintro e wc ⟨rfl, hb⟩
            intro ac T
            replace M := M.call hb; clear hb
            refine sh_out hK _ _ ?_; clear hK K
            refine l_q T rfl rfl rfl rfl (rn_move rfl (T.ev 0 rfl)) ?_; clear T ac; intro ac T
            refine l_q T rfl rfl rfl rfl (rn_extract rfl (T.ev 0 rfl) rfl) ?_; clear T ac; intro ac T
            refine l_q T rfl rfl rfl rfl (rn_extract rfl (T.ev 1 rfl) rfl) ?_; clear T ac; intro ac T
            refine l_q T rfl rfl rfl rfl (rn_assign rfl (T.ev 1 rfl)) ?_; clear T ac; intro ac T
            refine l_q T rfl rfl rfl rfl (rn_assign rfl (T.ev 1 rfl)) ?_; clear T ac; intro ac T
            refine wpList_nil ?_
            replace T := T.pick [0, 1, 8, 9, 10, 11, 12, 13, 14, 15, 16, 17] rfl
            refine nm_then ?_
            refine wp_seq ?_
            refine cut_seq (fun ac wc => Tm ac 252 [(4, .pointer (some ⟨g1, 0, none⟩)), (6, .slice none 0 0), (7, .int .i64 1), (8, .pointer (some ⟨g5, 0, none⟩)), (229, .bool ((!(decide ((checkStrokesJ jm ([])) = 0))) || ((!(decide (((worstT jm ([])).2) = 0))) || ((!(decide (((spoiledT jm ([])).2) = 0))) || ((!(decide (((fineT jm ([])).2) = 0))) || ((!((decide (((afT jm ([])).p0) = eky.a0)) && ((decide (((afT jm ([])).p1) = eky.a1)) && ((decide (((afT jm ([])).t0) = eky.b0)) && ((decide (((afT jm ([])).t1) = eky.b1)) && ((decide (((afT jm ([])).r0) = eky.c0)) && (decide (((afT jm ([])).r1) = eky.c1)))))))) || ((!(decide (((worstT jm ([])).1) = eky.wo))) || ((!(decide (((spoiledT jm ([])).1) = (toldT eky.th eky.tr)))) || (!(decide (((fineT jm ([])).1) = (toldT eky.fi eky.tr))))))))))))] ∧ Mem w noEx wc ((g5, .cells [.int .i64 eky.a0, .int .i64 eky.a1, .int .i64 eky.b0, .int .i64 eky.b1, .int .i64 eky.c0, .int .i64 eky.c1, .int .i64 eky.wo, .int .i64 eky.pa, .int .i64 eky.th, .int .i64 eky.fi, .int .i64 eky.tr]) :: (g1, .cells (jobL jm Aq1 (cu2 - 0))) :: (Ix ++ Ju6))) ?_ ?_
            ·refine wp_region_lit ?_
             refine l_q T rfl rfl rfl rfl (rn_move rfl (T.ev 6 rfl)) ?_; clear T ac; intro ac T
             refine l_q T rfl rfl rfl rfl (rn_neq rfl (T.ev 0 rfl) evc) ?_; clear T ac; intro ac T
             refine l_q T rfl rfl rfl rfl (rn_move rfl (T.ev 0 rfl)) ?_; clear T ac; intro ac T
             rcases Bool.eq_false_or_eq_true (!(decide ((checkStrokesJ jm ([])) = 0))) with h19 | h19
             ·replace h19 : ¬ ((checkStrokesJ jm ([])) = 0) := by first | (rw [Bool.not_eq_true'] at h19; exact of_decide_eq_false h19) | simpa using h19
              refine l_pass T (wanted_no rfl rfl (T.ev 0 rfl) (by simp [h19])) rfl rfl rfl ?_; clear T ac; intro ac T
              refine l_pass T (wanted_no rfl rfl (T.ev 1 rfl) (by simp [h19])) rfl rfl rfl ?_; clear T ac; intro ac T
              refine l_q T rfl rfl rfl rfl (rn_pick1 rfl (T.ev 2 rfl) (by simp [h19]) evc) ?_; clear T ac; intro ac T
              refine l_q T rfl rfl rfl rfl (rn_move rfl (T.ev 0 rfl)) ?_; clear T ac; intro ac T
              refine l_pass T (wanted_no rfl rfl (T.ev 0 rfl) rfl) rfl rfl rfl ?_; clear T ac; intro ac T
              refine l_pass T (wanted_no rfl rfl (T.ev 1 rfl) rfl) rfl rfl rfl ?_; clear T ac; intro ac T
              refine l_q T rfl rfl rfl rfl (rn_pick1 rfl (T.ev 2 rfl) rfl evc) ?_; clear T ac; intro ac T
              refine l_q T rfl rfl rfl rfl (rn_move rfl (T.ev 0 rfl)) ?_; clear T ac; intro ac T
              refine l_pass T (wanted_no rfl rfl (T.ev 0 rfl) rfl) rfl rfl rfl ?_; clear T ac; intro ac T
              refine l_pass T (wanted_no rfl rfl (T.ev 1 rfl) rfl) rfl rfl rfl ?_; clear T ac; intro ac T
              refine l_q T rfl rfl rfl rfl (rn_pick1 rfl (T.ev 2 rfl) rfl evc) ?_; clear T ac; intro ac T
              refine l_q T rfl rfl rfl rfl (rn_move rfl (T.ev 0 rfl)) ?_; clear T ac; intro ac T
              refine l_pass T (wanted_no rfl rfl (T.ev 0 rfl) rfl) rfl rfl rfl ?_; clear T ac; intro ac T
              refine l_pass T (wanted_no rfl rfl (T.ev 1 rfl) rfl) rfl rfl rfl ?_; clear T ac; intro ac T
              refine l_pass T (wanted_no rfl rfl (T.ev 2 rfl) rfl) rfl rfl rfl ?_; clear T ac; intro ac T
              refine l_pass T (wanted_no rfl rfl (T.ev 3 rfl) rfl) rfl rfl rfl ?_; clear T ac; intro ac T
              refine l_pass T (wanted_no rfl rfl (T.ev 4 rfl) rfl) rfl rfl rfl ?_; clear T ac; intro ac T
              refine l_pass T (wanted_no rfl rfl (T.ev 5 rfl) rfl) rfl rfl rfl ?_; clear T ac; intro ac T
              refine l_pass T (wanted_no rfl rfl (T.ev 6 rfl) rfl) rfl rfl rfl ?_; clear T ac; intro ac T
              refine l_pass T (wanted_no rfl rfl (T.ev 7 rfl) rfl) rfl rfl rfl ?_; clear T ac; intro ac T
              refine l_pass T (wanted_no rfl rfl (T.ev 8 rfl) rfl) rfl rfl rfl ?_; clear T ac; intro ac T
              refine l_q T rfl rfl rfl rfl (rn_pick1 rfl (T.ev 9 rfl) rfl evc) ?_; clear T ac; intro ac T
              refine l_q T rfl rfl rfl rfl (rn_move rfl (T.ev 0 rfl)) ?_; clear T ac; intro ac T
              refine l_pass T (wanted_no rfl rfl (T.ev 0 rfl) rfl) rfl rfl rfl ?_; clear T ac; intro ac T
              refine l_pass T (wanted_no rfl rfl (T.ev 1 rfl) rfl) rfl rfl rfl ?_; clear T ac; intro ac T
              refine l_pass T (wanted_no rfl rfl (T.ev 2 rfl) rfl) rfl rfl rfl ?_; clear T ac; intro ac T
              refine l_pass T (wanted_no rfl rfl (T.ev 3 rfl) rfl) rfl rfl rfl ?_; clear T ac; intro ac T
              refine l_q T rfl rfl rfl rfl (rn_pick1 rfl (T.ev 4 rfl) rfl evc) ?_; clear T ac; intro ac T
              refine l_q T rfl rfl rfl rfl (rn_move rfl (T.ev 0 rfl)) ?_; clear T ac; intro ac T
              refine l_pass T (wanted_no rfl rfl (T.ev 0 rfl) rfl) rfl rfl rfl ?_; clear T ac; intro ac T
              refine l_pass T (wanted_no rfl rfl (T.ev 1 rfl) rfl) rfl rfl rfl ?_; clear T ac; intro ac T
              refine l_pass T (wanted_no rfl rfl (T.ev 2 rfl) rfl) rfl rfl rfl ?_; clear T ac; intro ac T
              refine l_pass T (wanted_no rfl rfl (T.ev 3 rfl) rfl) rfl rfl rfl ?_; clear T ac; intro ac T
              refine l_pass T (wanted_no rfl rfl (T.ev 4 rfl) rfl) rfl rfl rfl ?_; clear T ac; intro ac T
              refine l_pass T (wanted_no rfl rfl (T.ev 5 rfl) rfl) rfl rfl rfl ?_; clear T ac; intro ac T
              refine l_pass T (wanted_no rfl rfl (T.ev 6 rfl) rfl) rfl rfl rfl ?_; clear T ac; intro ac T
              refine l_q T rfl rfl rfl rfl (rn_pick1 rfl (T.ev 7 rfl) rfl evc) ?_; clear T ac; intro ac T
              refine l_q T rfl rfl rfl rfl (rn_move rfl (T.ev 0 rfl)) ?_; clear T ac; intro ac T
              refine l_pass T (wanted_no rfl rfl (T.ev 0 rfl) rfl) rfl rfl rfl ?_; clear T ac; intro ac T
              refine l_pass T (wanted_no rfl rfl (T.ev 1 rfl) rfl) rfl rfl rfl ?_; clear T ac; intro ac T
              refine l_pass T (wanted_no rfl rfl (T.ev 2 rfl) rfl) rfl rfl rfl ?_; clear T ac; intro ac T
              refine l_pass T (wanted_no rfl rfl (T.ev 3 rfl) rfl) rfl rfl rfl ?_; clear T ac; intro ac T
              refine l_pass T (wanted_no rfl rfl (T.ev 4 rfl) rfl) rfl rfl rfl ?_; clear T ac; intro ac T
              refine l_pass T (wanted_no rfl rfl (T.ev 5 rfl) rfl) rfl rfl rfl ?_; clear T ac; intro ac T
              refine l_pass T (wanted_no rfl rfl (T.ev 6 rfl) rfl) rfl rfl rfl ?_; clear T ac; intro ac T
              refine l_q T rfl rfl rfl rfl (rn_pick1 rfl (T.ev 7 rfl) rfl evc) ?_; clear T ac; intro ac T
              refine wpList_nil ?_
              replace T := T.pick [0, 1, 2, 3, 4, 5, 6, 7, 10, 11, 12, 13, 14, 15, 16, 19, 20, 21, 22, 25, 26, 27, 28, 29, 30, 31, 32, 33, 36, 37, 40, 41, 44, 45, 57, 58, 59, 60] rfl
              replace M := M.mask [false, true, true] rfl
              exact ⟨(T.pick (E' := [(4, .pointer (some ⟨g1, 0, none⟩)), (6, .slice none 0 0), (7, .int .i64 1), (8, .pointer (some ⟨g5, 0, none⟩)), (229, .bool true)]) [34, 35, 36, 37, 0] rfl).as (by (try rw [show (!(decide ((checkStrokesJ jm ([])) = 0))) = true from (by simp [h19])]); (try rfl)), M.mask [true, true] rfl⟩
             ·replace h19 : (checkStrokesJ jm ([])) = 0 := by first | (rw [Bool.not_eq_false'] at h19; exact of_decide_eq_true h19) | simpa using h19
              refine l_q T (wanted_yes rfl rfl (T.ev 0 rfl) (by simp [h19])) rfl rfl rfl (rn_move rfl (T.ev 7 rfl)) ?_; clear T ac; intro ac T
              refine l_q T (wanted_yes rfl rfl (T.ev 1 rfl) (by simp [h19])) rfl rfl rfl (rn_neq rfl (T.ev 0 rfl) evc) ?_; clear T ac; intro ac T
              refine l_q T rfl rfl rfl rfl (rn_pick0 rfl (T.ev 2 rfl) (by simp [h19]) (T.ev 0 rfl)) ?_; clear T ac; intro ac T
              refine l_q T rfl rfl rfl rfl (rn_move rfl (T.ev 0 rfl)) ?_; clear T ac; intro ac T
              rcases Bool.eq_false_or_eq_true (!(decide (((worstT jm ([])).2) = 0))) with h20 | h20
              ·replace h20 : ¬ (((worstT jm ([])).2) = 0) := by first | (rw [Bool.not_eq_true'] at h20; exact of_decide_eq_false h20) | simpa using h20
               refine l_pass T (wanted_no rfl rfl (T.ev 0 rfl) (by simp [h20])) rfl rfl rfl ?_; clear T ac; intro ac T
               refine l_pass T (wanted_no rfl rfl (T.ev 1 rfl) (by simp [h20])) rfl rfl rfl ?_; clear T ac; intro ac T
               refine l_q T rfl rfl rfl rfl (rn_pick1 rfl (T.ev 2 rfl) (by simp [h20]) evc) ?_; clear T ac; intro ac T
               refine l_q T rfl rfl rfl rfl (rn_move rfl (T.ev 0 rfl)) ?_; clear T ac; intro ac T
               refine l_pass T (wanted_no rfl rfl (T.ev 0 rfl) rfl) rfl rfl rfl ?_; clear T ac; intro ac T
               refine l_pass T (wanted_no rfl rfl (T.ev 1 rfl) rfl) rfl rfl rfl ?_; clear T ac; intro ac T
               refine l_q T rfl rfl rfl rfl (rn_pick1 rfl (T.ev 2 rfl) rfl evc) ?_; clear T ac; intro ac T
               refine l_q T rfl rfl rfl rfl (rn_move rfl (T.ev 0 rfl)) ?_; clear T ac; intro ac T
               refine l_pass T (wanted_no rfl rfl (T.ev 0 rfl) rfl) rfl rfl rfl ?_; clear T ac; intro ac T
               refine l_pass T (wanted_no rfl rfl (T.ev 1 rfl) rfl) rfl rfl rfl ?_; clear T ac; intro ac T
               refine l_pass T (wanted_no rfl rfl (T.ev 2 rfl) rfl) rfl rfl rfl ?_; clear T ac; intro ac T
               refine l_pass T (wanted_no rfl rfl (T.ev 3 rfl) rfl) rfl rfl rfl ?_; clear T ac; intro ac T
               refine l_pass T (wanted_no rfl rfl (T.ev 4 rfl) rfl) rfl rfl rfl ?_; clear T ac; intro ac T
               refine l_pass T (wanted_no rfl rfl (T.ev 5 rfl) rfl) rfl rfl rfl ?_; clear T ac; intro ac T
               refine l_pass T (wanted_no rfl rfl (T.ev 6 rfl) rfl) rfl rfl rfl ?_; clear T ac; intro ac T
               refine l_pass T (wanted_no rfl rfl (T.ev 7 rfl) rfl) rfl rfl rfl ?_; clear T ac; intro ac T
               refine l_pass T (wanted_no rfl rfl (T.ev 8 rfl) rfl) rfl rfl rfl ?_; clear T ac; intro ac T
               refine l_q T rfl rfl rfl rfl (rn_pick1 rfl (T.ev 9 rfl) rfl evc) ?_; clear T ac; intro ac T
               refine l_q T rfl rfl rfl rfl (rn_move rfl (T.ev 0 rfl)) ?_; clear T ac; intro ac T
               refine l_pass T (wanted_no rfl rfl (T.ev 0 rfl) rfl) rfl rfl rfl ?_; clear T ac; intro ac T
               refine l_pass T (wanted_no rfl rfl (T.ev 1 rfl) rfl) rfl rfl rfl ?_; clear T ac; intro ac T
               refine l_pass T (wanted_no rfl rfl (T.ev 2 rfl) rfl) rfl rfl rfl ?_; clear T ac; intro ac T
               refine l_pass T (wanted_no rfl rfl (T.ev 3 rfl) rfl) rfl rfl rfl ?_; clear T ac; intro ac T
               refine l_q T rfl rfl rfl rfl (rn_pick1 rfl (T.ev 4 rfl) rfl evc) ?_; clear T ac; intro ac T
               refine l_q T rfl rfl rfl rfl (rn_move rfl (T.ev 0 rfl)) ?_; clear T ac; intro ac T
               refine l_pass T (wanted_no rfl rfl (T.ev 0 rfl) rfl) rfl rfl rfl ?_; clear T ac; intro ac T
               refine l_pass T (wanted_no rfl rfl (T.ev 1 rfl) rfl) rfl rfl rfl ?_; clear T ac; intro ac T
               refine l_pass T (wanted_no rfl rfl (T.ev 2 rfl) rfl) rfl rfl rfl ?_; clear T ac; intro ac T
               refine l_pass T (wanted_no rfl rfl (T.ev 3 rfl) rfl) rfl rfl rfl ?_; clear T ac; intro ac T
               refine l_pass T (wanted_no rfl rfl (T.ev 4 rfl) rfl) rfl rfl rfl ?_; clear T ac; intro ac T
               refine l_pass T (wanted_no rfl rfl (T.ev 5 rfl) rfl) rfl rfl rfl ?_; clear T ac; intro ac T
               refine l_pass T (wanted_no rfl rfl (T.ev 6 rfl) rfl) rfl rfl rfl ?_; clear T ac; intro ac T
               refine l_q T rfl rfl rfl rfl (rn_pick1 rfl (T.ev 7 rfl) rfl evc) ?_; clear T ac; intro ac T
               refine l_q T rfl rfl rfl rfl (rn_move rfl (T.ev 0 rfl)) ?_; clear T ac; intro ac T
               refine l_pass T (wanted_no rfl rfl (T.ev 0 rfl) rfl) rfl rfl rfl ?_; clear T ac; intro ac T
               refine l_pass T (wanted_no rfl rfl (T.ev 1 rfl) rfl) rfl rfl rfl ?_; clear T ac; intro ac T
               refine l_pass T (wanted_no rfl rfl (T.ev 2 rfl) rfl) rfl rfl rfl ?_; clear T ac; intro ac T
               refine l_pass T (wanted_no rfl rfl (T.ev 3 rfl) rfl) rfl rfl rfl ?_; clear T ac; intro ac T
               refine l_pass T (wanted_no rfl rfl (T.ev 4 rfl) rfl) rfl rfl rfl ?_; clear T ac; intro ac T
               refine l_pass T (wanted_no rfl rfl (T.ev 5 rfl) rfl) rfl rfl rfl ?_; clear T ac; intro ac T
               refine l_pass T (wanted_no rfl rfl (T.ev 6 rfl) rfl) rfl rfl rfl ?_; clear T ac; intro ac T
               refine l_q T rfl rfl rfl rfl (rn_pick1 rfl (T.ev 7 rfl) rfl evc) ?_; clear T ac; intro ac T
               refine wpList_nil ?_
               replace T := T.pick [0, 1, 2, 3, 4, 5, 6, 7, 10, 11, 12, 13, 14, 15, 16, 19, 20, 21, 22, 25, 26, 27, 28, 29, 30, 31, 32, 33, 36, 37, 40, 41, 44, 45, 57, 58, 59, 60] rfl
               replace M := M.mask [false, true, true] rfl
               exact ⟨(T.pick (E' := [(4, .pointer (some ⟨g1, 0, none⟩)), (6, .slice none 0 0), (7, .int .i64 1), (8, .pointer (some ⟨g5, 0, none⟩)), (229, .bool true)]) [34, 35, 36, 37, 0] rfl).as (by (try rw [show (!(decide ((checkStrokesJ jm ([])) = 0))) = false from (by simp [h19])]); (try rw [show (!(decide (((worstT jm ([])).2) = 0))) = true from (by simp [h20])]); (try rfl)), M.mask [true, true] rfl⟩
              ·replace h20 : ((worstT jm ([])).2) = 0 := by first | (rw [Bool.not_eq_false'] at h20; exact of_decide_eq_true h20) | simpa using h20
               refine l_q T (wanted_yes rfl rfl (T.ev 0 rfl) (by simp [h20])) rfl rfl rfl (rn_move rfl (T.ev 9 rfl)) ?_; clear T ac; intro ac T
               refine l_q T (wanted_yes rfl rfl (T.ev 1 rfl) (by simp [h20])) rfl rfl rfl (rn_neq rfl (T.ev 0 rfl) evc) ?_; clear T ac; intro ac T
               refine l_q T rfl rfl rfl rfl (rn_pick0 rfl (T.ev 2 rfl) (by simp [h20]) (T.ev 0 rfl)) ?_; clear T ac; intro ac T
               refine l_q T rfl rfl rfl rfl (rn_move rfl (T.ev 0 rfl)) ?_; clear T ac; intro ac T
               rcases Bool.eq_false_or_eq_true (!(decide (((spoiledT jm ([])).2) = 0))) with h21 | h21
               ·replace h21 : ¬ (((spoiledT jm ([])).2) = 0) := by first | (rw [Bool.not_eq_true'] at h21; exact of_decide_eq_false h21) | simpa using h21
                refine l_pass T (wanted_no rfl rfl (T.ev 0 rfl) (by simp [h21])) rfl rfl rfl ?_; clear T ac; intro ac T
                refine l_pass T (wanted_no rfl rfl (T.ev 1 rfl) (by simp [h21])) rfl rfl rfl ?_; clear T ac; intro ac T
                refine l_q T rfl rfl rfl rfl (rn_pick1 rfl (T.ev 2 rfl) (by simp [h21]) evc) ?_; clear T ac; intro ac T
                refine l_q T rfl rfl rfl rfl (rn_move rfl (T.ev 0 rfl)) ?_; clear T ac; intro ac T
                refine l_pass T (wanted_no rfl rfl (T.ev 0 rfl) rfl) rfl rfl rfl ?_; clear T ac; intro ac T
                refine l_pass T (wanted_no rfl rfl (T.ev 1 rfl) rfl) rfl rfl rfl ?_; clear T ac; intro ac T
                refine l_pass T (wanted_no rfl rfl (T.ev 2 rfl) rfl) rfl rfl rfl ?_; clear T ac; intro ac T
                refine l_pass T (wanted_no rfl rfl (T.ev 3 rfl) rfl) rfl rfl rfl ?_; clear T ac; intro ac T
                refine l_pass T (wanted_no rfl rfl (T.ev 4 rfl) rfl) rfl rfl rfl ?_; clear T ac; intro ac T
                refine l_pass T (wanted_no rfl rfl (T.ev 5 rfl) rfl) rfl rfl rfl ?_; clear T ac; intro ac T
                refine l_pass T (wanted_no rfl rfl (T.ev 6 rfl) rfl) rfl rfl rfl ?_; clear T ac; intro ac T
                refine l_pass T (wanted_no rfl rfl (T.ev 7 rfl) rfl) rfl rfl rfl ?_; clear T ac; intro ac T
                refine l_pass T (wanted_no rfl rfl (T.ev 8 rfl) rfl) rfl rfl rfl ?_; clear T ac; intro ac T
                refine l_q T rfl rfl rfl rfl (rn_pick1 rfl (T.ev 9 rfl) rfl evc) ?_; clear T ac; intro ac T
                refine l_q T rfl rfl rfl rfl (rn_move rfl (T.ev 0 rfl)) ?_; clear T ac; intro ac T
                refine l_pass T (wanted_no rfl rfl (T.ev 0 rfl) rfl) rfl rfl rfl ?_; clear T ac; intro ac T
                refine l_pass T (wanted_no rfl rfl (T.ev 1 rfl) rfl) rfl rfl rfl ?_; clear T ac; intro ac T
                refine l_pass T (wanted_no rfl rfl (T.ev 2 rfl) rfl) rfl rfl rfl ?_; clear T ac; intro ac T
                refine l_pass T (wanted_no rfl rfl (T.ev 3 rfl) rfl) rfl rfl rfl ?_; clear T ac; intro ac T
                refine l_q T rfl rfl rfl rfl (rn_pick1 rfl (T.ev 4 rfl) rfl evc) ?_; clear T ac; intro ac T
                refine l_q T rfl rfl rfl rfl (rn_move rfl (T.ev 0 rfl)) ?_; clear T ac; intro ac T
                refine l_pass T (wanted_no rfl rfl (T.ev 0 rfl) rfl) rfl rfl rfl ?_; clear T ac; intro ac T
                refine l_pass T (wanted_no rfl rfl (T.ev 1 rfl) rfl) rfl rfl rfl ?_; clear T ac; intro ac T
                refine l_pass T (wanted_no rfl rfl (T.ev 2 rfl) rfl) rfl rfl rfl ?_; clear T ac; intro ac T
                refine l_pass T (wanted_no rfl rfl (T.ev 3 rfl) rfl) rfl rfl rfl ?_; clear T ac; intro ac T
                refine l_pass T (wanted_no rfl rfl (T.ev 4 rfl) rfl) rfl rfl rfl ?_; clear T ac; intro ac T
                refine l_pass T (wanted_no rfl rfl (T.ev 5 rfl) rfl) rfl rfl rfl ?_; clear T ac; intro ac T
                refine l_pass T (wanted_no rfl rfl (T.ev 6 rfl) rfl) rfl rfl rfl ?_; clear T ac; intro ac T
                refine l_q T rfl rfl rfl rfl (rn_pick1 rfl (T.ev 7 rfl) rfl evc) ?_; clear T ac; intro ac T
                refine l_q T rfl rfl rfl rfl (rn_move rfl (T.ev 0 rfl)) ?_; clear T ac; intro ac T
                refine l_pass T (wanted_no rfl rfl (T.ev 0 rfl) rfl) rfl rfl rfl ?_; clear T ac; intro ac T
                refine l_pass T (wanted_no rfl rfl (T.ev 1 rfl) rfl) rfl rfl rfl ?_; clear T ac; intro ac T
                refine l_pass T (wanted_no rfl rfl (T.ev 2 rfl) rfl) rfl rfl rfl ?_; clear T ac; intro ac T
                refine l_pass T (wanted_no rfl rfl (T.ev 3 rfl) rfl) rfl rfl rfl ?_; clear T ac; intro ac T
                refine l_pass T (wanted_no rfl rfl (T.ev 4 rfl) rfl) rfl rfl rfl ?_; clear T ac; intro ac T
                refine l_pass T (wanted_no rfl rfl (T.ev 5 rfl) rfl) rfl rfl rfl ?_; clear T ac; intro ac T
                refine l_pass T (wanted_no rfl rfl (T.ev 6 rfl) rfl) rfl rfl rfl ?_; clear T ac; intro ac T
                refine l_q T rfl rfl rfl rfl (rn_pick1 rfl (T.ev 7 rfl) rfl evc) ?_; clear T ac; intro ac T
                refine wpList_nil ?_
                replace T := T.pick [0, 1, 2, 3, 4, 5, 6, 7, 10, 11, 12, 13, 14, 15, 16, 19, 20, 21, 22, 25, 26, 27, 28, 29, 30, 31, 32, 33, 36, 37, 40, 41, 44, 45, 57, 58, 59, 60] rfl
                replace M := M.mask [false, true, true] rfl
                exact ⟨(T.pick (E' := [(4, .pointer (some ⟨g1, 0, none⟩)), (6, .slice none 0 0), (7, .int .i64 1), (8, .pointer (some ⟨g5, 0, none⟩)), (229, .bool true)]) [34, 35, 36, 37, 0] rfl).as (by (try rw [show (!(decide ((checkStrokesJ jm ([])) = 0))) = false from (by simp [h19])]); (try rw [show (!(decide (((worstT jm ([])).2) = 0))) = false from (by simp [h20])]); (try rw [show (!(decide (((spoiledT jm ([])).2) = 0))) = true from (by simp [h21])]); (try rfl)), M.mask [true, true] rfl⟩
               ·replace h21 : ((spoiledT jm ([])).2) = 0 := by first | (rw [Bool.not_eq_false'] at h21; exact of_decide_eq_true h21) | simpa using h21
                refine l_q T (wanted_yes rfl rfl (T.ev 0 rfl) (by simp [h21])) rfl rfl rfl (rn_move rfl (T.ev 11 rfl)) ?_; clear T ac; intro ac T
                refine l_q T (wanted_yes rfl rfl (T.ev 1 rfl) (by simp [h21])) rfl rfl rfl (rn_neq rfl (T.ev 0 rfl) evc) ?_; clear T ac; intro ac T
                refine l_q T rfl rfl rfl rfl (rn_pick0 rfl (T.ev 2 rfl) (by simp [h21]) (T.ev 0 rfl)) ?_; clear T ac; intro ac T
                refine l_q T rfl rfl rfl rfl (rn_move rfl (T.ev 0 rfl)) ?_; clear T ac; intro ac T
                rcases Bool.eq_false_or_eq_true (!(decide (((fineT jm ([])).2) = 0))) with h22 | h22
                ·replace h22 : ¬ (((fineT jm ([])).2) = 0) := by first | (rw [Bool.not_eq_true'] at h22; exact of_decide_eq_false h22) | simpa using h22
                 refine l_pass T (wanted_no rfl rfl (T.ev 0 rfl) (by simp [h22])) rfl rfl rfl ?_; clear T ac; intro ac T
                 refine l_pass T (wanted_no rfl rfl (T.ev 1 rfl) (by simp [h22])) rfl rfl rfl ?_; clear T ac; intro ac T
                 refine l_pass T (wanted_no rfl rfl (T.ev 2 rfl) (by simp [h22])) rfl rfl rfl ?_; clear T ac; intro ac T
                 refine l_pass T (wanted_no rfl rfl (T.ev 3 rfl) (by simp [h22])) rfl rfl rfl ?_; clear T ac; intro ac T
                 refine l_pass T (wanted_no rfl rfl (T.ev 4 rfl) (by simp [h22])) rfl rfl rfl ?_; clear T ac; intro ac T
                 refine l_pass T (wanted_no rfl rfl (T.ev 5 rfl) (by simp [h22])) rfl rfl rfl ?_; clear T ac; intro ac T
                 refine l_pass T (wanted_no rfl rfl (T.ev 6 rfl) (by simp [h22])) rfl rfl rfl ?_; clear T ac; intro ac T
                 refine l_pass T (wanted_no rfl rfl (T.ev 7 rfl) (by simp [h22])) rfl rfl rfl ?_; clear T ac; intro ac T
                 refine l_pass T (wanted_no rfl rfl (T.ev 8 rfl) (by simp [h22])) rfl rfl rfl ?_; clear T ac; intro ac T
                 refine l_q T rfl rfl rfl rfl (rn_pick1 rfl (T.ev 9 rfl) (by simp [h22]) evc) ?_; clear T ac; intro ac T
                 refine l_q T rfl rfl rfl rfl (rn_move rfl (T.ev 0 rfl)) ?_; clear T ac; intro ac T
                 refine l_pass T (wanted_no rfl rfl (T.ev 0 rfl) rfl) rfl rfl rfl ?_; clear T ac; intro ac T
                 refine l_pass T (wanted_no rfl rfl (T.ev 1 rfl) rfl) rfl rfl rfl ?_; clear T ac; intro ac T
                 refine l_pass T (wanted_no rfl rfl (T.ev 2 rfl) rfl) rfl rfl rfl ?_; clear T ac; intro ac T
                 refine l_pass T (wanted_no rfl rfl (T.ev 3 rfl) rfl) rfl rfl rfl ?_; clear T ac; intro ac T
                 refine l_q T rfl rfl rfl rfl (rn_pick1 rfl (T.ev 4 rfl) rfl evc) ?_; clear T ac; intro ac T
                 refine l_q T rfl rfl rfl rfl (rn_move rfl (T.ev 0 rfl)) ?_; clear T ac; intro ac T
                 refine l_pass T (wanted_no rfl rfl (T.ev 0 rfl) rfl) rfl rfl rfl ?_; clear T ac; intro ac T
                 refine l_pass T (wanted_no rfl rfl (T.ev 1 rfl) rfl) rfl rfl rfl ?_; clear T ac; intro ac T
                 refine l_pass T (wanted_no rfl rfl (T.ev 2 rfl) rfl) rfl rfl rfl ?_; clear T ac; intro ac T
                 refine l_pass T (wanted_no rfl rfl (T.ev 3 rfl) rfl) rfl rfl rfl ?_; clear T ac; intro ac T
                 refine l_pass T (wanted_no rfl rfl (T.ev 4 rfl) rfl) rfl rfl rfl ?_; clear T ac; intro ac T
                 refine l_pass T (wanted_no rfl rfl (T.ev 5 rfl) rfl) rfl rfl rfl ?_; clear T ac; intro ac T
                 refine l_pass T (wanted_no rfl rfl (T.ev 6 rfl) rfl) rfl rfl rfl ?_; clear T ac; intro ac T
                 refine l_q T rfl rfl rfl rfl (rn_pick1 rfl (T.ev 7 rfl) rfl evc) ?_; clear T ac; intro ac T
                 refine l_q T rfl rfl rfl rfl (rn_move rfl (T.ev 0 rfl)) ?_; clear T ac; intro ac T
                 refine l_pass T (wanted_no rfl rfl (T.ev 0 rfl) rfl) rfl rfl rfl ?_; clear T ac; intro ac T
                 refine l_pass T (wanted_no rfl rfl (T.ev 1 rfl) rfl) rfl rfl rfl ?_; clear T ac; intro ac T
                 refine l_pass T (wanted_no rfl rfl (T.ev 2 rfl) rfl) rfl rfl rfl ?_; clear T ac; intro ac T
                 refine l_pass T (wanted_no rfl rfl (T.ev 3 rfl) rfl) rfl rfl rfl ?_; clear T ac; intro ac T
                 refine l_pass T (wanted_no rfl rfl (T.ev 4 rfl) rfl) rfl rfl rfl ?_; clear T ac; intro ac T
                 refine l_pass T (wanted_no rfl rfl (T.ev 5 rfl) rfl) rfl rfl rfl ?_; clear T ac; intro ac T
                 refine l_pass T (wanted_no rfl rfl (T.ev 6 rfl) rfl) rfl rfl rfl ?_; clear T ac; intro ac T
                 refine l_q T rfl rfl rfl rfl (rn_pick1 rfl (T.ev 7 rfl) rfl evc) ?_; clear T ac; intro ac T
                 refine wpList_nil ?_
                 replace T := T.pick [0, 1, 2, 3, 4, 5, 6, 7, 10, 11, 12, 13, 14, 15, 16, 19, 20, 21, 22, 25, 26, 27, 28, 29, 30, 31, 32, 33, 36, 37, 40, 41, 44, 45, 57, 58, 59, 60] rfl
                 replace M := M.mask [false, true, true] rfl
                 exact ⟨(T.pick (E' := [(4, .pointer (some ⟨g1, 0, none⟩)), (6, .slice none 0 0), (7, .int .i64 1), (8, .pointer (some ⟨g5, 0, none⟩)), (229, .bool true)]) [34, 35, 36, 37, 0] rfl).as (by (try rw [show (!(decide ((checkStrokesJ jm ([])) = 0))) = false from (by simp [h19])]); (try rw [show (!(decide (((worstT jm ([])).2) = 0))) = false from (by simp [h20])]); (try rw [show (!(decide (((spoiledT jm ([])).2) = 0))) = false from (by simp [h21])]); (try rw [show (!(decide (((fineT jm ([])).2) = 0))) = true from (by simp [h22])]); (try rfl)), M.mask [true, true] rfl⟩
                ·replace h22 : ((fineT jm ([])).2) = 0 := by first | (rw [Bool.not_eq_false'] at h22; exact of_decide_eq_true h22) | simpa using h22
                 refine l_q T (wanted_yes rfl rfl (T.ev 0 rfl) (by simp [h22])) rfl rfl rfl (rn_rowO (Mem.nth M 0 rfl) rfl (T.ev 22 rfl) rfl) ?_; clear T ac; intro ac T
                 refine l_q (v := (.pointer (some ⟨g5, 0, none⟩))) T (wanted_yes rfl rfl (T.ev 1 rfl) (by simp [h22])) rfl rfl rfl (rn_fieldAddr (off := 0) rfl (T.ev 27 rfl) (fun _ _ _ => by kernel_rfl)) ?_; clear T ac; intro ac T
                 refine l_q T (wanted_yes rfl rfl (T.ev 2 rfl) (by simp [h22])) rfl rfl rfl (rn_rowO (Mem.nth M 1 rfl) rfl (T.ev 0 rfl) rfl) ?_; clear T ac; intro ac T
                 refine l_q (v := (.pointer (some ⟨g5, 2, none⟩))) T (wanted_yes rfl rfl (T.ev 3 rfl) (by simp [h22])) rfl rfl rfl (rn_fieldAddr (off := 2) rfl (T.ev 29 rfl) (fun _ _ _ => by kernel_rfl)) ?_; clear T ac; intro ac T
                 refine l_q T (wanted_yes rfl rfl (T.ev 4 rfl) (by simp [h22])) rfl rfl rfl (rn_rowO (Mem.nth M 1 rfl) rfl (T.ev 0 rfl) rfl) ?_; clear T ac; intro ac T
                 refine l_q (v := (.pointer (some ⟨g5, 4, none⟩))) T (wanted_yes rfl rfl (T.ev 5 rfl) (by simp [h22])) rfl rfl rfl (rn_fieldAddr (off := 4) rfl (T.ev 31 rfl) (fun _ _ _ => by kernel_rfl)) ?_; clear T ac; intro ac T
                 refine l_q T (wanted_yes rfl rfl (T.ev 6 rfl) (by simp [h22])) rfl rfl rfl (rn_rowO (Mem.nth M 1 rfl) rfl (T.ev 0 rfl) rfl) ?_; clear T ac; intro ac T
                 refine l_q (v := (.agg #[.int .i64 eky.a0, .int .i64 eky.a1, .int .i64 eky.b0, .int .i64 eky.b1, .int .i64 eky.c0, .int .i64 eky.c1])) T (wanted_yes rfl rfl (T.ev 7 rfl) (by simp [h22])) rfl rfl rfl (rn_build rfl (.cons (T.ev 4 rfl) (.cons (T.ev 2 rfl) (.cons (T.ev 0 rfl) .nil))) (fun _ => by kernel_rfl)) ?_; clear T ac; intro ac T
                 refine l_q (v := (.bool (!((decide (((afT jm ([])).p0) = eky.a0)) && ((decide (((afT jm ([])).p1) = eky.a1)) && ((decide (((afT jm ([])).t0) = eky.b0)) && ((decide (((afT jm ([])).t1) = eky.b1)) && ((decide (((afT jm ([])).r0) = eky.c0)) && (decide (((afT jm ([])).r1) = eky.c1)))))))))) T (wanted_yes rfl rfl (T.ev 8 rfl) (by simp [h22])) rfl rfl rfl (rn_bin rfl (T.ev 7 rfl) (T.ev 0 rfl) neT25) ?_; clear T ac; intro ac T
                 refine l_q T rfl rfl rfl rfl (rn_pick0 rfl (T.ev 9 rfl) (by simp [h22]) (T.ev 0 rfl)) ?_; clear T ac; intro ac T
                 refine l_q T rfl rfl rfl rfl (rn_move rfl (T.ev 0 rfl)) ?_; clear T ac; intro ac T
                 rcases Bool.eq_false_or_eq_true (!((decide (((afT jm ([])).p0) = eky.a0)) && ((decide (((afT jm ([])).p1) = eky.a1)) && ((decide (((afT jm ([])).t0) = eky.b0)) && ((decide (((afT jm ([])).t1) = eky.b1)) && ((decide (((afT jm ([])).r0) = eky.c0)) && (decide (((afT jm ([])).r1) = eky.c1)))))))) with h23 | h23
                 ·refine l_pass T (wanted_no rfl rfl (T.ev 0 rfl) h23) rfl rfl rfl ?_; clear T ac; intro ac T
                  refine l_pass T (wanted_no rfl rfl (T.ev 1 rfl) h23) rfl rfl rfl ?_; clear T ac; intro ac T
                  refine l_pass T (wanted_no rfl rfl (T.ev 2 rfl) h23) rfl rfl rfl ?_; clear T ac; intro ac T
                  refine l_pass T (wanted_no rfl rfl (T.ev 3 rfl) h23) rfl rfl rfl ?_; clear T ac; intro ac T
                  refine l_q T rfl rfl rfl rfl (rn_pick1 rfl (T.ev 4 rfl) h23 evc) ?_; clear T ac; intro ac T
                  refine l_q T rfl rfl rfl rfl (rn_move rfl (T.ev 0 rfl)) ?_; clear T ac; intro ac T
                  refine l_pass T (wanted_no rfl rfl (T.ev 0 rfl) rfl) rfl rfl rfl ?_; clear T ac; intro ac T
                  refine l_pass T (wanted_no rfl rfl (T.ev 1 rfl) rfl) rfl rfl rfl ?_; clear T ac; intro ac T
                  refine l_pass T (wanted_no rfl rfl (T.ev 2 rfl) rfl) rfl rfl rfl ?_; clear T ac; intro ac T
                  refine l_pass T (wanted_no rfl rfl (T.ev 3 rfl) rfl) rfl rfl rfl ?_; clear T ac; intro ac T
                  refine l_pass T (wanted_no rfl rfl (T.ev 4 rfl) rfl) rfl rfl rfl ?_; clear T ac; intro ac T
                  refine l_pass T (wanted_no rfl rfl (T.ev 5 rfl) rfl) rfl rfl rfl ?_; clear T ac; intro ac T
                  refine l_pass T (wanted_no rfl rfl (T.ev 6 rfl) rfl) rfl rfl rfl ?_; clear T ac; intro ac T
                  refine l_q T rfl rfl rfl rfl (rn_pick1 rfl (T.ev 7 rfl) rfl evc) ?_; clear T ac; intro ac T
                  refine l_q T rfl rfl rfl rfl (rn_move rfl (T.ev 0 rfl)) ?_; clear T ac; intro ac T
                  refine l_pass T (wanted_no rfl rfl (T.ev 0 rfl) rfl) rfl rfl rfl ?_; clear T ac; intro ac T
                  refine l_pass T (wanted_no rfl rfl (T.ev 1 rfl) rfl) rfl rfl rfl ?_; clear T ac; intro ac T
                  refine l_pass T (wanted_no rfl rfl (T.ev 2 rfl) rfl) rfl rfl rfl ?_; clear T ac; intro ac T
                  refine l_pass T (wanted_no rfl rfl (T.ev 3 rfl) rfl) rfl rfl rfl ?_; clear T ac; intro ac T
                  refine l_pass T (wanted_no rfl rfl (T.ev 4 rfl) rfl) rfl rfl rfl ?_; clear T ac; intro ac T
                  refine l_pass T (wanted_no rfl rfl (T.ev 5 rfl) rfl) rfl rfl rfl ?_; clear T ac; intro ac T
                  refine l_pass T (wanted_no rfl rfl (T.ev 6 rfl) rfl) rfl rfl rfl ?_; clear T ac; intro ac T
                  refine l_q T rfl rfl rfl rfl (rn_pick1 rfl (T.ev 7 rfl) rfl evc) ?_; clear T ac; intro ac T
                  refine wpList_nil ?_
                  replace T := T.pick [0, 1, 2, 3, 4, 5, 6, 7, 10, 11, 12, 13, 14, 15, 16, 19, 20, 21, 22, 25, 26, 27, 28, 29, 30, 31, 32, 33, 36, 37, 40, 41, 44, 45, 57, 58, 59, 60] rfl
                  replace M := M.mask [false, true, true] rfl
                  exact ⟨(T.pick (E' := [(4, .pointer (some ⟨g1, 0, none⟩)), (6, .slice none 0 0), (7, .int .i64 1), (8, .pointer (some ⟨g5, 0, none⟩)), (229, .bool true)]) [34, 35, 36, 37, 0] rfl).as (by (try rw [show (!(decide ((checkStrokesJ jm ([])) = 0))) = false from (by simp [h19])]); (try rw [show (!(decide (((worstT jm ([])).2) = 0))) = false from (by simp [h20])]); (try rw [show (!(decide (((spoiledT jm ([])).2) = 0))) = false from (by simp [h21])]); (try rw [show (!(decide (((fineT jm ([])).2) = 0))) = false from (by simp [h22])]); (try rw [show (!((decide (((afT jm ([])).p0) = eky.a0)) && ((decide (((afT jm ([])).p1) = eky.a1)) && ((decide (((afT jm ([])).t0) = eky.b0)) && ((decide (((afT jm ([])).t1) = eky.b1)) && ((decide (((afT jm ([])).r0) = eky.c0)) && (decide (((afT jm ([])).r1) = eky.c1)))))))) = true from h23]); (try rfl)), M.mask [true, true] rfl⟩
                 ·refine l_q T (wanted_yes rfl rfl (T.ev 0 rfl) h23) rfl rfl rfl (rn_move rfl (T.ev 31 rfl)) ?_; clear T ac; intro ac T
                  refine l_q (v := (.pointer (some ⟨g5, 6, none⟩))) T (wanted_yes rfl rfl (T.ev 1 rfl) h23) rfl rfl rfl (rn_fieldAddr (off := 6) rfl (T.ev 38 rfl) (fun _ _ _ => by kernel_rfl)) ?_; clear T ac; intro ac T
                  refine l_q T (wanted_yes rfl rfl (T.ev 2 rfl) h23) rfl rfl rfl (rn_one (Mem.nth M 1 rfl) rfl (T.ev 0 rfl) rfl) ?_; clear T ac; intro ac T
                  refine l_q T (wanted_yes rfl rfl (T.ev 3 rfl) h23) rfl rfl rfl (rn_neq rfl (T.ev 2 rfl) (T.ev 0 rfl)) ?_; clear T ac; intro ac T
                  refine l_q T rfl rfl rfl rfl (rn_pick0 rfl (T.ev 4 rfl) h23 (T.ev 0 rfl)) ?_; clear T ac; intro ac T
                  refine l_q T rfl rfl rfl rfl (rn_move rfl (T.ev 0 rfl)) ?_; clear T ac; intro ac T
                  rcases Bool.eq_false_or_eq_true (!(decide (((worstT jm ([])).1) = eky.wo))) with h24 | h24
                  ·replace h24 : ¬ (((worstT jm ([])).1) = eky.wo) := by first | (rw [Bool.not_eq_true'] at h24; exact of_decide_eq_false h24) | simpa using h24
                   refine l_pass T (wanted_no rfl rfl (T.ev 0 rfl) (by simp [h24])) rfl rfl rfl ?_; clear T ac; intro ac T
                   refine l_pass T (wanted_no rfl rfl (T.ev 1 rfl) (by simp [h24])) rfl rfl rfl ?_; clear T ac; intro ac T
                   refine l_pass T (wanted_no rfl rfl (T.ev 2 rfl) (by simp [h24])) rfl rfl rfl ?_; clear T ac; intro ac T
                   refine l_pass T (wanted_no rfl rfl (T.ev 3 rfl) (by simp [h24])) rfl rfl rfl ?_; clear T ac; intro ac T
                   refine l_pass T (wanted_no rfl rfl (T.ev 4 rfl) (by simp [h24])) rfl rfl rfl ?_; clear T ac; intro ac T
                   refine l_pass T (wanted_no rfl rfl (T.ev 5 rfl) (by simp [h24])) rfl rfl rfl ?_; clear T ac; intro ac T
                   refine l_pass T (wanted_no rfl rfl (T.ev 6 rfl) (by simp [h24])) rfl rfl rfl ?_; clear T ac; intro ac T
                   refine l_q T rfl rfl rfl rfl (rn_pick1 rfl (T.ev 7 rfl) (by simp [h24]) evc) ?_; clear T ac; intro ac T
                   refine l_q T rfl rfl rfl rfl (rn_move rfl (T.ev 0 rfl)) ?_; clear T ac; intro ac T
                   refine l_pass T (wanted_no rfl rfl (T.ev 0 rfl) rfl) rfl rfl rfl ?_; clear T ac; intro ac T
                   refine l_pass T (wanted_no rfl rfl (T.ev 1 rfl) rfl) rfl rfl rfl ?_; clear T ac; intro ac T
                   refine l_pass T (wanted_no rfl rfl (T.ev 2 rfl) rfl) rfl rfl rfl ?_; clear T ac; intro ac T
                   refine l_pass T (wanted_no rfl rfl (T.ev 3 rfl) rfl) rfl rfl rfl ?_; clear T ac; intro ac T
                   refine l_pass T (wanted_no rfl rfl (T.ev 4 rfl) rfl) rfl rfl rfl ?_; clear T ac; intro ac T
                   refine l_pass T (wanted_no rfl rfl (T.ev 5 rfl) rfl) rfl rfl rfl ?_; clear T ac; intro ac T
                   refine l_pass T (wanted_no rfl rfl (T.ev 6 rfl) rfl) rfl rfl rfl ?_; clear T ac; intro ac T
                   refine l_q T rfl rfl rfl rfl (rn_pick1 rfl (T.ev 7 rfl) rfl evc) ?_; clear T ac; intro ac T
                   refine wpList_nil ?_
                   replace T := T.pick [0, 1, 2, 3, 4, 5, 6, 7, 10, 11, 12, 13, 14, 15, 16, 19, 20, 21, 22, 25, 26, 27, 28, 29, 30, 31, 32, 33, 36, 37, 40, 41, 44, 45, 57, 58, 59, 60] rfl
                   replace M := M.mask [false, true, true] rfl
                   exact ⟨(T.pick (E' := [(4, .pointer (some ⟨g1, 0, none⟩)), (6, .slice none 0 0), (7, .int .i64 1), (8, .pointer (some ⟨g5, 0, none⟩)), (229, .bool true)]) [34, 35, 36, 37, 0] rfl).as (by (try rw [show (!(decide ((checkStrokesJ jm ([])) = 0))) = false from (by simp [h19])]); (try rw [show (!(decide (((worstT jm ([])).2) = 0))) = false from (by simp [h20])]); (try rw [show (!(decide (((spoiledT jm ([])).2) = 0))) = false from (by simp [h21])]); (try rw [show (!(decide (((fineT jm ([])).2) = 0))) = false from (by simp [h22])]); (try rw [show (!((decide (((afT jm ([])).p0) = eky.a0)) && ((decide (((afT jm ([])).p1) = eky.a1)) && ((decide (((afT jm ([])).t0) = eky.b0)) && ((decide (((afT jm ([])).t1) = eky.b1)) && ((decide (((afT jm ([])).r0) = eky.c0)) && (decide (((afT jm ([])).r1) = eky.c1)))))))) = false from h23]); (try rw [show (!(decide (((worstT jm ([])).1) = eky.wo))) = true from (by simp [h24])]); (try rfl)), M.mask [true, true] rfl⟩
                  ·replace h24 : ((worstT jm ([])).1) = eky.wo := by first | (rw [Bool.not_eq_false'] at h24; exact of_decide_eq_true h24) | simpa using h24
                   refine l_q T (wanted_yes rfl rfl (T.ev 0 rfl) (by simp [h24])) rfl rfl rfl (rn_move rfl (T.ev 35 rfl)) ?_; clear T ac; intro ac T
                   refine l_q (v := (.pointer (some ⟨g5, 8, none⟩))) T (wanted_yes rfl rfl (T.ev 1 rfl) (by simp [h24])) rfl rfl rfl (rn_fieldAddr (off := 8) rfl (T.ev 44 rfl) (fun _ _ _ => by kernel_rfl)) ?_; clear T ac; intro ac T
                   refine l_q T (wanted_yes rfl rfl (T.ev 2 rfl) (by simp [h24])) rfl rfl rfl (rn_one (Mem.nth M 1 rfl) rfl (T.ev 0 rfl) rfl) ?_; clear T ac; intro ac T
                   refine l_q (v := (.pointer (some ⟨g5, 10, none⟩))) T (wanted_yes rfl rfl (T.ev 3 rfl) (by simp [h24])) rfl rfl rfl (rn_fieldAddr (off := 10) rfl (T.ev 46 rfl) (fun _ _ _ => by kernel_rfl)) ?_; clear T ac; intro ac T
                   refine l_q T (wanted_yes rfl rfl (T.ev 4 rfl) (by simp [h24])) rfl rfl rfl (rn_one (Mem.nth M 1 rfl) rfl (T.ev 0 rfl) rfl) ?_; clear T ac; intro ac T
                   refine l_w (wanted_yes rfl rfl (T.ev 5 rfl) (by simp [h24])) ?_; intro K hK
                   refine ow_call (first := []) (cap := []) T rfl rfl rfl rfl evf (.cons (T.ev 2 rfl) (.cons (T.ev 0 rfl) .nil)) Try.func62 rfl rfl ?_
                   refine Calls.mono (told_x eky.th eky.tr _) ?_
                   clear T
                   rintro e wc ⟨rfl, hb⟩
                   intro ac T
                   replace M := M.call hb; clear hb
                   refine sh_out hK _ _ ?_; clear hK K
                   refine l_q T (wanted_yes rfl rfl (T.ev 6 rfl) (by simp [h24])) rfl rfl rfl (rn_neq rfl (T.ev 5 rfl) (T.ev 0 rfl)) ?_; clear T ac; intro ac T
                   refine l_q T rfl rfl rfl rfl (rn_pick0 rfl (T.ev 7 rfl) (by simp [h24]) (T.ev 0 rfl)) ?_; clear T ac; intro ac T
                   refine l_q T rfl rfl rfl rfl (rn_move rfl (T.ev 0 rfl)) ?_; clear T ac; intro ac T
                   rcases Bool.eq_false_or_eq_true (!(decide (((spoiledT jm ([])).1) = (toldT eky.th eky.tr)))) with h25 | h25
                   ·replace h25 : ¬ (((spoiledT jm ([])).1) = (toldT eky.th eky.tr)) := by first | (rw [Bool.not_eq_true'] at h25; exact of_decide_eq_false h25) | simpa using h25
                    refine l_pass T (wanted_no rfl rfl (T.ev 0 rfl) (by simp [h25])) rfl rfl rfl ?_; clear T ac; intro ac T
                    refine l_pass T (wanted_no rfl rfl (T.ev 1 rfl) (by simp [h25])) rfl rfl rfl ?_; clear T ac; intro ac T
                    refine l_pass T (wanted_no rfl rfl (T.ev 2 rfl) (by simp [h25])) rfl rfl rfl ?_; clear T ac; intro ac T
                    refine l_pass T (wanted_no rfl rfl (T.ev 3 rfl) (by simp [h25])) rfl rfl rfl ?_; clear T ac; intro ac T
                    refine l_pass T (wanted_no rfl rfl (T.ev 4 rfl) (by simp [h25])) rfl rfl rfl ?_; clear T ac; intro ac T
                    refine l_pass T (wanted_no rfl rfl (T.ev 5 rfl) (by simp [h25])) rfl rfl rfl ?_; clear T ac; intro ac T
                    refine l_pass T (wanted_no rfl rfl (T.ev 6 rfl) (by simp [h25])) rfl rfl rfl ?_; clear T ac; intro ac T
                    refine l_q T rfl rfl rfl rfl (rn_pick1 rfl (T.ev 7 rfl) (by simp [h25]) evc) ?_; clear T ac; intro ac T
                    refine wpList_nil ?_
                    replace T := T.pick [0, 1, 2, 3, 4, 5, 6, 7, 10, 11, 12, 13, 14, 15, 16, 19, 20, 21, 22, 25, 26, 27, 28, 29, 30, 31, 32, 33, 36, 37, 40, 41, 44, 45, 57, 58, 59, 60] rfl
                    replace M := M.mask [false, true, true] rfl
                    exact ⟨(T.pick (E' := [(4, .pointer (some ⟨g1, 0, none⟩)), (6, .slice none 0 0), (7, .int .i64 1), (8, .pointer (some ⟨g5, 0, none⟩)), (229, .bool true)]) [34, 35, 36, 37, 0] rfl).as (by (try rw [show (!(decide ((checkStrokesJ jm ([])) = 0))) = false from (by simp [h19])]); (try rw [show (!(decide (((worstT jm ([])).2) = 0))) = false from (by simp [h20])]); (try rw [show (!(decide (((spoiledT jm ([])).2) = 0))) = false from (by simp [h21])]); (try rw [show (!(decide (((fineT jm ([])).2) = 0))) = false from (by simp [h22])]); (try rw [show (!((decide (((afT jm ([])).p0) = eky.a0)) && ((decide (((afT jm ([])).p1) = eky.a1)) && ((decide (((afT jm ([])).t0) = eky.b0)) && ((decide (((afT jm ([])).t1) = eky.b1)) && ((decide (((afT jm ([])).r0) = eky.c0)) && (decide (((afT jm ([])).r1) = eky.c1)))))))) = false from h23]); (try rw [show (!(decide (((worstT jm ([])).1) = eky.wo))) = false from (by simp [h24])]); (try rw [show (!(decide (((spoiledT jm ([])).1) = (toldT eky.th eky.tr)))) = true from (by simp [h25])]); (try rfl)), M.mask [true, true] rfl⟩
                   ·replace h25 : ((spoiledT jm ([])).1) = (toldT eky.th eky.tr) := by first | (rw [Bool.not_eq_false'] at h25; exact of_decide_eq_true h25) | simpa using h25
                    refine l_q T (wanted_yes rfl rfl (T.ev 0 rfl) (by simp [h25])) rfl rfl rfl (rn_move rfl (T.ev 42 rfl)) ?_; clear T ac; intro ac T
                    refine l_q (v := (.pointer (some ⟨g5, 9, none⟩))) T (wanted_yes rfl rfl (T.ev 1 rfl) (by simp [h25])) rfl rfl rfl (rn_fieldAddr (off := 9) rfl (T.ev 53 rfl) (fun _ _ _ => by kernel_rfl)) ?_; clear T ac; intro ac T
                    refine l_q T (wanted_yes rfl rfl (T.ev 2 rfl) (by simp [h25])) rfl rfl rfl (rn_one (Mem.nth M 1 rfl) rfl (T.ev 0 rfl) rfl) ?_; clear T ac; intro ac T
                    refine l_q (v := (.pointer (some ⟨g5, 10, none⟩))) T (wanted_yes rfl rfl (T.ev 3 rfl) (by simp [h25])) rfl rfl rfl (rn_fieldAddr (off := 10) rfl (T.ev 55 rfl) (fun _ _ _ => by kernel_rfl)) ?_; clear T ac; intro ac T
                    refine l_q T (wanted_yes rfl rfl (T.ev 4 rfl) (by simp [h25])) rfl rfl rfl (rn_one (Mem.nth M 1 rfl) rfl (T.ev 0 rfl) rfl) ?_; clear T ac; intro ac T
                    refine l_w (wanted_yes rfl rfl (T.ev 5 rfl) (by simp [h25])) ?_; intro K hK
                    refine ow_call (first := []) (cap := []) T rfl rfl rfl rfl evf (.cons (T.ev 2 rfl) (.cons (T.ev 0 rfl) .nil)) Try.func62 rfl rfl ?_
                    refine Calls.mono (told_x eky.fi eky.tr _) ?_
                    clear T
                    rintro e wc ⟨rfl, hb⟩
                    intro ac T
                    replace M := M.call hb; clear hb
                    refine sh_out hK _ _ ?_; clear hK K
                    refine l_q T (wanted_yes rfl rfl (T.ev 6 rfl) (by simp [h25])) rfl rfl rfl (rn_neq rfl (T.ev 5 rfl) (T.ev 0 rfl)) ?_; clear T ac; intro ac T
                    refine l_q T rfl rfl rfl rfl (rn_pick0 rfl (T.ev 7 rfl) (by simp [h25]) (T.ev 0 rfl)) ?_; clear T ac; intro ac T
                    refine wpList_nil ?_
                    replace T := T.pick [0, 1, 2, 3, 4, 5, 6, 7, 10, 11, 12, 13, 14, 15, 16, 19, 20, 21, 22, 25, 26, 27, 28, 29, 30, 31, 32, 33, 36, 37, 40, 41, 44, 45, 57, 58, 59, 60] rfl
                    replace M := M.mask [false, true, true] rfl
                    exact ⟨(T.pick (E' := [(4, .pointer (some ⟨g1, 0, none⟩)), (6, .slice none 0 0), (7, .int .i64 1), (8, .pointer (some ⟨g5, 0, none⟩)), (229, .bool (!(decide (((fineT jm ([])).1) = (toldT eky.fi eky.tr)))))]) [34, 35, 36, 37, 0] rfl).as (by (try rw [show (!(decide ((checkStrokesJ jm ([])) = 0))) = false from (by simp [h19])]); (try rw [show (!(decide (((worstT jm ([])).2) = 0))) = false from (by simp [h20])]); (try rw [show (!(decide (((spoiledT jm ([])).2) = 0))) = false from (by simp [h21])]); (try rw [show (!(decide (((fineT jm ([])).2) = 0))) = false from (by simp [h22])]); (try rw [show (!((decide (((afT jm ([])).p0) = eky.a0)) && ((decide (((afT jm ([])).p1) = eky.a1)) && ((decide (((afT jm ([])).t0) = eky.b0)) && ((decide (((afT jm ([])).t1) = eky.b1)) && ((decide (((afT jm ([])).r0) = eky.c0)) && (decide (((afT jm ([])).r1) = eky.c1)))))))) = false from h23]); (try rw [show (!(decide (((worstT jm ([])).1) = eky.wo))) = false from (by simp [h24])]); (try rw [show (!(decide (((spoiledT jm ([])).1) = (toldT eky.th eky.tr)))) = false from (by simp [h25])]); (try rfl)), M.mask [true, true] rfl⟩
            ·clear T M
             rintro ac wc ⟨T, M⟩
             refine wp_cond_split (T.ev 4 rfl) ?_ ?_
             ·intro h26
              (try have h26' := h26; try simp only [Bool.and_eq_true, Bool.or_eq_true, Bool.not_eq_true', Bool.and_eq_false_imp, Bool.or_eq_false_iff, decide_eq_true_eq, decide_eq_false_iff_not] at h26')
              refine wp_seq ?_
              refine wp_region_lit ?_
              refine l_q T rfl rfl rfl rfl (rn_assign rfl evc) ?_; clear T ac; intro ac T
              refine wpList_nil ?_
              replace T := T.pick [0] rfl
              replace M := M.mask [false, false] rfl
              refine nm_then ?_
              refine wp_ret ?_
              refine rt_then ?_
              refine rt_blk ?_
              refine rt_then ?_
              refine rt_then ?_
              refine rt_blk ?_
              refine rt_then ?_
              refine rt_1 T rfl (T.ev 0 rfl) ?_
              exfalso
              rw [tp2] at h26
              simp [tp1, tp3, tp4, tp5, hlaw.a0, hlaw.a1, hlaw.b0, hlaw.b1, hlaw.c0, hlaw.c1, hlaw.wo, hlaw.th, hlaw.fi] at h26
             ·intro h26
              (try have h26' := h26; try simp only [Bool.and_eq_true, Bool.or_eq_true, Bool.not_eq_true', Bool.and_eq_false_imp, Bool.or_eq_false_iff, decide_eq_true_eq, decide_eq_false_iff_not] at h26')
              refine wp_skip ?_
              refine nm_then ?_
              refine wp_seq ?_
              refine wp_seq ?_
              refine wp_region_lit ?_
              refine l_q T rfl rfl rfl rfl (rn_rowO (Mem.nth M 1 rfl) rfl (T.ev 0 rfl) rfl) ?_; clear T ac; intro ac T
              refine l_w rfl ?_; intro K hK
              refine ow_call (first := []) (cap := []) T rfl rfl rfl rfl evf (.cons (T.ev 0 rfl) .nil) Try.func46 rfl rfl ?_
              refine Calls.mono (Passes_any jm _ _ _ (Sjm.rd M (.cons _ (.cons _ (subL (List.Sublist.refl _))))) (by first | omega | (dsimp only [Jb.one]; omega))) ?_
              clear T
              rintro e wc ⟨rfl, hb⟩
              intro ac T
              replace M := M.call hb; clear hb
              refine sh_out hK _ _ ?_; clear hK K
              refine l_q T rfl rfl rfl rfl (rn_move rfl (T.ev 0 rfl)) ?_; clear T ac; intro ac T
              refine l_q T rfl rfl rfl rfl (rn_extract rfl (T.ev 0 rfl) rfl) ?_; clear T ac; intro ac T
              refine l_q T rfl rfl rfl rfl (rn_extract rfl (T.ev 1 rfl) rfl) ?_; clear T ac; intro ac T
              refine l_q T rfl rfl rfl rfl (rn_assign rfl (T.ev 1 rfl)) ?_; clear T ac; intro ac T
              refine l_q T rfl rfl rfl rfl (rn_assign rfl (T.ev 1 rfl)) ?_; clear T ac; intro ac T
              refine wpList_nil ?_
              replace T := T.pick [0, 1, 7, 8, 9, 10] rfl
              refine nm_then ?_
              refine cut_seq (fun ac wc => Tm ac 252 [(4, .pointer (some ⟨g1, 0, none⟩)), (7, .int .i64 1), (239, .int .i64 ((passesT jm).2)), (240, .bool (!(decide (((passesT jm).2) = 0)))), (241, .bool (!(decide (((passesT jm).2) = 0)))), (249, .bool ((!(decide (((passesT jm).2) = 0))) || (!(decide (((passesT jm).1) = (toldT eky.pa eky.tr)))))), (250, .bool ((!(decide (((passesT jm).2) = 0))) || (!(decide (((passesT jm).1) = (toldT eky.pa eky.tr))))))] ∧ Mem w noEx wc ((g1, .cells (jobL jm Aq1 (cu2 - 0))) :: (Ix ++ Ju6))) ?_ ?_
              ·refine wp_region_lit ?_
               refine l_q T rfl rfl rfl rfl (rn_move rfl (T.ev 3 rfl)) ?_; clear T ac; intro ac T
               refine l_q (v := (.int .i64 0)) T rfl rfl rfl rfl (rn_lenS rfl Try.underlying31 (T.ev 0 rfl)) ?_; clear T ac; intro ac T
               refine l_q (v := (.bool true)) T rfl rfl rfl rfl (rn_neqof (rn_eql rfl (T.ev 0 rfl) evc) (by simp)) ?_; clear T ac; intro ac T
               refine l_q T rfl rfl rfl rfl (rn_move rfl (T.ev 0 rfl)) ?_; clear T ac; intro ac T
               refine l_q T (wanted_yes rfl rfl (T.ev 0 rfl) rfl) rfl rfl rfl (rn_move rfl (T.ev 4 rfl)) ?_; clear T ac; intro ac T
               refine l_q T (wanted_yes rfl rfl (T.ev 1 rfl) rfl) rfl rfl rfl (rn_neq rfl (T.ev 0 rfl) evc) ?_; clear T ac; intro ac T
               refine l_q T (wanted_yes rfl rfl (T.ev 2 rfl) rfl) rfl rfl rfl (rn_move rfl (T.ev 0 rfl)) ?_; clear T ac; intro ac T
               rcases Bool.eq_false_or_eq_true (!(decide (((passesT jm).2) = 0))) with h27 | h27
               ·replace h27 : ¬ (((passesT jm).2) = 0) := by first | (rw [Bool.not_eq_true'] at h27; exact of_decide_eq_false h27) | simpa using h27
                refine l_pass T (wanted_no rfl rfl (T.ev 0 rfl) (by simp [h27])) rfl rfl rfl ?_; clear T ac; intro ac T
                refine l_pass T (wanted_no rfl rfl (T.ev 1 rfl) (by simp [h27])) rfl rfl rfl ?_; clear T ac; intro ac T
                refine l_pass T (wanted_no rfl rfl (T.ev 2 rfl) (by simp [h27])) rfl rfl rfl ?_; clear T ac; intro ac T
                refine l_pass T (wanted_no rfl rfl (T.ev 3 rfl) (by simp [h27])) rfl rfl rfl ?_; clear T ac; intro ac T
                refine l_pass T (wanted_no rfl rfl (T.ev 4 rfl) (by simp [h27])) rfl rfl rfl ?_; clear T ac; intro ac T
                refine l_pass T (wanted_no rfl rfl (T.ev 5 rfl) (by simp [h27])) rfl rfl rfl ?_; clear T ac; intro ac T
                refine l_pass T (wanted_no rfl rfl (T.ev 6 rfl) (by simp [h27])) rfl rfl rfl ?_; clear T ac; intro ac T
                refine l_q T (wanted_yes rfl rfl (T.ev 10 rfl) rfl) rfl rfl rfl (rn_pick1 rfl (T.ev 7 rfl) (by simp [h27]) evc) ?_; clear T ac; intro ac T
                refine l_q T rfl rfl rfl rfl (rn_pick1 rfl (T.ev 11 rfl) rfl (T.ev 0 rfl)) ?_; clear T ac; intro ac T
                refine wpList_nil ?_
                replace T := T.pick [0, 1, 2, 3, 4, 5, 6, 7, 8, 9, 10, 11, 18, 20] rfl
                replace M := M.mask [false, true] rfl
                exact ⟨(T.pick (E' := [(4, .pointer (some ⟨g1, 0, none⟩)), (7, .int .i64 1), (239, .int .i64 ((passesT jm).2)), (240, .bool (!(decide (((passesT jm).2) = 0)))), (241, .bool (!(decide (((passesT jm).2) = 0)))), (249, .bool true), (250, .bool true)]) [12, 13, 11, 10, 9, 1, 0] rfl).as (by (try rw [show (!(decide (((passesT jm).2) = 0))) = true from (by simp [h27])]); (try rfl)), M.mask [true] rfl⟩
               ·replace h27 : ((passesT jm).2) = 0 := by first | (rw [Bool.not_eq_false'] at h27; exact of_decide_eq_true h27) | simpa using h27
                refine l_q T (wanted_yes rfl rfl (T.ev 0 rfl) (by simp [h27])) rfl rfl rfl (rn_move rfl (T.ev 8 rfl)) ?_; clear T ac; intro ac T
                refine l_q (v := (.pointer (some ⟨g5, 7, none⟩))) T (wanted_yes rfl rfl (T.ev 1 rfl) (by simp [h27])) rfl rfl rfl (rn_fieldAddr (off := 7) rfl (T.ev 13 rfl) (fun _ _ _ => by kernel_rfl)) ?_; clear T ac; intro ac T
                refine l_q T (wanted_yes rfl rfl (T.ev 2 rfl) (by simp [h27])) rfl rfl rfl (rn_one (Mem.nth M 0 rfl) rfl (T.ev 0 rfl) rfl) ?_; clear T ac; intro ac T
                refine l_q (v := (.pointer (some ⟨g5, 10, none⟩))) T (wanted_yes rfl rfl (T.ev 3 rfl) (by simp [h27])) rfl rfl rfl (rn_fieldAddr (off := 10) rfl (T.ev 15 rfl) (fun _ _ _ => by kernel_rfl)) ?_; clear T ac; intro ac T
                refine l_q T (wanted_yes rfl rfl (T.ev 4 rfl) (by simp [h27])) rfl rfl rfl (rn_one (Mem.nth M 0 rfl) rfl (T.ev 0 rfl) rfl) ?_; clear T ac; intro ac T
                refine l_w (wanted_yes rfl rfl (T.ev 5 rfl) (by simp [h27])) ?_; intro K hK
                refine ow_call (first := []) (cap := []) T rfl rfl rfl rfl evf (.cons (T.ev 2 rfl) (.cons (T.ev 0 rfl) .nil)) Try.func62 rfl rfl ?_
                refine Calls.mono (told_x eky.pa eky.tr _) ?_
                clear T
                rintro e wc ⟨rfl, hb⟩
                intro ac T
                replace M := M.call hb; clear hb
                refine sh_out hK _ _ ?_; clear hK K
                refine l_q T (wanted_yes rfl rfl (T.ev 6 rfl) (by simp [h27])) rfl rfl rfl (rn_neq rfl (T.ev 5 rfl) (T.ev 0 rfl)) ?_; clear T ac; intro ac T
                refine l_q T (wanted_yes rfl rfl (T.ev 10 rfl) rfl) rfl rfl rfl (rn_pick0 rfl (T.ev 7 rfl) (by simp [h27]) (T.ev 0 rfl)) ?_; clear T ac; intro ac T
                refine l_q T rfl rfl rfl rfl (rn_pick1 rfl (T.ev 11 rfl) rfl (T.ev 0 rfl)) ?_; clear T ac; intro ac T
                refine wpList_nil ?_
                replace T := T.pick [0, 1, 2, 3, 4, 5, 6, 7, 8, 9, 10, 11, 18, 20] rfl
                exact ⟨(T.pick (E' := [(4, .pointer (some ⟨g1, 0, none⟩)), (7, .int .i64 1), (239, .int .i64 ((passesT jm).2)), (240, .bool (!(decide (((passesT jm).2) = 0)))), (241, .bool (!(decide (((passesT jm).2) = 0)))), (249, .bool (!(decide (((passesT jm).1) = (toldT eky.pa eky.tr))))), (250, .bool (!(decide (((passesT jm).1) = (toldT eky.pa eky.tr)))))]) [12, 13, 11, 10, 9, 1, 0] rfl).as (by (try rw [show (!(decide (((passesT jm).2) = 0))) = false from (by simp [h27])]); (try rfl)), M.mask [false, true] rfl⟩
              ·clear T M
               rintro ac wc ⟨T, M⟩
               refine wp_cond_split (T.ev 6 rfl) ?_ ?_
               ·intro h28
                (try have h28' := h28; try simp only [Bool.and_eq_true, Bool.or_eq_true, Bool.not_eq_true', Bool.and_eq_false_imp, Bool.or_eq_false_iff, decide_eq_true_eq, decide_eq_false_iff_not] at h28')
                refine wp_seq ?_
                refine wp_region_lit ?_
                refine l_q T rfl rfl rfl rfl (rn_assign rfl evc) ?_; clear T ac; intro ac T
                refine wpList_nil ?_
                replace T := T.pick [0] rfl
                replace M := M.mask [false] rfl
                refine nm_then ?_
                refine wp_ret ?_
                refine rt_then ?_
                refine rt_blk ?_
                refine rt_then ?_
                refine rt_then ?_
                refine rt_blk ?_
                refine rt_then ?_
                refine rt_1 T rfl (T.ev 0 rfl) ?_
                exfalso
                have hp9 : passesT jm = (passesJ jm jm.p0 jm.p1, 0) := if_pos (check_of_good hgm)
                have e9 : passesJ jm (jm.st.after []).p0 (jm.st.after []).p1 = passesJ jm jm.p0 jm.p1 := rfl
                simp [hp9, hlaw.pa, e9] at h28
               ·intro h28
                (try have h28' := h28; try simp only [Bool.and_eq_true, Bool.or_eq_true, Bool.not_eq_true', Bool.and_eq_false_imp, Bool.or_eq_false_iff, decide_eq_true_eq, decide_eq_false_iff_not] at h28')
                refine wp_skip ?_
                refine nm_then ?_
                refine wp_region_lit ?_
                refine l_q T rfl rfl rfl rfl (rn_assign rfl evc) ?_; clear T ac; intro ac T
                refine wpList_nil ?_
                replace T := T.pick [0, 1, 2, 3, 4, 5, 6] rfl
                refine nm_blk ?_
                refine nm_then ?_
                refine wp_region_lit ?_
                refine l_q T rfl rfl rfl rfl (rn_move rfl (T.ev 2 rfl)) ?_; clear T ac; intro ac T
                refine l_q (v := (.int .i64 2)) T rfl rfl rfl rfl (rn_ofI (rn_add rfl (T.ev 0 rfl) evc (by omega)) (by rfl)) ?_; clear T ac; intro ac T
                refine l_q (v := (.int .i64 2)) (T.pick [0, 1, 2, 3, 5, 6, 7, 8] rfl) rfl rfl rfl rfl (rn_assign rfl (T.ev 0 rfl)) ?_; clear T ac; intro ac T
                refine wpList_nil ?_
                replace T := T.pick [0, 3, 4, 5, 6, 7, 8] rfl
                refine nm_then ?_
                refine rounds_S ?_
                refine wp_seq ?_
                refine wp_seq ?_
                refine wp_region_lit ?_
                refine l_q T rfl rfl rfl rfl (rn_move rfl (T.ev 0 rfl)) ?_; clear T ac; intro ac T
                refine l_q (v := (.bool false)) T rfl rfl rfl rfl (rn_neqof (rn_lss rfl (T.ev 0 rfl) evc) (by simp)) ?_; clear T ac; intro ac T
                refine wpList_nil ?_
                replace T := T.pick [0, 2, 3, 4, 5, 6, 7, 8] rfl
                refine nm_then ?_
                refine wp_cond_false (T.ev 0 rfl) ?_
                refine wp_exit ?_
                refine ex_then ?_
                refine ex_then ?_
                refine ex_hit ?_
                refine nm_then ?_
                refine wp_seq ?_
                refine wp_region_lit ?_
                refine l_w rfl ?_; intro K hK
                refine ow_call (first := []) (cap := []) T rfl rfl rfl rfl evf .nil Try.func15 rfl rfl ?_
                refine Calls.mono (tuned_any _) ?_
                clear T
                rintro e wc ⟨rfl, hb⟩
                intro ac T
                replace M := M.call hb; clear hb
                refine sh_out hK _ _ ?_; clear hK K
                refine l_q T rfl rfl rfl rfl (rn_assign rfl (T.ev 0 rfl)) ?_; clear T ac; intro ac T
                refine wpList_nil ?_
                replace T := T.pick [0] rfl
                replace M := M.mask [false] rfl
                refine nm_then ?_
                refine wp_ret ?_
                refine rt_1 T rfl (T.ev 0 rfl) ?_
                exact ⟨rfl, M.below⟩

end Go.Proofs.Ythlpceoajhcliaa

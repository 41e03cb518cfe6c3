/-
  The law ReedTrue, walked.
-/
import Derived.Test.YtfhmbmhennfojaaMReedTrue1
import Derived.Test.YtfhmbmhennfojaaMReedTrue2
import Derived.Test.YtfhmbmhennfojaaMReedTrue3
namespace Go.Proofs.Ytfhmbmhennfojaa
set_option linter.unusedSimpArgs false
set_option linter.unusedVariables false
open Go.RowKit

theorem shf_nil (sh : List (Int × Int)) : ShF (sh.take 0) [] := ⟨rfl, fun i s n h => by simp at h⟩
theorem rb_and (v : Int) (p q : Bool) : rightB v (p && q) = bif p then rightB v q else rightB v false := by cases p <;> rfl
theorem Sl.spT {e n c size : Nat} {A : Option Addr} {xs : List Value} {I : List (Nat × BA)} (h : Sl e size (.slice A n c) n xs I) (hl : xs.length = n * size) : ∃ b o, ∀ (w : World) (ex : Nat → Prop), Sp w ex I A n size b o xs := by
  rcases h with ⟨h1, rfl, rfl, rfl⟩ | ⟨g, cap, h1, rfl⟩
  · exact ⟨0, 0, fun w ex => Sp.nil⟩
  · injection h1 with h1 _ h2
    subst h1
    exact ⟨g, 0, fun w ex => Sp.row hl⟩
theorem shf_bd {j : Jb} (hj : j.good) {l : List Int} (h : ShF (shx j.sh) l) : ∀ s ∈ l, -1000 ≤ s ∧ s ≤ 1000 := fun s hs => by
  obtain ⟨q, hq, hb⟩ := h.fst hs
  have := (shx_ex hj).2 q hq
  omega
theorem shf_len {j : Jb} (hj : j.good) {l : List Int} (h : ShF (shx j.sh) l) : l.length ≤ 4 := by
  rw [h.1]
  have := hj.few
  unfold shx
  split
  · decide
  · omega
theorem after_upT {j : Jb} (hj : j.good) {l : List Int} (hl : l.length ≤ 6) : (j.st.after l).upTo 100000 := by
  have h0 : j.st.upTo 1000 := by
    obtain ⟨g1, g2, g3, g4, g5, g6, g7, g8, -, -, -, -⟩ := hj
    constructor <;> dsimp only [Jb.st] <;> omega
  obtain ⟨h1, h2, h3, h4, h5, h6, h7, h8, h9, h10, h11, h12, h13, h14⟩ := after_up h0 l
  constructor <;> omega
def ShiftsPost (bp : Nat) (j : Jb) (w : World) (e : Ending) (w' : World) : Prop :=
  ∃ (l : List Int) (A : Option Addr) (c : Nat) (s : Int) (I : List (Nat × BA)) (b o : Nat), e = .returned (.slice A l.length c) ∧ ShF (shx j.sh) l ∧ u64ok s ∧ (∀ (w : World) (ex : Nat → Prop), Sp w ex I A l.length 1 b o (ic l)) ∧ Mem w (fun b => b = bp) w' (I ++ [(bp, .cells [.int .u64 s])])
theorem shf_one : ShF (shx []) [0] := ⟨rfl, fun i s n hs hn => by
  cases i with
  | zero => simp [shx] at hs hn; subst hs hn; decide
  | succ i => simp at hn⟩
theorem shf_all {sh : List (Int × Int)} {l : List Int} (h : ShF (sh.take sh.length) l) (hl : l.length ≠ 0) : ShF (shx sh) l := by
  rw [List.take_length] at h
  unfold shx
  rw [if_neg (fun e => by rw [e] at h; exact hl h.1)]
  exact h
def HearTrue (j : Jb) (a : Int) (w : World) (e : Ending) (w' : World) : Prop := ∃ h0 h1 : Int, e = .returned (.tuple #[R2 h0 h1, .int .i64 0]) ∧ (h0 ≤ a ∧ a ≤ h1) ∧ hasB j.p0 j.p1 h0 h1 = true ∧ Below w.heap.size w w'
theorem Hear_true (k : Jb) (A : Option Addr) (c : Nat) (a x : Int) (w : World) (hr : Rd w w.heap.size 2 A k.sh.length (rc k.sh)) (h : k.good) (ha : k.p0 ≤ a ∧ a ≤ k.p1) (hx : -k.me ≤ x ∧ x ≤ k.me) :
    Calls Try.prog 10 #[jobV k A c, .int .i64 (a + x)] w (HearTrue k a w) := by
  have hf := h.few
  obtain ⟨h0, h1, he, hh⟩ := hear_in h ha hx
  have h9 := Hear_any k A c (a + x) w hr (by omega)
  rw [he] at h9
  exact h9.mono fun e w' ⟨e1, e2⟩ => ⟨h0, h1, e1, hh.1, hh.2, e2⟩


set_option maxRecDepth 100000 in
set_option maxHeartbeats 1000000 in
theorem shifted_any (s : Int) (bp : Nat) (j : Jb) (A : Option Addr) (c : Nat) (w : World) (hj : j.good) (hr : Rd w w.heap.size 2 A j.sh.length (rc j.sh)) (hne : ∀ b o, A = some ⟨b, o, none⟩ → b ≠ bp) (hp : Bk w bp #[.int .u64 s]) (hs : u64ok s) :
    Calls Try.prog 8 #[.pointer (some ⟨bp, 0, none⟩), jobV j A c] w (ShiftsPost bp j w) := by
  obtain ⟨bJ, oJ, SJ⟩ := Sp.oldEx hr hne
  have hfw := hj.few
  refine px_enter (fun b => b = bp) Try.func8 rfl 29 rfl [.pointer (some ⟨bp, 0, none⟩), .agg #[.int .i64 j.p0, .int .i64 j.p1, .int .i64 j.t0, .int .i64 j.t1, .int .i64 j.r0, .int .i64 j.r1, .int .i64 j.u0, .int .i64 j.u1, .int .i64 j.d0, .int .i64 j.d1, .int .i64 j.a0, .int .i64 j.a1, .int .i64 j.b0, .int .i64 j.b1, .int .i64 j.le, .slice A j.sh.length c, .int .i64 j.wi, .int .i64 j.me]] rfl rfl (Mem.initEx (p := .cells [.int .u64 s]) hp) ?_
  intro ac wc T M
  refine wp_seq ?_
  refine wp_region_lit ?_
  refine l_w rfl ?_; intro K hK
  refine ow_bx M T rfl rfl rfl rfl (T.ev 1 rfl) rfl ?_; clear M T; intro g1 wc ac M T
  refine sh_out hK _ _ ?_; clear hK K
  refine l_q T rfl rfl rfl rfl (rn_assign rfl evc) ?_; clear T ac; intro ac T
  refine wpList_nil ?_
  replace T := T.pick [1, 2] rfl
  refine nm_then ?_
  refine wp_seq ?_
  refine wp_region_lit ?_
  refine l_q T rfl rfl rfl rfl (rn_assign rfl evc) ?_; clear T ac; intro ac T
  refine wpList_nil ?_
  refine nm_then ?_
  refine wp_seq ?_
  refine wp_seq ?_
  refine wp_region_lit ?_
  refine l_q T rfl rfl rfl rfl (rn_assign rfl evc) ?_; clear T ac; intro ac T
  refine wpList_nil ?_
  refine nm_then ?_
  refine wp_block ?_
  refine wp_loop_n (fun mz ac wc => ∃ (k : Nat) (l : List Int) (B : Option Addr) (d : Nat) (s : Int) (I : List (Nat × BA)), mz = j.sh.length - k ∧ (k ≤ j.sh.length) ∧ (ShF (j.sh.take k) l) ∧ (u64ok s) ∧ (Sl 3 1 (.slice B l.length d) l.length (ic l) I) ∧ Tm ac 29 [(0, .pointer (some ⟨bp, 0, none⟩)), (3, .pointer (some ⟨g1, 0, none⟩)), (5, .slice B l.length d), (6, .int .i64 (k : Int))] ∧ Mem w (fun b => b = bp) wc ((g1, .cells (jobL j A c)) :: (bp, .cells [.int .u64 s]) :: I)) ?_ ?_
  ·exact ⟨_, 0, [], none, 0, _, [], rfl, (by omega), (shf_nil _), hs, (Sl.nil _ _), T.pick [3, 2, 1, 0] rfl, M.mask [true, true] rfl⟩
  ·clear T M
   rintro mz ac wc ⟨k, l, B, d, s, I, hmm1, hk, hq, hs, hsl, T, M⟩
   refine wp_seq ?_
   refine wp_seq ?_
   refine wp_region_lit ?_
   refine l_q T rfl rfl rfl rfl (rn_move rfl (T.ev 3 rfl)) ?_; clear T ac; intro ac T
   refine l_q (v := (.pointer (some ⟨g1, 15, none⟩))) T rfl rfl rfl rfl (rn_fieldAddr (off := 15) rfl (T.ev 2 rfl) (fun _ _ _ => by kernel_rfl)) ?_; clear T ac; intro ac T
   refine l_q T rfl rfl rfl rfl (rn_one (Mem.nth M 0 rfl) rfl (T.ev 0 rfl) rfl) ?_; clear T ac; intro ac T
   refine l_q T rfl rfl rfl rfl (rn_lenS rfl Try.underlying31 (T.ev 0 rfl)) ?_; clear T ac; intro ac T
   refine l_q T rfl rfl rfl rfl (rn_lss rfl (T.ev 3 rfl) (T.ev 0 rfl)) ?_; clear T ac; intro ac T
   refine wpList_nil ?_
   replace T := T.pick [0, 5, 6, 7, 8] rfl
   refine nm_then ?_
   refine wp_if (T.ev 0 rfl) ?_ ?_
   ·intro h1
    obtain ⟨x0, x1, hk1, hd1⟩ := rc_next (l := j.sh) (k := k) (by omega)
    have hll : l.length ≤ 4 := by have := hq.1; rw [List.length_take] at this; omega
    have hbx := hj.sh _ (List.mem_of_getElem? hk1)
    refine wp_skip ?_
    refine nm_then ?_
    refine wp_seq ?_
    refine wp_block ?_
    refine wp_region_lit ?_
    refine l_q T rfl rfl rfl rfl (rn_move rfl (T.ev 3 rfl)) ?_; clear T ac; intro ac T
    refine l_q T rfl rfl rfl rfl (rn_move rfl (T.ev 2 rfl)) ?_; clear T ac; intro ac T
    refine l_q (v := (.pointer (some ⟨g1, 15, none⟩))) T rfl rfl rfl rfl (rn_fieldAddr (off := 15) rfl (T.ev 4 rfl) (fun _ _ _ => by kernel_rfl)) ?_; clear T ac; intro ac T
    refine l_q T rfl rfl rfl rfl (rn_one (Mem.nth M 0 rfl) rfl (T.ev 0 rfl) rfl) ?_; clear T ac; intro ac T
    refine l_q T rfl rfl rfl rfl (rn_move rfl (T.ev 8 rfl)) ?_; clear T ac; intro ac T
    refine l_q T rfl rfl rfl rfl (rn_indexAddr (size := 2) k rfl (T.ev 1 rfl) (T.ev 0 rfl) ⟨_, Try.underlying31, by kernel_rfl⟩ rfl (by omega) (SJ.at0 (by omega))) ?_; clear T ac; intro ac T
    refine l_q (v := (.agg #[.int .i64 x0, .int .i64 x1])) T rfl rfl rfl rfl (rn_rowat (Sp.rcR SJ M (List.nil_sublist _) hk1) rfl (T.ev 0 rfl) rfl) ?_; clear T ac; intro ac T
    refine l_w rfl ?_; intro K hK
    refine ow_call (first := []) (cap := []) T rfl rfl rfl rfl evf (.cons (T.ev 5 rfl) (.cons (T.ev 0 rfl) .nil)) Try.func25 rfl rfl ?_
    refine Calls.mono (inner_any _ bp x0 x1 _ (by omega) (by omega) (by omega) (M.nth 1 rfl) hs) ?_
    clear T
    rintro e wc ⟨xu1, su1, hxu1, hsu1, rfl, hgr, hbk⟩
    intro ac T
    replace M := M.callC (cs' := [.int .u64 su1]) (.tail .head) hgr hbk
    clear hgr hbk
    refine sh_out hK _ _ ?_; clear hK K
    refine l_w rfl ?_; intro K hK
    refine ow_bs (e := 3) [.int .i64 xu1] M T rfl rfl rfl rfl (.cons (T.ev 0 rfl) .nil) (fun _ => by kernel_rfl) ?_; clear M T; intro g2 wc ac M T
    refine sh_out hK _ _ ?_; clear hK K
    refine l_w rfl ?_; intro K hK
    refine ow_app ([(g2, .cells [.int .i64 xu1]), (g1, .cells (jobL j A c)), (bp, .cells [.int .u64 su1])]) Try.info3 hsl M (by first | rfl | simp) T rfl rfl rfl rfl Try.underlying22 rfl rfl rfl (by omega) (T.ev 8 rfl) (T.ev 0 rfl) (nthE_mem (i := 0) rfl) rfl rfl ?_; clear M T; intro ga1 cga1 wc ac M T
    refine sh_out hK _ _ ?_; clear hK K
    refine l_q (v := (.slice (some ⟨ga1, 0, none⟩) (l.length + 1) cga1)) (T.pick [0, 1, 2, 3, 4, 5, 6, 7, 8, 9, 10, 11, 12, 14] rfl) rfl rfl rfl rfl (rn_assign rfl (T.ev 0 rfl)) ?_; clear T ac; intro ac T
    refine wpList_nil ?_
    replace T := T.pick [0, 12, 13, 14] rfl
    replace M := M.mask [true, false, true, true] rfl
    refine nm_blk ?_
    refine nm_then ?_
    refine wp_region_lit ?_
    refine l_q T rfl rfl rfl rfl (rn_move rfl (T.ev 3 rfl)) ?_; clear T ac; intro ac T
    refine l_q T rfl rfl rfl rfl (rn_add rfl (T.ev 0 rfl) evc (by omega)) ?_; clear T ac; intro ac T
    refine l_q (v := (.int .i64 ((k : Int) + 1))) (T.pick [0, 1, 2, 3, 4] rfl) rfl rfl rfl rfl (rn_assign rfl (T.ev 0 rfl)) ?_; clear T ac; intro ac T
    refine wpList_nil ?_
    replace T := T.pick [0, 3, 4, 5] rfl
    refine nm_then ?_
    have e9 : l.length + 1 = (l ++ [xu1]).length := by simp
    rw [e9, ic_snoc] at M
    rw [e9] at T
    clear e9
    exact ⟨_, by omega, (k + 1), (l ++ [xu1]), _, cga1, su1, [(ga1, .row 3 1 (l ++ [xu1]).length (ic (l ++ [xu1])) cga1)], rfl, (by omega), (hq.snoc hk1 (by dsimp only; omega)), hsu1, (Sl.row _ _ _ _ _ _), T.pick [2, 3, 1, 0] rfl, M.perm [1, 2, 0] rfl rfl⟩
   ·intro h1
    refine wp_exit ?_
    refine ex_then ?_
    refine ex_then ?_
    refine ex_hit ?_
    refine nm_then ?_
    refine wp_seq ?_
    refine wp_seq ?_
    refine wp_region_lit ?_
    refine l_q T rfl rfl rfl rfl (rn_move rfl (T.ev 3 rfl)) ?_; clear T ac; intro ac T
    refine l_q T rfl rfl rfl rfl (rn_lenS rfl Try.underlying22 (T.ev 0 rfl)) ?_; clear T ac; intro ac T
    refine l_q T rfl rfl rfl rfl (rn_eql rfl (T.ev 0 rfl) evc) ?_; clear T ac; intro ac T
    refine wpList_nil ?_
    replace T := T.pick [0, 6] rfl
    replace M := M.mask [false, true] rfl
    refine nm_then ?_
    refine wp_if (T.ev 0 rfl) ?_ ?_
    ·intro h2
     refine wp_region_lit ?_
     refine l_w rfl ?_; intro K hK
     refine ow_bs (e := 3) [.int .i64 0] M T rfl rfl rfl rfl (.cons evc .nil) (fun _ => by kernel_rfl) ?_; clear M T; intro g3 wc ac M T
     refine sh_out hK _ _ ?_; clear hK K
     refine l_q (v := (.slice (some ⟨g3, 0, none⟩) 1 1)) (T.pick [0, 1] rfl) rfl rfl rfl rfl (rn_assign rfl (T.ev 0 rfl)) ?_; clear T ac; intro ac T
     refine wpList_nil ?_
     replace T := T.pick [0] rfl
     refine nm_then ?_
     refine wp_seq ?_
     refine wp_region_lit ?_
     refine l_q T rfl rfl rfl rfl (rn_move rfl (T.ev 0 rfl)) ?_; clear T ac; intro ac T
     refine l_q T rfl rfl rfl rfl (rn_assign rfl (T.ev 0 rfl)) ?_; clear T ac; intro ac T
     refine wpList_nil ?_
     replace T := T.pick [0] rfl
     refine nm_then ?_
     refine wp_ret ?_
     refine rt_1 T rfl (T.ev 0 rfl) ?_
     have e9 : j.sh = [] := List.eq_nil_of_length_eq_zero (by have := hq.1; rw [List.length_take] at this; omega)
     refine ⟨[0], _, _, _, [(g3, .cells (ic [0]))], _, _, rfl, by rw [e9]; exact shf_one, hs, fun w ex => Sp.cells (g := g3) (xs := ic [0]) (n := 1) (size := 1) rfl, M.perm [0, 1] rfl rfl⟩
    ·intro h2
     refine wp_skip ?_
     refine nm_then ?_
     refine wp_seq ?_
     refine wp_region_lit ?_
     refine l_q T rfl rfl rfl rfl (rn_move rfl (T.ev 1 rfl)) ?_; clear T ac; intro ac T
     refine l_q T rfl rfl rfl rfl (rn_assign rfl (T.ev 0 rfl)) ?_; clear T ac; intro ac T
     refine wpList_nil ?_
     replace T := T.pick [0] rfl
     refine nm_then ?_
     refine wp_ret ?_
     refine rt_1 T rfl (T.ev 0 rfl) ?_
     have hk9 : k = j.sh.length := by omega
     subst hk9
     obtain ⟨b9, o9, h9⟩ : ∃ b o, ∀ (w : World) (ex : Nat → Prop), Sp w ex I B l.length 1 b o (ic l) := hsl.spT (by simp [ic_length])
     refine ⟨l, B, d, _, I, b9, o9, rfl, shf_all hq (by omega), hs, h9, Mem.swapI (I := [(bp, .cells [.int .u64 s])]) (L := I) (M.mask [true] rfl)⟩

set_option maxRecDepth 100000 in
set_option maxHeartbeats 1000000 in
theorem ReedTrue_any (D : Option Addr) (n d : Nat) (l : List Int) (w : World) (hl : Rd w w.heap.size 1 D n (ic l)) (hm : n ≤ 9223372036854775807) :
    Calls Try.prog 3 #[.slice D n d] w fun e w' => e = .returned (.bool true) ∧ Below w.heap.size w w' := by
  have hll := hl.len1
  obtain ⟨bI, oI, SI⟩ := Sp.old hl
  refine px_enter noEx Try.func3 rfl 205 rfl [.slice D n d] rfl rfl (Mem.init w _) ?_
  intro ac wc T M
  refine wp_seq ?_
  refine wp_region_lit ?_
  refine l_q T rfl rfl rfl rfl (rn_assign rfl evc) ?_; clear T ac; intro ac T
  refine wpList_nil ?_
  replace T := T.pick [1] rfl
  refine nm_then ?_
  refine wp_seq ?_
  refine wp_region_lit ?_
  refine l_q T rfl rfl rfl rfl (rn_move rfl (T.ev 0 rfl)) ?_; clear T ac; intro ac T
  refine l_w rfl ?_; intro K hK
  refine ow_call (first := []) (cap := []) T rfl rfl rfl rfl evf (.cons (T.ev 0 rfl) .nil) Try.func4 rfl rfl ?_
  refine Calls.mono (newPot_any _ _ _ l _ (SI.rd M (List.nil_sublist _)) (by omega)) ?_
  clear T
  rintro e wc ⟨bpu1, su1, hsu1, rfl, N⟩
  intro ac T
  replace M := M.join N; clear N
  replace M := M.mask [true] rfl
  refine sh_out hK _ _ ?_; clear hK K
  refine l_q T rfl rfl rfl rfl (rn_assign rfl (T.ev 0 rfl)) ?_; clear T ac; intro ac T
  refine wpList_nil ?_
  replace T := T.pick [0] rfl
  refine nm_then ?_
  refine wp_seq ?_
  refine wp_region_lit ?_
  refine l_q T rfl rfl rfl rfl (rn_move rfl (T.ev 0 rfl)) ?_; clear T ac; intro ac T
  refine l_w rfl ?_; intro K hK
  refine ow_call (first := []) (cap := []) T rfl rfl rfl rfl evf (.cons (T.ev 0 rfl) (.cons evc (.cons evc .nil))) Try.func5 rfl rfl ?_
  refine Calls.mono (jobOf_any _ bpu1 9 4 _ (by omega) (by omega) (by omega) (by omega) (M.nth 0 rfl) hsu1) ?_
  clear T
  rintro e wc ⟨ju2, Au2, cu2, su2, Iu2, rfl, hmu2, hsu2, hslu2, N⟩
  intro ac T
  have hownu2 := hslu2.own
  obtain ⟨bu2, ou2, Su2⟩ := hslu2.sp (w := w) (ex := noEx) (rc_length _)
  replace M := (M.joinW .head N).swapI
  replace M := M.mask [true] rfl
  clear N hslu2
  have hgu2 := hmu2.good
  have hfewu2 := hgu2.few
  have hpu2 := hgu2.p
  have hmeu2 := hgu2.me
  refine sh_out hK _ _ ?_; clear hK K
  refine l_w rfl ?_; intro K hK
  refine ow_al M T rfl rfl rfl rfl ?_; clear M T; intro g1 wc ac M T
  refine sh_out hK _ _ ?_; clear hK K
  refine l_w rfl ?_; intro K hK
  refine ow_stO M T rfl rfl (T.ev 0 rfl) (T.ev 1 rfl) rfl .head rfl (by simp) rfl (by kernel_rfl) ?_; clear M T; intro wc ac M T
  refine sh_out hK _ _ ?_; clear hK K
  refine wpList_nil ?_
  replace T := T.pick [0, 3] rfl
  refine nm_then ?_
  refine wp_seq ?_
  refine wp_region_lit ?_
  refine l_q T rfl rfl rfl rfl (rn_move rfl (T.ev 1 rfl)) ?_; clear T ac; intro ac T
  refine l_w rfl ?_; intro K hK
  refine ow_call (first := []) (cap := []) T rfl rfl rfl rfl evf (.cons (T.ev 0 rfl) (.cons evc .nil)) Try.func6 rfl rfl ?_
  refine Calls.mono (strokesOf_any _ bpu1 6 _ (by omega) (by omega) (M.nth 1 rfl) hsu2) ?_
  clear T
  rintro e wc ⟨lu3, Au3, cu3, su3, Iu3, rfl, ⟨hfewu3, hqu3⟩, hsu3, hslu3, N⟩
  intro ac T
  obtain ⟨bu3, ou3, Su3⟩ := hslu3.sp (w := w) (ex := noEx) (by simp [ic_length])
  replace M := (M.joinW (.tail .head) N).swapI
  replace M := M.mask [true, true] rfl
  clear N hslu3
  refine sh_out hK _ _ ?_; clear hK K
  refine l_q T rfl rfl rfl rfl (rn_assign rfl (T.ev 0 rfl)) ?_; clear T ac; intro ac T
  refine wpList_nil ?_
  replace T := T.pick [0, 3, 4] rfl
  refine nm_then ?_
  refine cut_seq (fun ac wc => ∃ (xur4_2 : Int), ∃ (yur4_2 : Int), ∃ (zur4_2 : Int), ∃ (sur4_2 : Int), ∃ (lur4_5 : List Int), ∃ (Aur4_5 : Option Addr), ∃ (cur4_5 : Nat), ∃ (sur4_5 : Int), ∃ (Iur4_5 : List (Nat × BA)), ∃ (bur4_5 : Nat), ∃ (our4_5 : Nat), (InS ju2.st xur4_2 yur4_2 zur4_2) ∧ (u64ok sur4_2) ∧ (ShF (shx ju2.sh) lur4_5) ∧ (u64ok sur4_5) ∧ (Sp w noEx Iur4_5 Aur4_5 lur4_5.length 1 bur4_5 our4_5 (ic lur4_5)) ∧ ∃ (gr4_6 : Nat), Tm ac 205 [(3, .pointer (some ⟨bpu1, 0, none⟩)), (4, .pointer (some ⟨g1, 0, none⟩)), (5, .slice Au3 lu3.length cu3), (6, .pointer (some ⟨gr4_6, 0, none⟩)), (7, .slice Aur4_5 lur4_5.length cur4_5)] ∧ Mem w noEx wc ((gr4_6, .cells [.int .i64 xur4_2, .int .i64 yur4_2, .int .i64 zur4_2]) :: (g1, .cells (jobL ju2 Au2 cu2)) :: (bpu1, .cells [.int .u64 sur4_5]) :: (Iu2 ++ Iu3 ++ Iur4_5))) ?_ ?_
  ·refine g_start2 M (M.mask [true, false] rfl) 9 (by kernel_rfl) rfl (by kernel_rfl) ?_
   clear M; intro wc M
   refine g_addG 2 M ?_
   refine g_q (T := T) (i := 0) rfl (by kernel_rfl) (by kernel_rfl : (pbits 9 0).setIfInBounds 0 true = pbits 9 1) (si_and (si_G rfl) si_U) (fun _ _ _ h => h) rfl rfl rfl rfl (fun _ _ _ _ _ => (rn_move rfl (T.ev 2 rfl))) ?_; clear T ac; intro ac T
   refine g_q (T := T) (i := 1) rfl (by kernel_rfl) (by kernel_rfl : (pbits 9 1).setIfInBounds 1 true = pbits 9 3) (si_and (si_G rfl) si_U) (fun _ _ _ h => h) rfl rfl rfl rfl (fun B w' hD hl hS => (rn_rowO (Mem.nth (show Mem w noEx w' _ from ((MA.lft hS) (hD.wait (i := 1) (m := 2) (by kernel_rfl) hl))) 0 rfl) rfl (T.ev 2 rfl) rfl)) ?_; clear T ac; intro ac T
   refine g_q (T := T) (i := 3) rfl (by kernel_rfl) (by kernel_rfl : (pbits 9 3).setIfInBounds 3 true = pbits 9 11) (si_and (si_G rfl) si_U) (fun _ _ _ h => h) rfl rfl rfl rfl (fun _ _ _ _ _ => (rn_move rfl (T.ev 4 rfl))) ?_; clear T ac; intro ac T
   refine g_q (T := T) (i := 4) rfl (by kernel_rfl) (by kernel_rfl : (pbits 9 11).setIfInBounds 4 true = pbits 9 27) (si_and (si_G rfl) si_U) (fun _ _ _ h => h) rfl rfl rfl rfl (fun B w' hD hl hS => (rn_rowO (Mem.nth (show Mem w noEx w' _ from (MA.rgt hS)) 0 rfl) rfl (T.ev 4 rfl) rfl)) ?_; clear T ac; intro ac T
   refine g_m2 (i := 2) (j := 6) (by kernel_rfl) ?_ ?_
   ·refine g_i rfl (by kernel_rfl : (pbits 9 27).setIfInBounds 2 true = pbits 9 31) rfl ?_; intro K hK
    refine ow_call (first := []) (cap := []) T rfl rfl rfl rfl evf (.cons (T.ev 3 rfl) (.cons (T.ev 2 rfl) .nil)) Try.func7 rfl rfl ?_
    refine Calls.mono (filedOf_any _ bpu1 ju2 _ _ _ hgu2 (M.nth 1 rfl) hsu3) ?_
    clear T
    rintro e wc ⟨xur4_2, yur4_2, zur4_2, sur4_2, hxur4_2, hsur4_2, rfl, hgr, hbk⟩
    intro ac T
    replace M := M.callC (cs' := [.int .u64 sur4_2]) (.tail .head) hgr hbk
    clear hgr hbk
    refine sh_out hK _ _ (MA.mk (fun h => (no_of (by kernel_rfl) h).elim) (M.mask [true, false] rfl)) ?_; clear hK K
    refine g_m2 (i := 5) (j := 6) (by kernel_rfl) ?_ ?_
    ·refine g_i rfl (by kernel_rfl : (pbits 9 31).setIfInBounds 5 true = pbits 9 63) rfl ?_; intro K hK
     refine ow_call (first := []) (cap := []) T rfl rfl rfl rfl evf (.cons (T.ev 2 rfl) (.cons (T.ev 1 rfl) .nil)) Try.func8 rfl rfl ?_
     refine Calls.mono (shifted_any _ bpu1 ju2 _ _ _ hgu2 (Su2.rd M (.cons _ (.cons _ (subL (List.Sublist.refl _))))) (M.own_ne hownu2 (.cons _ (List.Sublist.cons_cons _ (subL (List.Sublist.refl _))))) (M.nth 1 rfl) hsur4_2) ?_
     clear T
     rintro e wc ⟨lur4_5, Aur4_5, cur4_5, sur4_5, Iur4_5, bur4_5, our4_5, rfl, hqur4_5, hsur4_5, hSur4_5, N⟩
     intro ac T
     replace M := (M.joinW (.tail .head) N).swapI
     replace M : Mem w noEx wc ((g1, .cells (jobL ju2 Au2 cu2)) :: (bpu1, .cells [.int .u64 sur4_5]) :: (Iu2 ++ Iu3 ++ Iur4_5)) := M
     have Sur4_5 := hSur4_5 w noEx
     clear N
     refine sh_out hK _ _ (MA.mk (fun h => (no_of (by kernel_rfl) h).elim) ((M.mask [true, false] rfl).sub (List.Sublist.cons_cons _ (List.sublist_append_left _ _)))) ?_; clear hK K
     refine g_w (i := 6) (by kernel_rfl) rfl (by kernel_rfl : (pbits 9 63).setIfInBounds 6 true = pbits 9 127) rfl ?_; intro K hK
     refine ow_al M T rfl rfl rfl rfl ?_; clear M T; intro gr4_6 wc ac M T
     refine sh_out hK _ _ (MA.mk (fun h => (no_of (by kernel_rfl) h).elim) ((M.mask [false, true, false] rfl).sub (List.Sublist.cons_cons _ (List.sublist_append_left _ _)))) ?_; clear hK K
     refine g_w (i := 7) (by kernel_rfl) rfl (by kernel_rfl : (pbits 9 127).setIfInBounds 7 true = pbits 9 255) rfl ?_; intro K hK
     refine ow_stO M T rfl rfl (T.ev 0 rfl) (T.ev 2 rfl) rfl .head rfl (by simp) rfl (by kernel_rfl) ?_; clear M T; intro wc ac M T
     refine sh_out hK _ _ (MA.mk (fun h => (no_of (by kernel_rfl) h).elim) ((M.mask [false, true, false] rfl).sub (List.Sublist.cons_cons _ (List.sublist_append_left _ _)))) ?_; clear hK K
     refine g_q (T := T) (i := 8) rfl (by kernel_rfl) (by kernel_rfl : (pbits 9 255).setIfInBounds 8 true = pbits 9 511) (si_and (si_G rfl) si_U) (fun _ _ _ h => h) rfl rfl rfl rfl (fun _ _ _ _ _ => (rn_assign rfl (T.ev 1 rfl))) ?_; clear T ac; intro ac T
     refine g_done (by kernel_rfl) ?_
     replace T := T.pick [0, 1, 8, 9, 10] rfl
     exact ⟨xur4_2, yur4_2, zur4_2, sur4_2, lur4_5, Aur4_5, cur4_5, sur4_5, Iur4_5, bur4_5, our4_5, hxur4_2, hsur4_2, hqur4_5, hsur4_5, Sur4_5, gr4_6, (T.pick (E' := [(3, .pointer (some ⟨bpu1, 0, none⟩)), (4, .pointer (some ⟨g1, 0, none⟩)), (5, .slice Au3 lu3.length cu3), (6, .pointer (some ⟨gr4_6, 0, none⟩)), (7, .slice Aur4_5 lur4_5.length cur4_5)]) [4, 3, 2, 1, 0] rfl).as (by rfl), M.mask [true, true, true] rfl⟩
    ·refine g_i rfl (by kernel_rfl : (pbits 9 31).setIfInBounds 6 true = pbits 9 95) rfl ?_; intro K hK
     refine ow_al M T rfl rfl rfl rfl ?_; clear M T; intro gr4_6 wc ac M T
     refine sh_out hK _ _ (MA.mk (fun h => (no_of (by kernel_rfl) h).elim) (M.mask [false, true, false] rfl)) ?_; clear hK K
     refine g_w (i := 5) (by kernel_rfl) rfl (by kernel_rfl : (pbits 9 95).setIfInBounds 5 true = pbits 9 127) rfl ?_; intro K hK
     refine ow_call (first := []) (cap := []) T rfl rfl rfl rfl evf (.cons (T.ev 3 rfl) (.cons (T.ev 2 rfl) .nil)) Try.func8 rfl rfl ?_
     refine Calls.mono (shifted_any _ bpu1 ju2 _ _ _ hgu2 (Su2.rd M (.cons _ (.cons _ (.cons _ (subL (List.Sublist.refl _)))))) (M.own_ne hownu2 (.cons _ (.cons _ (List.Sublist.cons_cons _ (subL (List.Sublist.refl _)))))) (M.nth 2 rfl) hsur4_2) ?_
     clear T
     rintro e wc ⟨lur4_5, Aur4_5, cur4_5, sur4_5, Iur4_5, bur4_5, our4_5, rfl, hqur4_5, hsur4_5, hSur4_5, N⟩
     intro ac T
     replace M := (M.joinW (.tail (.tail .head)) N).swapI
     replace M : Mem w noEx wc ((gr4_6, .cells [.int .i64 0, .int .i64 0, .int .i64 0]) :: (g1, .cells (jobL ju2 Au2 cu2)) :: (bpu1, .cells [.int .u64 sur4_5]) :: (Iu2 ++ Iu3 ++ Iur4_5)) := M
     have Sur4_5 := hSur4_5 w noEx
     clear N
     refine sh_out hK _ _ (MA.mk (fun h => (no_of (by kernel_rfl) h).elim) ((M.mask [false, true, false] rfl).sub (List.Sublist.cons_cons _ (List.sublist_append_left _ _)))) ?_; clear hK K
     refine g_w (i := 7) (by kernel_rfl) rfl (by kernel_rfl : (pbits 9 127).setIfInBounds 7 true = pbits 9 255) rfl ?_; intro K hK
     refine ow_stO M T rfl rfl (T.ev 1 rfl) (T.ev 2 rfl) rfl .head rfl (by simp) rfl (by kernel_rfl) ?_; clear M T; intro wc ac M T
     refine sh_out hK _ _ (MA.mk (fun h => (no_of (by kernel_rfl) h).elim) ((M.mask [false, true, false] rfl).sub (List.Sublist.cons_cons _ (List.sublist_append_left _ _)))) ?_; clear hK K
     refine g_q (T := T) (i := 8) rfl (by kernel_rfl) (by kernel_rfl : (pbits 9 255).setIfInBounds 8 true = pbits 9 511) (si_and (si_G rfl) si_U) (fun _ _ _ h => h) rfl rfl rfl rfl (fun _ _ _ _ _ => (rn_assign rfl (T.ev 0 rfl))) ?_; clear T ac; intro ac T
     refine g_done (by kernel_rfl) ?_
     replace T := T.pick [0, 2, 8, 9, 10] rfl
     exact ⟨xur4_2, yur4_2, zur4_2, sur4_2, lur4_5, Aur4_5, cur4_5, sur4_5, Iur4_5, bur4_5, our4_5, hxur4_2, hsur4_2, hqur4_5, hsur4_5, Sur4_5, gr4_6, (T.pick (E' := [(3, .pointer (some ⟨bpu1, 0, none⟩)), (4, .pointer (some ⟨g1, 0, none⟩)), (5, .slice Au3 lu3.length cu3), (6, .pointer (some ⟨gr4_6, 0, none⟩)), (7, .slice Aur4_5 lur4_5.length cur4_5)]) [4, 3, 2, 1, 0] rfl).as (by rfl), M.mask [true, true, true] rfl⟩
   ·refine g_i rfl (by kernel_rfl : (pbits 9 27).setIfInBounds 6 true = pbits 9 91) rfl ?_; intro K hK
    refine ow_al M T rfl rfl rfl rfl ?_; clear M T; intro gr4_6 wc ac M T
    refine sh_out hK _ _ (MA.mk (fun _ => M.mask [false, true, true] rfl) (M.mask [false, true, false] rfl)) ?_; clear hK K
    refine g_w (i := 2) (by kernel_rfl) rfl (by kernel_rfl : (pbits 9 91).setIfInBounds 2 true = pbits 9 95) rfl ?_; intro K hK
    refine ow_call (first := []) (cap := []) T rfl rfl rfl rfl evf (.cons (T.ev 4 rfl) (.cons (T.ev 3 rfl) .nil)) Try.func7 rfl rfl ?_
    refine Calls.mono (filedOf_any _ bpu1 ju2 _ _ _ hgu2 (M.nth 2 rfl) hsu3) ?_
    clear T
    rintro e wc ⟨xur4_2, yur4_2, zur4_2, sur4_2, hxur4_2, hsur4_2, rfl, hgr, hbk⟩
    intro ac T
    replace M := M.callC (cs' := [.int .u64 sur4_2]) (.tail (.tail .head)) hgr hbk
    clear hgr hbk
    refine sh_out hK _ _ (MA.mk (fun h => (no_of (by kernel_rfl) h).elim) (M.mask [false, true, false] rfl)) ?_; clear hK K
    refine g_w (i := 5) (by kernel_rfl) rfl (by kernel_rfl : (pbits 9 95).setIfInBounds 5 true = pbits 9 127) rfl ?_; intro K hK
    refine ow_call (first := []) (cap := []) T rfl rfl rfl rfl evf (.cons (T.ev 3 rfl) (.cons (T.ev 2 rfl) .nil)) Try.func8 rfl rfl ?_
    refine Calls.mono (shifted_any _ bpu1 ju2 _ _ _ hgu2 (Su2.rd M (.cons _ (.cons _ (.cons _ (subL (List.Sublist.refl _)))))) (M.own_ne hownu2 (.cons _ (.cons _ (List.Sublist.cons_cons _ (subL (List.Sublist.refl _)))))) (M.nth 2 rfl) hsur4_2) ?_
    clear T
    rintro e wc ⟨lur4_5, Aur4_5, cur4_5, sur4_5, Iur4_5, bur4_5, our4_5, rfl, hqur4_5, hsur4_5, hSur4_5, N⟩
    intro ac T
    replace M := (M.joinW (.tail (.tail .head)) N).swapI
    replace M : Mem w noEx wc ((gr4_6, .cells [.int .i64 0, .int .i64 0, .int .i64 0]) :: (g1, .cells (jobL ju2 Au2 cu2)) :: (bpu1, .cells [.int .u64 sur4_5]) :: (Iu2 ++ Iu3 ++ Iur4_5)) := M
    have Sur4_5 := hSur4_5 w noEx
    clear N
    refine sh_out hK _ _ (MA.mk (fun h => (no_of (by kernel_rfl) h).elim) ((M.mask [false, true, false] rfl).sub (List.Sublist.cons_cons _ (List.sublist_append_left _ _)))) ?_; clear hK K
    refine g_w (i := 7) (by kernel_rfl) rfl (by kernel_rfl : (pbits 9 127).setIfInBounds 7 true = pbits 9 255) rfl ?_; intro K hK
    refine ow_stO M T rfl rfl (T.ev 2 rfl) (T.ev 1 rfl) rfl .head rfl (by simp) rfl (by kernel_rfl) ?_; clear M T; intro wc ac M T
    refine sh_out hK _ _ (MA.mk (fun h => (no_of (by kernel_rfl) h).elim) ((M.mask [false, true, false] rfl).sub (List.Sublist.cons_cons _ (List.sublist_append_left _ _)))) ?_; clear hK K
    refine g_q (T := T) (i := 8) rfl (by kernel_rfl) (by kernel_rfl : (pbits 9 255).setIfInBounds 8 true = pbits 9 511) (si_and (si_G rfl) si_U) (fun _ _ _ h => h) rfl rfl rfl rfl (fun _ _ _ _ _ => (rn_assign rfl (T.ev 0 rfl))) ?_; clear T ac; intro ac T
    refine g_done (by kernel_rfl) ?_
    replace T := T.pick [0, 3, 8, 9, 10] rfl
    exact ⟨xur4_2, yur4_2, zur4_2, sur4_2, lur4_5, Aur4_5, cur4_5, sur4_5, Iur4_5, bur4_5, our4_5, hxur4_2, hsur4_2, hqur4_5, hsur4_5, Sur4_5, gr4_6, (T.pick (E' := [(3, .pointer (some ⟨bpu1, 0, none⟩)), (4, .pointer (some ⟨g1, 0, none⟩)), (5, .slice Au3 lu3.length cu3), (6, .pointer (some ⟨gr4_6, 0, none⟩)), (7, .slice Aur4_5 lur4_5.length cur4_5)]) [4, 3, 2, 1, 0] rfl).as (by rfl), M.mask [true, true, true] rfl⟩
  ·clear T M
   rintro ac wc ⟨xur4_2, yur4_2, zur4_2, sur4_2, lur4_5, Aur4_5, cur4_5, sur4_5, Iur4_5, bur4_5, our4_5, hxur4_2, hsur4_2, hqur4_5, hsur4_5, Sur4_5, gr4_6, T, M⟩
   refine wp_seq ?_
   refine wp_region_lit ?_
   refine l_q T rfl rfl rfl rfl (rn_rowO (Mem.nth M 1 rfl) rfl (T.ev 1 rfl) rfl) ?_; clear T ac; intro ac T
   refine l_w rfl ?_; intro K hK
   refine ow_call (first := []) (cap := []) T rfl rfl rfl rfl evf (.cons (T.ev 0 rfl) .nil) Try.func9 rfl rfl ?_
   refine Calls.mono (Passes_any ju2 _ _ _ (Su2.rd M (.cons _ (.cons _ (.cons _ (subL (subL (List.Sublist.refl _))))))) (by first | omega | (dsimp only [Jb.one]; omega))) ?_
   clear T
   rintro e wc ⟨rfl, hb⟩
   intro ac T
   replace M := M.call hb; clear hb
   have hxp := hxur4_2.p
   have hxp0 : ju2.p0 ≤ xur4_2 ∧ xur4_2 ≤ ju2.p1 := hxp
   refine sh_out hK _ _ ?_; clear hK K
   refine l_q T rfl rfl rfl rfl (rn_move rfl (T.ev 0 rfl)) ?_; clear T ac; intro ac T
   refine l_q T rfl rfl rfl rfl (rn_extract rfl (T.ev 0 rfl) rfl) ?_; clear T ac; intro ac T
   refine l_q T rfl rfl rfl rfl (rn_extract rfl (T.ev 1 rfl) rfl) ?_; clear T ac; intro ac T
   refine l_q T rfl rfl rfl rfl (rn_assign rfl (T.ev 1 rfl)) ?_; clear T ac; intro ac T
   refine l_q T rfl rfl rfl rfl (rn_assign rfl (T.ev 1 rfl)) ?_; clear T ac; intro ac T
   refine wpList_nil ?_
   replace T := T.pick [0, 1, 7, 8, 9, 10, 11] rfl
   refine nm_then ?_
   refine cut_seq (fun ac wc => ∃ (xur6_9 : Int), ∃ (sur6_9 : Int), ∃ (haur6_11 : Int), ∃ (hcur6_11 : Int), ((-ju2.me) ≤ xur6_9 ∧ xur6_9 ≤ ju2.me) ∧ (u64ok sur6_9) ∧ (haur6_11 ≤ xur4_2 ∧ xur4_2 ≤ hcur6_11) ∧ (hasB ju2.p0 ju2.p1 haur6_11 hcur6_11 = true) ∧ ∃ (gr6_15 : Nat), Tm ac 205 [(3, .pointer (some ⟨bpu1, 0, none⟩)), (4, .pointer (some ⟨g1, 0, none⟩)), (5, .slice Au3 lu3.length cu3), (6, .pointer (some ⟨gr4_6, 0, none⟩)), (7, .slice Aur4_5 lur4_5.length cur4_5), (8, .int .i64 ((passesT ju2).1)), (9, .int .i64 ((passesT ju2).2)), (10, .pointer (some ⟨gr6_15, 0, none⟩)), (11, .int .i64 0)] ∧ Mem w noEx wc ((gr6_15, .cells [.int .i64 haur6_11, .int .i64 hcur6_11]) :: (gr4_6, .cells [.int .i64 xur4_2, .int .i64 yur4_2, .int .i64 zur4_2]) :: (g1, .cells (jobL ju2 Au2 cu2)) :: (bpu1, .cells [.int .u64 sur6_9]) :: (Iu2 ++ Iu3 ++ Iur4_5))) ?_ ?_
   ·refine g_start2 M (M.mask [true, true, false] rfl) 18 (by kernel_rfl) rfl (by kernel_rfl) ?_
    clear M; intro wc M
    refine g_addG 9 M ?_
    refine g_q (T := T) (i := 0) rfl (by kernel_rfl) (by kernel_rfl : (pbits 18 0).setIfInBounds 0 true = pbits 18 1) (si_and (si_G rfl) si_U) (fun _ _ _ h => h) rfl rfl rfl rfl (fun B w' hD hl hS => (rn_rowO (Mem.nth (show Mem w noEx w' _ from (MA.rgt hS)) 1 rfl) rfl (T.ev 3 rfl) rfl)) ?_; clear T ac; intro ac T
    refine g_q (v := (.pointer (some ⟨gr4_6, 0, none⟩))) (T := T) (i := 1) rfl (by kernel_rfl) (by kernel_rfl : (pbits 18 1).setIfInBounds 1 true = pbits 18 3) (si_and (si_G rfl) si_U) (fun _ _ _ h => h) rfl rfl rfl rfl (fun _ _ _ _ _ => (rn_fieldAddr (off := 0) rfl (T.ev 6 rfl) (fun _ _ _ => by kernel_rfl))) ?_; clear T ac; intro ac T
    refine g_q (T := T) (i := 2) rfl (by kernel_rfl) (by kernel_rfl : (pbits 18 3).setIfInBounds 2 true = pbits 18 7) (si_and (si_G rfl) si_U) (fun _ _ _ h => h) rfl rfl rfl rfl (fun B w' hD hl hS => (rn_one (Mem.nth (show Mem w noEx w' _ from (MA.rgt hS)) 0 rfl) rfl (T.ev 0 rfl) rfl)) ?_; clear T ac; intro ac T
    refine g_q (T := T) (i := 3) rfl (by kernel_rfl) (by kernel_rfl : (pbits 18 7).setIfInBounds 3 true = pbits 18 15) (si_and (si_G rfl) si_U) (fun _ _ _ h => h) rfl rfl rfl rfl (fun _ _ _ _ _ => (rn_move rfl (T.ev 5 rfl))) ?_; clear T ac; intro ac T
    refine g_q (v := (.pointer (some ⟨g1, 17, none⟩))) (T := T) (i := 4) rfl (by kernel_rfl) (by kernel_rfl : (pbits 18 15).setIfInBounds 4 true = pbits 18 31) (si_and (si_G rfl) si_U) (fun _ _ _ h => h) rfl rfl rfl rfl (fun _ _ _ _ _ => (rn_fieldAddr (off := 17) rfl (T.ev 7 rfl) (fun _ _ _ => by kernel_rfl))) ?_; clear T ac; intro ac T
    refine g_q (T := T) (i := 5) rfl (by kernel_rfl) (by kernel_rfl : (pbits 18 31).setIfInBounds 5 true = pbits 18 63) (si_and (si_G rfl) si_U) (fun _ _ _ h => h) rfl rfl rfl rfl (fun B w' hD hl hS => (rn_one (Mem.nth (show Mem w noEx w' _ from ((MA.lft hS) (hD.wait (i := 6) (m := 9) (by kernel_rfl) (hD.wait (i := 5) (m := 6) (by kernel_rfl) hl)))) 1 rfl) rfl (T.ev 0 rfl) rfl)) ?_; clear T ac; intro ac T
    refine g_q (T := T) (i := 6) rfl (by kernel_rfl) (by kernel_rfl : (pbits 18 63).setIfInBounds 6 true = pbits 18 127) (si_and (si_G rfl) si_U) (fun _ _ _ h => h) rfl rfl rfl rfl (fun _ _ _ _ _ => (rn_neg rfl (T.ev 0 rfl) (by omega))) ?_; clear T ac; intro ac T
    refine g_q (v := (.pointer (some ⟨g1, 17, none⟩))) (T := T) (i := 7) rfl (by kernel_rfl) (by kernel_rfl : (pbits 18 127).setIfInBounds 7 true = pbits 18 255) (si_and (si_G rfl) si_U) (fun _ _ _ h => h) rfl rfl rfl rfl (fun _ _ _ _ _ => (rn_fieldAddr (off := 17) rfl (T.ev 10 rfl) (fun _ _ _ => by kernel_rfl))) ?_; clear T ac; intro ac T
    refine g_q (T := T) (i := 8) rfl (by kernel_rfl) (by kernel_rfl : (pbits 18 255).setIfInBounds 8 true = pbits 18 511) (si_and (si_G rfl) si_U) (fun _ _ _ h => h) rfl rfl rfl rfl (fun B w' hD hl hS => (rn_one (Mem.nth (show Mem w noEx w' _ from ((MA.lft hS) (hD.wait (i := 8) (m := 9) (by kernel_rfl) hl))) 1 rfl) rfl (T.ev 0 rfl) rfl)) ?_; clear T ac; intro ac T
    refine g_m2 (i := 9) (j := 15) (by kernel_rfl) ?_ ?_
    ·refine g_i rfl (by kernel_rfl : (pbits 18 511).setIfInBounds 9 true = pbits 18 1023) rfl ?_; intro K hK
     refine ow_call (first := []) (cap := []) T rfl rfl rfl rfl evf (.cons (T.ev 5 rfl) (.cons (T.ev 2 rfl) (.cons (T.ev 0 rfl) .nil))) Try.func11 rfl rfl ?_
     refine Calls.mono (within_pot _ bpu1 (-ju2.me) ju2.me _ (by omega) (by omega) (by omega) (M.nth 2 rfl) hsur4_5) ?_
     clear T
     rintro e wc ⟨xur6_9, sur6_9, hxur6_9, hsur6_9, rfl, hgr, hbk⟩
     intro ac T
     replace M := M.callC (cs' := [.int .u64 sur6_9]) (.tail (.tail .head)) hgr hbk
     clear hgr hbk
     refine sh_out hK _ _ (MA.mk (fun h => (no_of (by kernel_rfl) h).elim) (M.mask [true, true, false] rfl)) ?_; clear hK K
     refine g_q (T := T) (i := 10) rfl (by kernel_rfl) (by kernel_rfl : (pbits 18 1023).setIfInBounds 10 true = pbits 18 2047) (si_and (si_G rfl) si_U) (fun _ _ _ h => h) rfl rfl rfl rfl (fun _ _ _ _ _ => (rn_add rfl (T.ev 7 rfl) (T.ev 0 rfl) (by omega))) ?_; clear T ac; intro ac T
     refine g_m2 (i := 11) (j := 15) (by kernel_rfl) ?_ ?_
     ·refine g_i rfl (by kernel_rfl : (pbits 18 2047).setIfInBounds 11 true = pbits 18 4095) rfl ?_; intro K hK
      refine ow_call (first := []) (cap := []) T rfl rfl rfl rfl evf (.cons (T.ev 10 rfl) (.cons (T.ev 0 rfl) .nil)) Try.func10 rfl rfl ?_
      refine Calls.mono (Hear_true ju2 _ _ xur4_2 xur6_9 _ (Su2.rd M (.cons _ (.cons _ (.cons _ (subL (subL (List.Sublist.refl _))))))) hgu2 hxp0 (by omega)) ?_
      clear T
      rintro e wc ⟨haur6_11, hcur6_11, rfl, hhur6_11, hkur6_11, hb⟩
      intro ac T
      replace M := M.call hb; clear hb
      refine sh_out hK _ _ (MA.mk (fun h => (no_of (by kernel_rfl) h).elim) (M.mask [true, true, false] rfl)) ?_; clear hK K
      refine g_q (T := T) (i := 12) rfl (by kernel_rfl) (by kernel_rfl : (pbits 18 4095).setIfInBounds 12 true = pbits 18 8191) (si_and (si_G rfl) si_U) (fun _ _ _ h => h) rfl rfl rfl rfl (fun _ _ _ _ _ => (rn_move rfl (T.ev 0 rfl))) ?_; clear T ac; intro ac T
      refine g_q (T := T) (i := 13) rfl (by kernel_rfl) (by kernel_rfl : (pbits 18 8191).setIfInBounds 13 true = pbits 18 16383) (si_and (si_G rfl) si_U) (fun _ _ _ h => h) rfl rfl rfl rfl (fun _ _ _ _ _ => (rn_extract rfl (T.ev 0 rfl) rfl)) ?_; clear T ac; intro ac T
      refine g_q (T := T) (i := 14) rfl (by kernel_rfl) (by kernel_rfl : (pbits 18 16383).setIfInBounds 14 true = pbits 18 32767) (si_and (si_G rfl) si_U) (fun _ _ _ h => h) rfl rfl rfl rfl (fun _ _ _ _ _ => (rn_extract rfl (T.ev 1 rfl) rfl)) ?_; clear T ac; intro ac T
      refine g_w (i := 15) (by kernel_rfl) rfl (by kernel_rfl : (pbits 18 32767).setIfInBounds 15 true = pbits 18 65535) rfl ?_; intro K hK
      refine ow_al M T rfl rfl rfl rfl ?_; clear M T; intro gr6_15 wc ac M T
      refine sh_out hK _ _ (MA.mk (fun h => (no_of (by kernel_rfl) h).elim) (M.mask [false, true, true, false] rfl)) ?_; clear hK K
      refine g_w (i := 16) (by kernel_rfl) rfl (by kernel_rfl : (pbits 18 65535).setIfInBounds 16 true = pbits 18 131071) rfl ?_; intro K hK
      refine ow_stO M T rfl rfl (T.ev 0 rfl) (T.ev 2 rfl) rfl .head rfl (by simp) rfl (by kernel_rfl) ?_; clear M T; intro wc ac M T
      refine sh_out hK _ _ (MA.mk (fun h => (no_of (by kernel_rfl) h).elim) (M.mask [false, true, true, false] rfl)) ?_; clear hK K
      refine g_q (T := T) (i := 17) rfl (by kernel_rfl) (by kernel_rfl : (pbits 18 131071).setIfInBounds 17 true = pbits 18 262143) (si_and (si_G rfl) si_U) (fun _ _ _ h => h) rfl rfl rfl rfl (fun _ _ _ _ _ => (rn_assign rfl (T.ev 1 rfl))) ?_; clear T ac; intro ac T
      refine g_done (by kernel_rfl) ?_
      replace T := T.pick [0, 1, 17, 18, 19, 20, 21, 22, 23] rfl
      exact ⟨xur6_9, sur6_9, haur6_11, hcur6_11, hxur6_9, hsur6_9, hhur6_11, hkur6_11, gr6_15, (T.pick (E' := [(3, .pointer (some ⟨bpu1, 0, none⟩)), (4, .pointer (some ⟨g1, 0, none⟩)), (5, .slice Au3 lu3.length cu3), (6, .pointer (some ⟨gr4_6, 0, none⟩)), (7, .slice Aur4_5 lur4_5.length cur4_5), (8, .int .i64 ((passesT ju2).1)), (9, .int .i64 ((passesT ju2).2)), (10, .pointer (some ⟨gr6_15, 0, none⟩)), (11, .int .i64 0)]) [4, 5, 6, 7, 8, 3, 2, 1, 0] rfl).as (by rfl), M.mask [true, true, true, true] rfl⟩
     ·refine g_i rfl (by kernel_rfl : (pbits 18 2047).setIfInBounds 15 true = pbits 18 34815) rfl ?_; intro K hK
      refine ow_al M T rfl rfl rfl rfl ?_; clear M T; intro gr6_15 wc ac M T
      refine sh_out hK _ _ (MA.mk (fun h => (no_of (by kernel_rfl) h).elim) (M.mask [false, true, true, false] rfl)) ?_; clear hK K
      refine g_w (i := 11) (by kernel_rfl) rfl (by kernel_rfl : (pbits 18 34815).setIfInBounds 11 true = pbits 18 36863) rfl ?_; intro K hK
      refine ow_call (first := []) (cap := []) T rfl rfl rfl rfl evf (.cons (T.ev 11 rfl) (.cons (T.ev 1 rfl) .nil)) Try.func10 rfl rfl ?_
      refine Calls.mono (Hear_true ju2 _ _ xur4_2 xur6_9 _ (Su2.rd M (.cons _ (.cons _ (.cons _ (.cons _ (subL (subL (List.Sublist.refl _)))))))) hgu2 hxp0 (by omega)) ?_
      clear T
      rintro e wc ⟨haur6_11, hcur6_11, rfl, hhur6_11, hkur6_11, hb⟩
      intro ac T
      replace M := M.call hb; clear hb
      refine sh_out hK _ _ (MA.mk (fun h => (no_of (by kernel_rfl) h).elim) (M.mask [false, true, true, false] rfl)) ?_; clear hK K
      refine g_q (T := T) (i := 12) rfl (by kernel_rfl) (by kernel_rfl : (pbits 18 36863).setIfInBounds 12 true = pbits 18 40959) (si_and (si_G rfl) si_U) (fun _ _ _ h => h) rfl rfl rfl rfl (fun _ _ _ _ _ => (rn_move rfl (T.ev 0 rfl))) ?_; clear T ac; intro ac T
      refine g_q (T := T) (i := 13) rfl (by kernel_rfl) (by kernel_rfl : (pbits 18 40959).setIfInBounds 13 true = pbits 18 49151) (si_and (si_G rfl) si_U) (fun _ _ _ h => h) rfl rfl rfl rfl (fun _ _ _ _ _ => (rn_extract rfl (T.ev 0 rfl) rfl)) ?_; clear T ac; intro ac T
      refine g_q (T := T) (i := 14) rfl (by kernel_rfl) (by kernel_rfl : (pbits 18 49151).setIfInBounds 14 true = pbits 18 65535) (si_and (si_G rfl) si_U) (fun _ _ _ h => h) rfl rfl rfl rfl (fun _ _ _ _ _ => (rn_extract rfl (T.ev 1 rfl) rfl)) ?_; clear T ac; intro ac T
      refine g_w (i := 16) (by kernel_rfl) rfl (by kernel_rfl : (pbits 18 65535).setIfInBounds 16 true = pbits 18 131071) rfl ?_; intro K hK
      refine ow_stO M T rfl rfl (T.ev 4 rfl) (T.ev 1 rfl) rfl .head rfl (by simp) rfl (by kernel_rfl) ?_; clear M T; intro wc ac M T
      refine sh_out hK _ _ (MA.mk (fun h => (no_of (by kernel_rfl) h).elim) (M.mask [false, true, true, false] rfl)) ?_; clear hK K
      refine g_q (T := T) (i := 17) rfl (by kernel_rfl) (by kernel_rfl : (pbits 18 131071).setIfInBounds 17 true = pbits 18 262143) (si_and (si_G rfl) si_U) (fun _ _ _ h => h) rfl rfl rfl rfl (fun _ _ _ _ _ => (rn_assign rfl (T.ev 0 rfl))) ?_; clear T ac; intro ac T
      refine g_done (by kernel_rfl) ?_
      replace T := T.pick [0, 5, 17, 18, 19, 20, 21, 22, 23] rfl
      exact ⟨xur6_9, sur6_9, haur6_11, hcur6_11, hxur6_9, hsur6_9, hhur6_11, hkur6_11, gr6_15, (T.pick (E' := [(3, .pointer (some ⟨bpu1, 0, none⟩)), (4, .pointer (some ⟨g1, 0, none⟩)), (5, .slice Au3 lu3.length cu3), (6, .pointer (some ⟨gr4_6, 0, none⟩)), (7, .slice Aur4_5 lur4_5.length cur4_5), (8, .int .i64 ((passesT ju2).1)), (9, .int .i64 ((passesT ju2).2)), (10, .pointer (some ⟨gr6_15, 0, none⟩)), (11, .int .i64 0)]) [4, 5, 6, 7, 8, 3, 2, 1, 0] rfl).as (by rfl), M.mask [true, true, true, true] rfl⟩
    ·refine g_i rfl (by kernel_rfl : (pbits 18 511).setIfInBounds 15 true = pbits 18 33279) rfl ?_; intro K hK
     refine ow_al M T rfl rfl rfl rfl ?_; clear M T; intro gr6_15 wc ac M T
     refine sh_out hK _ _ (MA.mk (fun _ => M.mask [false, true, true, true] rfl) (M.mask [false, true, true, false] rfl)) ?_; clear hK K
     refine g_w (i := 9) (by kernel_rfl) rfl (by kernel_rfl : (pbits 18 33279).setIfInBounds 9 true = pbits 18 33791) rfl ?_; intro K hK
     refine ow_call (first := []) (cap := []) T rfl rfl rfl rfl evf (.cons (T.ev 6 rfl) (.cons (T.ev 3 rfl) (.cons (T.ev 1 rfl) .nil))) Try.func11 rfl rfl ?_
     refine Calls.mono (within_pot _ bpu1 (-ju2.me) ju2.me _ (by omega) (by omega) (by omega) (M.nth 3 rfl) hsur4_5) ?_
     clear T
     rintro e wc ⟨xur6_9, sur6_9, hxur6_9, hsur6_9, rfl, hgr, hbk⟩
     intro ac T
     replace M := M.callC (cs' := [.int .u64 sur6_9]) (.tail (.tail (.tail .head))) hgr hbk
     clear hgr hbk
     refine sh_out hK _ _ (MA.mk (fun h => (no_of (by kernel_rfl) h).elim) (M.mask [false, true, true, false] rfl)) ?_; clear hK K
     refine g_q (T := T) (i := 10) rfl (by kernel_rfl) (by kernel_rfl : (pbits 18 33791).setIfInBounds 10 true = pbits 18 34815) (si_and (si_G rfl) si_U) (fun _ _ _ h => h) rfl rfl rfl rfl (fun _ _ _ _ _ => (rn_add rfl (T.ev 8 rfl) (T.ev 0 rfl) (by omega))) ?_; clear T ac; intro ac T
     refine g_w (i := 11) (by kernel_rfl) rfl (by kernel_rfl : (pbits 18 34815).setIfInBounds 11 true = pbits 18 36863) rfl ?_; intro K hK
     refine ow_call (first := []) (cap := []) T rfl rfl rfl rfl evf (.cons (T.ev 11 rfl) (.cons (T.ev 0 rfl) .nil)) Try.func10 rfl rfl ?_
     refine Calls.mono (Hear_true ju2 _ _ xur4_2 xur6_9 _ (Su2.rd M (.cons _ (.cons _ (.cons _ (.cons _ (subL (subL (List.Sublist.refl _)))))))) hgu2 hxp0 (by omega)) ?_
     clear T
     rintro e wc ⟨haur6_11, hcur6_11, rfl, hhur6_11, hkur6_11, hb⟩
     intro ac T
     replace M := M.call hb; clear hb
     refine sh_out hK _ _ (MA.mk (fun h => (no_of (by kernel_rfl) h).elim) (M.mask [false, true, true, false] rfl)) ?_; clear hK K
     refine g_q (T := T) (i := 12) rfl (by kernel_rfl) (by kernel_rfl : (pbits 18 36863).setIfInBounds 12 true = pbits 18 40959) (si_and (si_G rfl) si_U) (fun _ _ _ h => h) rfl rfl rfl rfl (fun _ _ _ _ _ => (rn_move rfl (T.ev 0 rfl))) ?_; clear T ac; intro ac T
     refine g_q (T := T) (i := 13) rfl (by kernel_rfl) (by kernel_rfl : (pbits 18 40959).setIfInBounds 13 true = pbits 18 49151) (si_and (si_G rfl) si_U) (fun _ _ _ h => h) rfl rfl rfl rfl (fun _ _ _ _ _ => (rn_extract rfl (T.ev 0 rfl) rfl)) ?_; clear T ac; intro ac T
     refine g_q (T := T) (i := 14) rfl (by kernel_rfl) (by kernel_rfl : (pbits 18 49151).setIfInBounds 14 true = pbits 18 65535) (si_and (si_G rfl) si_U) (fun _ _ _ h => h) rfl rfl rfl rfl (fun _ _ _ _ _ => (rn_extract rfl (T.ev 1 rfl) rfl)) ?_; clear T ac; intro ac T
     refine g_w (i := 16) (by kernel_rfl) rfl (by kernel_rfl : (pbits 18 65535).setIfInBounds 16 true = pbits 18 131071) rfl ?_; intro K hK
     refine ow_stO M T rfl rfl (T.ev 6 rfl) (T.ev 1 rfl) rfl .head rfl (by simp) rfl (by kernel_rfl) ?_; clear M T; intro wc ac M T
     refine sh_out hK _ _ (MA.mk (fun h => (no_of (by kernel_rfl) h).elim) (M.mask [false, true, true, false] rfl)) ?_; clear hK K
     refine g_q (T := T) (i := 17) rfl (by kernel_rfl) (by kernel_rfl : (pbits 18 131071).setIfInBounds 17 true = pbits 18 262143) (si_and (si_G rfl) si_U) (fun _ _ _ h => h) rfl rfl rfl rfl (fun _ _ _ _ _ => (rn_assign rfl (T.ev 0 rfl))) ?_; clear T ac; intro ac T
     refine g_done (by kernel_rfl) ?_
     replace T := T.pick [0, 7, 17, 18, 19, 20, 21, 22, 23] rfl
     exact ⟨xur6_9, sur6_9, haur6_11, hcur6_11, hxur6_9, hsur6_9, hhur6_11, hkur6_11, gr6_15, (T.pick (E' := [(3, .pointer (some ⟨bpu1, 0, none⟩)), (4, .pointer (some ⟨g1, 0, none⟩)), (5, .slice Au3 lu3.length cu3), (6, .pointer (some ⟨gr4_6, 0, none⟩)), (7, .slice Aur4_5 lur4_5.length cur4_5), (8, .int .i64 ((passesT ju2).1)), (9, .int .i64 ((passesT ju2).2)), (10, .pointer (some ⟨gr6_15, 0, none⟩)), (11, .int .i64 0)]) [4, 5, 6, 7, 8, 3, 2, 1, 0] rfl).as (by rfl), M.mask [true, true, true, true] rfl⟩
   ·clear T M
    rintro ac wc ⟨xur6_9, sur6_9, haur6_11, hcur6_11, hxur6_9, hsur6_9, hhur6_11, hkur6_11, gr6_15, T, M⟩
    refine wp_seq ?_
    refine cut_seq (fun ac wc => Tm ac 205 [(3, .pointer (some ⟨bpu1, 0, none⟩)), (4, .pointer (some ⟨g1, 0, none⟩)), (5, .slice Au3 lu3.length cu3), (6, .pointer (some ⟨gr4_6, 0, none⟩)), (7, .slice Aur4_5 lur4_5.length cur4_5), (85, .bool ((!(decide (((passesT ju2).2) = 0))) || ((!(rightB ((passesT ju2).1) (decide ((farF xur4_2 lur4_5) ≤ ju2.wi)))) || ((!(decide (haur6_11 ≤ xur4_2 ∧ xur4_2 ≤ hcur6_11))) || (!(hasB ju2.p0 ju2.p1 haur6_11 hcur6_11))))))] ∧ Mem w noEx wc ((gr4_6, .cells [.int .i64 xur4_2, .int .i64 yur4_2, .int .i64 zur4_2]) :: (g1, .cells (jobL ju2 Au2 cu2)) :: (bpu1, .cells [.int .u64 sur6_9]) :: (Iu2 ++ Iu3 ++ Iur4_5))) ?_ ?_
    ·refine g_start2 M (M.mask [true, true, true, true] rfl) 33 (by kernel_rfl) rfl (by kernel_rfl) ?_
     clear M; intro wc M
     refine g_q (T := T) (i := 0) rfl (by kernel_rfl) (by kernel_rfl : (pbits 33 0).setIfInBounds 0 true = pbits 33 1) si_U (fun _ _ _ h => h) rfl rfl rfl rfl (fun _ _ _ _ _ => (rn_move rfl (T.ev 6 rfl))) ?_; clear T ac; intro ac T
     refine g_q (T := T) (i := 1) rfl (by kernel_rfl) (by kernel_rfl : (pbits 33 1).setIfInBounds 1 true = pbits 33 3) si_U (fun _ _ _ h => h) rfl rfl rfl rfl (fun _ _ _ _ _ => (rn_neq rfl (T.ev 0 rfl) evc)) ?_; clear T ac; intro ac T
     refine g_q (T := T) (i := 2) rfl (by kernel_rfl) (by kernel_rfl : (pbits 33 3).setIfInBounds 2 true = pbits 33 7) si_U (fun _ _ _ h => h) rfl rfl rfl rfl (fun _ _ _ _ _ => (rn_move rfl (T.ev 0 rfl))) ?_; clear T ac; intro ac T
     rcases Bool.eq_false_or_eq_true (!(decide (((passesT ju2).2) = 0))) with h1 | h1
     ·replace h1 : ¬ (((passesT ju2).2) = 0) := by first | (rw [Bool.not_eq_true'] at h1; exact of_decide_eq_false h1) | simpa using h1
      refine g_pass (T := T) (i := 3) rfl (by kernel_rfl) (by kernel_rfl : (pbits 33 7).setIfInBounds 3 true = pbits 33 15) si_U (fun _ _ _ h => h) (wanted_no rfl rfl (T.ev 0 rfl) (by simp [h1])) rfl rfl rfl ?_; clear T ac; intro ac T
      refine g_pass (T := T) (i := 4) rfl (by kernel_rfl) (by kernel_rfl : (pbits 33 15).setIfInBounds 4 true = pbits 33 31) si_U (fun _ _ _ h => h) (wanted_no rfl rfl (T.ev 1 rfl) (by simp [h1])) rfl rfl rfl ?_; clear T ac; intro ac T
      refine g_q (T := T) (i := 5) rfl (by kernel_rfl) (by kernel_rfl : (pbits 33 31).setIfInBounds 5 true = pbits 33 63) si_U (fun _ _ _ h => h) rfl rfl rfl rfl (fun _ _ _ _ _ => (rn_pick1 rfl (T.ev 2 rfl) (by simp [h1]) evc)) ?_; clear T ac; intro ac T
      refine g_q (T := T) (i := 6) rfl (by kernel_rfl) (by kernel_rfl : (pbits 33 63).setIfInBounds 6 true = pbits 33 127) si_U (fun _ _ _ h => h) rfl rfl rfl rfl (fun _ _ _ _ _ => (rn_move rfl (T.ev 0 rfl))) ?_; clear T ac; intro ac T
      refine g_pass (T := T) (i := 7) rfl (by kernel_rfl) (by kernel_rfl : (pbits 33 127).setIfInBounds 7 true = pbits 33 255) si_U (fun _ _ _ h => h) (wanted_no rfl rfl (T.ev 0 rfl) rfl) rfl rfl rfl ?_; clear T ac; intro ac T
      refine g_pass (T := T) (i := 8) rfl (by kernel_rfl) (by kernel_rfl : (pbits 33 255).setIfInBounds 8 true = pbits 33 511) si_U (fun _ _ _ h => h) (wanted_no rfl rfl (T.ev 1 rfl) rfl) rfl rfl rfl ?_; clear T ac; intro ac T
      refine g_pass (T := T) (i := 9) rfl (by kernel_rfl) (by kernel_rfl : (pbits 33 511).setIfInBounds 9 true = pbits 33 1023) si_U (fun _ _ _ h => h) (wanted_no rfl rfl (T.ev 2 rfl) rfl) rfl rfl rfl ?_; clear T ac; intro ac T
      refine g_pass (T := T) (i := 10) rfl (by kernel_rfl) (by kernel_rfl : (pbits 33 1023).setIfInBounds 10 true = pbits 33 2047) si_U (fun _ _ _ h => h) (wanted_no rfl rfl (T.ev 3 rfl) rfl) rfl rfl rfl ?_; clear T ac; intro ac T
      refine g_pass (T := T) (i := 12) rfl (by kernel_rfl) (by kernel_rfl : (pbits 33 2047).setIfInBounds 12 true = pbits 33 6143) si_U (fun _ _ _ h => h) (wanted_no rfl rfl (T.ev 4 rfl) rfl) rfl rfl rfl ?_; clear T ac; intro ac T
      refine g_pass (T := T) (i := 13) rfl (by kernel_rfl) (by kernel_rfl : (pbits 33 6143).setIfInBounds 13 true = pbits 33 14335) si_U (fun _ _ _ h => h) (wanted_no rfl rfl (T.ev 5 rfl) rfl) rfl rfl rfl ?_; clear T ac; intro ac T
      refine g_pass (T := T) (i := 11) rfl (by kernel_rfl) (by kernel_rfl : (pbits 33 14335).setIfInBounds 11 true = pbits 33 16383) si_U (fun _ _ _ h => h) (wanted_no rfl rfl (T.ev 6 rfl) rfl) rfl rfl rfl ?_; clear T ac; intro ac T
      refine g_pass (T := T) (i := 14) rfl (by kernel_rfl) (by kernel_rfl : (pbits 33 16383).setIfInBounds 14 true = pbits 33 32767) si_U (fun _ _ _ h => h) (wanted_no rfl rfl (T.ev 7 rfl) rfl) rfl rfl rfl ?_; clear T ac; intro ac T
      refine g_pass (T := T) (i := 15) rfl (by kernel_rfl) (by kernel_rfl : (pbits 33 32767).setIfInBounds 15 true = pbits 33 65535) si_U (fun _ _ _ h => h) (wanted_no rfl rfl (T.ev 8 rfl) rfl) rfl rfl rfl ?_; clear T ac; intro ac T
      refine g_pass (T := T) (i := 16) rfl (by kernel_rfl) (by kernel_rfl : (pbits 33 65535).setIfInBounds 16 true = pbits 33 131071) si_U (fun _ _ _ h => h) (wanted_no rfl rfl (T.ev 9 rfl) rfl) rfl rfl rfl ?_; clear T ac; intro ac T
      refine g_q (T := T) (i := 17) rfl (by kernel_rfl) (by kernel_rfl : (pbits 33 131071).setIfInBounds 17 true = pbits 33 262143) si_U (fun _ _ _ h => h) rfl rfl rfl rfl (fun _ _ _ _ _ => (rn_pick1 rfl (T.ev 10 rfl) rfl evc)) ?_; clear T ac; intro ac T
      refine g_q (T := T) (i := 18) rfl (by kernel_rfl) (by kernel_rfl : (pbits 33 262143).setIfInBounds 18 true = pbits 33 524287) si_U (fun _ _ _ h => h) rfl rfl rfl rfl (fun _ _ _ _ _ => (rn_move rfl (T.ev 0 rfl))) ?_; clear T ac; intro ac T
      refine g_pass (T := T) (i := 19) rfl (by kernel_rfl) (by kernel_rfl : (pbits 33 524287).setIfInBounds 19 true = pbits 33 1048575) si_U (fun _ _ _ h => h) (wanted_no rfl rfl (T.ev 0 rfl) rfl) rfl rfl rfl ?_; clear T ac; intro ac T
      refine g_pass (T := T) (i := 20) rfl (by kernel_rfl) (by kernel_rfl : (pbits 33 1048575).setIfInBounds 20 true = pbits 33 2097151) si_U (fun _ _ _ h => h) (wanted_no rfl rfl (T.ev 1 rfl) rfl) rfl rfl rfl ?_; clear T ac; intro ac T
      refine g_pass (T := T) (i := 21) rfl (by kernel_rfl) (by kernel_rfl : (pbits 33 2097151).setIfInBounds 21 true = pbits 33 4194303) si_U (fun _ _ _ h => h) (wanted_no rfl rfl (T.ev 2 rfl) rfl) rfl rfl rfl ?_; clear T ac; intro ac T
      refine g_pass (T := T) (i := 22) rfl (by kernel_rfl) (by kernel_rfl : (pbits 33 4194303).setIfInBounds 22 true = pbits 33 8388607) si_U (fun _ _ _ h => h) (wanted_no rfl rfl (T.ev 3 rfl) rfl) rfl rfl rfl ?_; clear T ac; intro ac T
      refine g_pass (T := T) (i := 23) rfl (by kernel_rfl) (by kernel_rfl : (pbits 33 8388607).setIfInBounds 23 true = pbits 33 16777215) si_U (fun _ _ _ h => h) (wanted_no rfl rfl (T.ev 4 rfl) rfl) rfl rfl rfl ?_; clear T ac; intro ac T
      refine g_q (T := T) (i := 24) rfl (by kernel_rfl) (by kernel_rfl : (pbits 33 16777215).setIfInBounds 24 true = pbits 33 33554431) si_U (fun _ _ _ h => h) rfl rfl rfl rfl (fun _ _ _ _ _ => (rn_pick1 rfl (T.ev 5 rfl) rfl evc)) ?_; clear T ac; intro ac T
      refine g_q (T := T) (i := 25) rfl (by kernel_rfl) (by kernel_rfl : (pbits 33 33554431).setIfInBounds 25 true = pbits 33 67108863) si_U (fun _ _ _ h => h) rfl rfl rfl rfl (fun _ _ _ _ _ => (rn_move rfl (T.ev 0 rfl))) ?_; clear T ac; intro ac T
      refine g_pass (T := T) (i := 26) rfl (by kernel_rfl) (by kernel_rfl : (pbits 33 67108863).setIfInBounds 26 true = pbits 33 134217727) si_U (fun _ _ _ h => h) (wanted_no rfl rfl (T.ev 0 rfl) rfl) rfl rfl rfl ?_; clear T ac; intro ac T
      refine g_pass (T := T) (i := 27) rfl (by kernel_rfl) (by kernel_rfl : (pbits 33 134217727).setIfInBounds 27 true = pbits 33 268435455) si_U (fun _ _ _ h => h) (wanted_no rfl rfl (T.ev 1 rfl) rfl) rfl rfl rfl ?_; clear T ac; intro ac T
      refine g_pass (T := T) (i := 28) rfl (by kernel_rfl) (by kernel_rfl : (pbits 33 268435455).setIfInBounds 28 true = pbits 33 536870911) si_U (fun _ _ _ h => h) (wanted_no rfl rfl (T.ev 2 rfl) rfl) rfl rfl rfl ?_; clear T ac; intro ac T
      refine g_pass (T := T) (i := 29) rfl (by kernel_rfl) (by kernel_rfl : (pbits 33 536870911).setIfInBounds 29 true = pbits 33 1073741823) si_U (fun _ _ _ h => h) (wanted_no rfl rfl (T.ev 3 rfl) rfl) rfl rfl rfl ?_; clear T ac; intro ac T
      refine g_pass (T := T) (i := 30) rfl (by kernel_rfl) (by kernel_rfl : (pbits 33 1073741823).setIfInBounds 30 true = pbits 33 2147483647) si_U (fun _ _ _ h => h) (wanted_no rfl rfl (T.ev 4 rfl) rfl) rfl rfl rfl ?_; clear T ac; intro ac T
      refine g_pass (T := T) (i := 31) rfl (by kernel_rfl) (by kernel_rfl : (pbits 33 2147483647).setIfInBounds 31 true = pbits 33 4294967295) si_U (fun _ _ _ h => h) (wanted_no rfl rfl (T.ev 5 rfl) rfl) rfl rfl rfl ?_; clear T ac; intro ac T
      refine g_q (T := T) (i := 32) rfl (by kernel_rfl) (by kernel_rfl : (pbits 33 4294967295).setIfInBounds 32 true = pbits 33 8589934591) si_U (fun _ _ _ h => h) rfl rfl rfl rfl (fun _ _ _ _ _ => (rn_pick1 rfl (T.ev 6 rfl) rfl evc)) ?_; clear T ac; intro ac T
      refine g_done (by kernel_rfl) ?_
      replace T := T.pick [0, 33, 34, 35, 36, 37] rfl
      replace M := M.mask [false, true, true, true] rfl
      exact ⟨(T.pick (E' := [(3, .pointer (some ⟨bpu1, 0, none⟩)), (4, .pointer (some ⟨g1, 0, none⟩)), (5, .slice Au3 lu3.length cu3), (6, .pointer (some ⟨gr4_6, 0, none⟩)), (7, .slice Aur4_5 lur4_5.length cur4_5), (85, .bool true)]) [1, 2, 3, 4, 5, 0] rfl).as (by (try rw [show (!(decide (((passesT ju2).2) = 0))) = true from (by simp [h1])]); (try rfl)), M.mask [true, true, true] rfl⟩
     ·replace h1 : ((passesT ju2).2) = 0 := by first | (rw [Bool.not_eq_false'] at h1; exact of_decide_eq_true h1) | simpa using h1
      refine g_q (T := T) (i := 3) rfl (by kernel_rfl) (by kernel_rfl : (pbits 33 7).setIfInBounds 3 true = pbits 33 15) si_U (fun _ _ _ h => h) (wanted_yes rfl rfl (T.ev 0 rfl) (by simp [h1])) rfl rfl rfl (fun _ _ _ _ _ => (rn_move rfl (T.ev 11 rfl))) ?_; clear T ac; intro ac T
      refine g_q (v := (.bool false)) (T := T) (i := 4) rfl (by kernel_rfl) (by kernel_rfl : (pbits 33 15).setIfInBounds 4 true = pbits 33 31) si_U (fun _ _ _ h => h) (wanted_yes rfl rfl (T.ev 1 rfl) (by simp [h1])) rfl rfl rfl (fun _ _ _ _ _ => (rn_neqof (rn_neq rfl (T.ev 0 rfl) evc) (by simp))) ?_; clear T ac; intro ac T
      refine g_q (T := T) (i := 5) rfl (by kernel_rfl) (by kernel_rfl : (pbits 33 31).setIfInBounds 5 true = pbits 33 63) si_U (fun _ _ _ h => h) rfl rfl rfl rfl (fun _ _ _ _ _ => (rn_pick0 rfl (T.ev 2 rfl) (by simp [h1]) (T.ev 0 rfl))) ?_; clear T ac; intro ac T
      refine g_q (T := T) (i := 6) rfl (by kernel_rfl) (by kernel_rfl : (pbits 33 63).setIfInBounds 6 true = pbits 33 127) si_U (fun _ _ _ h => h) rfl rfl rfl rfl (fun _ _ _ _ _ => (rn_move rfl (T.ev 0 rfl))) ?_; clear T ac; intro ac T
      refine g_q (T := T) (i := 7) rfl (by kernel_rfl) (by kernel_rfl : (pbits 33 127).setIfInBounds 7 true = pbits 33 255) si_U (fun _ _ _ h => h) (wanted_yes rfl rfl (T.ev 0 rfl) rfl) rfl rfl rfl (fun _ _ _ _ _ => (rn_move rfl (T.ev 12 rfl))) ?_; clear T ac; intro ac T
      refine g_q (v := (.pointer (some ⟨gr4_6, 0, none⟩))) (T := T) (i := 8) rfl (by kernel_rfl) (by kernel_rfl : (pbits 33 255).setIfInBounds 8 true = pbits 33 511) si_U (fun _ _ _ h => h) (wanted_yes rfl rfl (T.ev 1 rfl) rfl) rfl rfl rfl (fun _ _ _ _ _ => (rn_fieldAddr (off := 0) rfl (T.ev 11 rfl) (fun _ _ _ => by kernel_rfl))) ?_; clear T ac; intro ac T
      refine g_q (T := T) (i := 9) rfl (by kernel_rfl) (by kernel_rfl : (pbits 33 511).setIfInBounds 9 true = pbits 33 1023) si_U (fun _ _ _ h => h) (wanted_yes rfl rfl (T.ev 2 rfl) rfl) rfl rfl rfl (fun B w' hD hl hS => (rn_one (Mem.nth (show Mem w noEx w' _ from hS) 1 rfl) rfl (T.ev 0 rfl) rfl)) ?_; clear T ac; intro ac T
      refine g_q (T := T) (i := 10) rfl (by kernel_rfl) (by kernel_rfl : (pbits 33 1023).setIfInBounds 10 true = pbits 33 2047) si_U (fun _ _ _ h => h) (wanted_yes rfl rfl (T.ev 3 rfl) rfl) rfl rfl rfl (fun _ _ _ _ _ => (rn_move rfl (T.ev 14 rfl))) ?_; clear T ac; intro ac T
      refine g_q (v := (.pointer (some ⟨g1, 16, none⟩))) (T := T) (i := 12) rfl (by kernel_rfl) (by kernel_rfl : (pbits 33 2047).setIfInBounds 12 true = pbits 33 6143) si_U (fun _ _ _ h => h) (wanted_yes rfl rfl (T.ev 4 rfl) rfl) rfl rfl rfl (fun _ _ _ _ _ => (rn_fieldAddr (off := 16) rfl (T.ev 12 rfl) (fun _ _ _ => by kernel_rfl))) ?_; clear T ac; intro ac T
      refine g_q (T := T) (i := 13) rfl (by kernel_rfl) (by kernel_rfl : (pbits 33 6143).setIfInBounds 13 true = pbits 33 14335) si_U (fun _ _ _ h => h) (wanted_yes rfl rfl (T.ev 5 rfl) rfl) rfl rfl rfl (fun B w' hD hl hS => (rn_one (Mem.nth (show Mem w noEx w' _ from hS) 2 rfl) rfl (T.ev 0 rfl) rfl)) ?_; clear T ac; intro ac T
      refine g_w (i := 11) (by kernel_rfl) rfl (by kernel_rfl : (pbits 33 14335).setIfInBounds 11 true = pbits 33 16383) (wanted_yes rfl rfl (T.ev 6 rfl) rfl) ?_; intro K hK
      refine ow_call (first := []) (cap := []) T rfl rfl rfl rfl evf (.cons (T.ev 3 rfl) (.cons (T.ev 2 rfl) .nil)) Try.func13 rfl rfl ?_
      refine Calls.mono (far_any xur4_2 _ _ _ lur4_5 _ (Sur4_5.rd M (.cons _ (.cons _ (.cons _ (.cons _ (List.sublist_append_right _ _)))))) (by have := shf_len hgu2 hqur4_5; omega) (by omega) (shf_bd hgu2 hqur4_5)) ?_
      clear T
      rintro e wc ⟨rfl, hb⟩
      intro ac T
      replace M := M.call hb; clear hb
      refine sh_out hK _ _ (M.mask [true, true, true, true] rfl) ?_; clear hK K
      refine g_addU M ?_
      refine g_q (T := T) (i := 14) rfl (by kernel_rfl) (by kernel_rfl : (pbits 33 16383).setIfInBounds 14 true = pbits 33 32767) (si_and si_U si_U) (fun _ _ _ h => h) (wanted_yes rfl rfl (T.ev 7 rfl) rfl) rfl rfl rfl (fun _ _ _ _ _ => (rn_leq rfl (T.ev 0 rfl) (T.ev 1 rfl))) ?_; clear T ac; intro ac T
      refine g_w (i := 15) (by kernel_rfl) rfl (by kernel_rfl : (pbits 33 32767).setIfInBounds 15 true = pbits 33 65535) (wanted_yes rfl rfl (T.ev 8 rfl) rfl) ?_; intro K hK
      refine ow_call (first := []) (cap := []) T rfl rfl rfl rfl evf (.cons (T.ev 7 rfl) (.cons (T.ev 0 rfl) .nil)) Try.func12 rfl rfl ?_
      refine Calls.mono (right_any ((passesT ju2).1) (decide ((farF xur4_2 lur4_5) ≤ ju2.wi)) _) ?_
      clear T
      rintro e wc ⟨rfl, hb⟩
      intro ac T
      replace M := M.call hb; clear hb
      refine sh_out hK _ _ (MA.mk (M.mask [true, true, true, true] rfl) (M.mask [true, true, true, true] rfl)) ?_; clear hK K
      refine g_addU M ?_
      refine g_q (T := T) (i := 16) rfl (by kernel_rfl) (by kernel_rfl : (pbits 33 65535).setIfInBounds 16 true = pbits 33 131071) (si_and si_U (si_and si_U si_U)) (fun _ _ _ h => h) (wanted_yes rfl rfl (T.ev 9 rfl) rfl) rfl rfl rfl (fun _ _ _ _ _ => (rn_not rfl (T.ev 0 rfl))) ?_; clear T ac; intro ac T
      refine g_q (T := T) (i := 17) rfl (by kernel_rfl) (by kernel_rfl : (pbits 33 131071).setIfInBounds 17 true = pbits 33 262143) (si_and si_U (si_and si_U si_U)) (fun _ _ _ h => h) rfl rfl rfl rfl (fun _ _ _ _ _ => (rn_pick0 rfl (T.ev 10 rfl) rfl (T.ev 0 rfl))) ?_; clear T ac; intro ac T
      refine g_q (T := T) (i := 18) rfl (by kernel_rfl) (by kernel_rfl : (pbits 33 262143).setIfInBounds 18 true = pbits 33 524287) (si_and si_U (si_and si_U si_U)) (fun _ _ _ h => h) rfl rfl rfl rfl (fun _ _ _ _ _ => (rn_move rfl (T.ev 0 rfl))) ?_; clear T ac; intro ac T
      rcases Bool.eq_false_or_eq_true (!(rightB ((passesT ju2).1) (decide ((farF xur4_2 lur4_5) ≤ ju2.wi)))) with h2 | h2
      ·refine g_pass (T := T) (i := 19) rfl (by kernel_rfl) (by kernel_rfl : (pbits 33 524287).setIfInBounds 19 true = pbits 33 1048575) (si_and si_U (si_and si_U si_U)) (fun _ _ _ h => h) (wanted_no rfl rfl (T.ev 0 rfl) h2) rfl rfl rfl ?_; clear T ac; intro ac T
       refine g_pass (T := T) (i := 20) rfl (by kernel_rfl) (by kernel_rfl : (pbits 33 1048575).setIfInBounds 20 true = pbits 33 2097151) (si_and si_U (si_and si_U si_U)) (fun _ _ _ h => h) (wanted_no rfl rfl (T.ev 1 rfl) h2) rfl rfl rfl ?_; clear T ac; intro ac T
       refine g_pass (T := T) (i := 21) rfl (by kernel_rfl) (by kernel_rfl : (pbits 33 2097151).setIfInBounds 21 true = pbits 33 4194303) (si_and si_U (si_and si_U si_U)) (fun _ _ _ h => h) (wanted_no rfl rfl (T.ev 2 rfl) h2) rfl rfl rfl ?_; clear T ac; intro ac T
       refine g_pass (T := T) (i := 22) rfl (by kernel_rfl) (by kernel_rfl : (pbits 33 4194303).setIfInBounds 22 true = pbits 33 8388607) (si_and si_U (si_and si_U si_U)) (fun _ _ _ h => h) (wanted_no rfl rfl (T.ev 3 rfl) h2) rfl rfl rfl ?_; clear T ac; intro ac T
       refine g_pass (T := T) (i := 23) rfl (by kernel_rfl) (by kernel_rfl : (pbits 33 8388607).setIfInBounds 23 true = pbits 33 16777215) (si_and si_U (si_and si_U si_U)) (fun _ _ _ h => h) (wanted_no rfl rfl (T.ev 4 rfl) h2) rfl rfl rfl ?_; clear T ac; intro ac T
       refine g_q (T := T) (i := 24) rfl (by kernel_rfl) (by kernel_rfl : (pbits 33 16777215).setIfInBounds 24 true = pbits 33 33554431) (si_and si_U (si_and si_U si_U)) (fun _ _ _ h => h) rfl rfl rfl rfl (fun _ _ _ _ _ => (rn_pick1 rfl (T.ev 5 rfl) h2 evc)) ?_; clear T ac; intro ac T
       refine g_q (T := T) (i := 25) rfl (by kernel_rfl) (by kernel_rfl : (pbits 33 33554431).setIfInBounds 25 true = pbits 33 67108863) (si_and si_U (si_and si_U si_U)) (fun _ _ _ h => h) rfl rfl rfl rfl (fun _ _ _ _ _ => (rn_move rfl (T.ev 0 rfl))) ?_; clear T ac; intro ac T
       refine g_pass (T := T) (i := 26) rfl (by kernel_rfl) (by kernel_rfl : (pbits 33 67108863).setIfInBounds 26 true = pbits 33 134217727) (si_and si_U (si_and si_U si_U)) (fun _ _ _ h => h) (wanted_no rfl rfl (T.ev 0 rfl) rfl) rfl rfl rfl ?_; clear T ac; intro ac T
       refine g_pass (T := T) (i := 27) rfl (by kernel_rfl) (by kernel_rfl : (pbits 33 134217727).setIfInBounds 27 true = pbits 33 268435455) (si_and si_U (si_and si_U si_U)) (fun _ _ _ h => h) (wanted_no rfl rfl (T.ev 1 rfl) rfl) rfl rfl rfl ?_; clear T ac; intro ac T
       refine g_pass (T := T) (i := 28) rfl (by kernel_rfl) (by kernel_rfl : (pbits 33 268435455).setIfInBounds 28 true = pbits 33 536870911) (si_and si_U (si_and si_U si_U)) (fun _ _ _ h => h) (wanted_no rfl rfl (T.ev 2 rfl) rfl) rfl rfl rfl ?_; clear T ac; intro ac T
       refine g_pass (T := T) (i := 29) rfl (by kernel_rfl) (by kernel_rfl : (pbits 33 536870911).setIfInBounds 29 true = pbits 33 1073741823) (si_and si_U (si_and si_U si_U)) (fun _ _ _ h => h) (wanted_no rfl rfl (T.ev 3 rfl) rfl) rfl rfl rfl ?_; clear T ac; intro ac T
       refine g_pass (T := T) (i := 30) rfl (by kernel_rfl) (by kernel_rfl : (pbits 33 1073741823).setIfInBounds 30 true = pbits 33 2147483647) (si_and si_U (si_and si_U si_U)) (fun _ _ _ h => h) (wanted_no rfl rfl (T.ev 4 rfl) rfl) rfl rfl rfl ?_; clear T ac; intro ac T
       refine g_pass (T := T) (i := 31) rfl (by kernel_rfl) (by kernel_rfl : (pbits 33 2147483647).setIfInBounds 31 true = pbits 33 4294967295) (si_and si_U (si_and si_U si_U)) (fun _ _ _ h => h) (wanted_no rfl rfl (T.ev 5 rfl) rfl) rfl rfl rfl ?_; clear T ac; intro ac T
       refine g_q (T := T) (i := 32) rfl (by kernel_rfl) (by kernel_rfl : (pbits 33 4294967295).setIfInBounds 32 true = pbits 33 8589934591) (si_and si_U (si_and si_U si_U)) (fun _ _ _ h => h) rfl rfl rfl rfl (fun _ _ _ _ _ => (rn_pick1 rfl (T.ev 6 rfl) rfl evc)) ?_; clear T ac; intro ac T
       refine g_done (by kernel_rfl) ?_
       replace T := T.pick [0, 33, 34, 35, 36, 37] rfl
       replace M := M.mask [false, true, true, true] rfl
       exact ⟨(T.pick (E' := [(3, .pointer (some ⟨bpu1, 0, none⟩)), (4, .pointer (some ⟨g1, 0, none⟩)), (5, .slice Au3 lu3.length cu3), (6, .pointer (some ⟨gr4_6, 0, none⟩)), (7, .slice Aur4_5 lur4_5.length cur4_5), (85, .bool true)]) [1, 2, 3, 4, 5, 0] rfl).as (by (try rw [show (!(decide (((passesT ju2).2) = 0))) = false from (by simp [h1])]); (try rw [show (!(rightB ((passesT ju2).1) (decide ((farF xur4_2 lur4_5) ≤ ju2.wi)))) = true from h2]); (try rfl)), M.mask [true, true, true] rfl⟩
      ·refine g_q (T := T) (i := 19) rfl (by kernel_rfl) (by kernel_rfl : (pbits 33 524287).setIfInBounds 19 true = pbits 33 1048575) (si_and si_U (si_and si_U si_U)) (fun _ _ _ h => h) (wanted_yes rfl rfl (T.ev 0 rfl) h2) rfl rfl rfl (fun B w' hD hl hS => (rn_rowO (Mem.nth (show Mem w noEx w' _ from (MA.lft hS)) 0 rfl) rfl (T.ev 26 rfl) rfl)) ?_; clear T ac; intro ac T
       refine g_q (v := (.pointer (some ⟨gr4_6, 0, none⟩))) (T := T) (i := 20) rfl (by kernel_rfl) (by kernel_rfl : (pbits 33 1048575).setIfInBounds 20 true = pbits 33 2097151) (si_and si_U (si_and si_U si_U)) (fun _ _ _ h => h) (wanted_yes rfl rfl (T.ev 1 rfl) h2) rfl rfl rfl (fun _ _ _ _ _ => (rn_fieldAddr (off := 0) rfl (T.ev 23 rfl) (fun _ _ _ => by kernel_rfl))) ?_; clear T ac; intro ac T
       refine g_q (T := T) (i := 21) rfl (by kernel_rfl) (by kernel_rfl : (pbits 33 2097151).setIfInBounds 21 true = pbits 33 4194303) (si_and si_U (si_and si_U si_U)) (fun _ _ _ h => h) (wanted_yes rfl rfl (T.ev 2 rfl) h2) rfl rfl rfl (fun B w' hD hl hS => (rn_one (Mem.nth (show Mem w noEx w' _ from (MA.lft hS)) 1 rfl) rfl (T.ev 0 rfl) rfl)) ?_; clear T ac; intro ac T
       refine g_w (i := 22) (by kernel_rfl) rfl (by kernel_rfl : (pbits 33 4194303).setIfInBounds 22 true = pbits 33 8388607) (wanted_yes rfl rfl (T.ev 3 rfl) h2) ?_; intro K hK
       refine ow_call (first := []) (cap := []) T rfl rfl rfl rfl evf (.cons (T.ev 2 rfl) (.cons (T.ev 0 rfl) .nil)) Try.func14 rfl rfl ?_
       refine Calls.mono (in_x haur6_11 hcur6_11 xur4_2 _) ?_
       clear T
       rintro e wc ⟨rfl, hb⟩
       intro ac T
       replace M := M.call hb; clear hb
       refine sh_out hK _ _ (MA.mk (M.mask [true, true, true, true] rfl) (MA.mk (M.mask [true, true, true, true] rfl) (M.mask [true, true, true, true] rfl))) ?_; clear hK K
       refine g_addU M ?_
       refine g_q (T := T) (i := 23) rfl (by kernel_rfl) (by kernel_rfl : (pbits 33 8388607).setIfInBounds 23 true = pbits 33 16777215) (si_and si_U (si_and si_U (si_and si_U si_U))) (fun _ _ _ h => h) (wanted_yes rfl rfl (T.ev 4 rfl) h2) rfl rfl rfl (fun _ _ _ _ _ => (rn_not rfl (T.ev 0 rfl))) ?_; clear T ac; intro ac T
       refine g_q (T := T) (i := 24) rfl (by kernel_rfl) (by kernel_rfl : (pbits 33 16777215).setIfInBounds 24 true = pbits 33 33554431) (si_and si_U (si_and si_U (si_and si_U si_U))) (fun _ _ _ h => h) rfl rfl rfl rfl (fun _ _ _ _ _ => (rn_pick0 rfl (T.ev 5 rfl) h2 (T.ev 0 rfl))) ?_; clear T ac; intro ac T
       refine g_q (T := T) (i := 25) rfl (by kernel_rfl) (by kernel_rfl : (pbits 33 33554431).setIfInBounds 25 true = pbits 33 67108863) (si_and si_U (si_and si_U (si_and si_U si_U))) (fun _ _ _ h => h) rfl rfl rfl rfl (fun _ _ _ _ _ => (rn_move rfl (T.ev 0 rfl))) ?_; clear T ac; intro ac T
       rcases Bool.eq_false_or_eq_true (!(decide (haur6_11 ≤ xur4_2 ∧ xur4_2 ≤ hcur6_11))) with h3 | h3
       ·replace h3 : ¬ (haur6_11 ≤ xur4_2 ∧ xur4_2 ≤ hcur6_11) := by first | (rw [Bool.not_eq_true'] at h3; exact of_decide_eq_false h3) | simpa using h3
        refine g_pass (T := T) (i := 26) rfl (by kernel_rfl) (by kernel_rfl : (pbits 33 67108863).setIfInBounds 26 true = pbits 33 134217727) (si_and si_U (si_and si_U (si_and si_U si_U))) (fun _ _ _ h => h) (wanted_no rfl rfl (T.ev 0 rfl) (by simp [h3])) rfl rfl rfl ?_; clear T ac; intro ac T
        refine g_pass (T := T) (i := 27) rfl (by kernel_rfl) (by kernel_rfl : (pbits 33 134217727).setIfInBounds 27 true = pbits 33 268435455) (si_and si_U (si_and si_U (si_and si_U si_U))) (fun _ _ _ h => h) (wanted_no rfl rfl (T.ev 1 rfl) (by simp [h3])) rfl rfl rfl ?_; clear T ac; intro ac T
        refine g_pass (T := T) (i := 28) rfl (by kernel_rfl) (by kernel_rfl : (pbits 33 268435455).setIfInBounds 28 true = pbits 33 536870911) (si_and si_U (si_and si_U (si_and si_U si_U))) (fun _ _ _ h => h) (wanted_no rfl rfl (T.ev 2 rfl) (by simp [h3])) rfl rfl rfl ?_; clear T ac; intro ac T
        refine g_pass (T := T) (i := 29) rfl (by kernel_rfl) (by kernel_rfl : (pbits 33 536870911).setIfInBounds 29 true = pbits 33 1073741823) (si_and si_U (si_and si_U (si_and si_U si_U))) (fun _ _ _ h => h) (wanted_no rfl rfl (T.ev 3 rfl) (by simp [h3])) rfl rfl rfl ?_; clear T ac; intro ac T
        refine g_pass (T := T) (i := 30) rfl (by kernel_rfl) (by kernel_rfl : (pbits 33 1073741823).setIfInBounds 30 true = pbits 33 2147483647) (si_and si_U (si_and si_U (si_and si_U si_U))) (fun _ _ _ h => h) (wanted_no rfl rfl (T.ev 4 rfl) (by simp [h3])) rfl rfl rfl ?_; clear T ac; intro ac T
        refine g_pass (T := T) (i := 31) rfl (by kernel_rfl) (by kernel_rfl : (pbits 33 2147483647).setIfInBounds 31 true = pbits 33 4294967295) (si_and si_U (si_and si_U (si_and si_U si_U))) (fun _ _ _ h => h) (wanted_no rfl rfl (T.ev 5 rfl) (by simp [h3])) rfl rfl rfl ?_; clear T ac; intro ac T
        refine g_q (T := T) (i := 32) rfl (by kernel_rfl) (by kernel_rfl : (pbits 33 4294967295).setIfInBounds 32 true = pbits 33 8589934591) (si_and si_U (si_and si_U (si_and si_U si_U))) (fun _ _ _ h => h) rfl rfl rfl rfl (fun _ _ _ _ _ => (rn_pick1 rfl (T.ev 6 rfl) (by simp [h3]) evc)) ?_; clear T ac; intro ac T
        refine g_done (by kernel_rfl) ?_
        replace T := T.pick [0, 33, 34, 35, 36, 37] rfl
        replace M := M.mask [false, true, true, true] rfl
        exact ⟨(T.pick (E' := [(3, .pointer (some ⟨bpu1, 0, none⟩)), (4, .pointer (some ⟨g1, 0, none⟩)), (5, .slice Au3 lu3.length cu3), (6, .pointer (some ⟨gr4_6, 0, none⟩)), (7, .slice Aur4_5 lur4_5.length cur4_5), (85, .bool true)]) [1, 2, 3, 4, 5, 0] rfl).as (by (try rw [show (!(decide (((passesT ju2).2) = 0))) = false from (by simp [h1])]); (try rw [show (!(rightB ((passesT ju2).1) (decide ((farF xur4_2 lur4_5) ≤ ju2.wi)))) = false from h2]); (try rw [show (!(decide (haur6_11 ≤ xur4_2 ∧ xur4_2 ≤ hcur6_11))) = true from (by simp [h3])]); (try rfl)), M.mask [true, true, true] rfl⟩
       ·replace h3 : haur6_11 ≤ xur4_2 ∧ xur4_2 ≤ hcur6_11 := by first | (rw [Bool.not_eq_false'] at h3; exact of_decide_eq_true h3) | simpa using h3
        refine g_q (v := (.pointer (some ⟨g1, 0, none⟩))) (T := T) (i := 26) rfl (by kernel_rfl) (by kernel_rfl : (pbits 33 67108863).setIfInBounds 26 true = pbits 33 134217727) (si_and si_U (si_and si_U (si_and si_U si_U))) (fun _ _ _ h => h) (wanted_yes rfl rfl (T.ev 0 rfl) (by simp [h3])) rfl rfl rfl (fun _ _ _ _ _ => (rn_fieldAddr (off := 0) rfl (T.ev 27 rfl) (fun _ _ _ => by kernel_rfl))) ?_; clear T ac; intro ac T
        refine g_q (v := (.pointer (some ⟨g1, 0, none⟩))) (T := T) (i := 27) rfl (by kernel_rfl) (by kernel_rfl : (pbits 33 134217727).setIfInBounds 27 true = pbits 33 268435455) (si_and si_U (si_and si_U (si_and si_U si_U))) (fun _ _ _ h => h) (wanted_yes rfl rfl (T.ev 1 rfl) (by simp [h3])) rfl rfl rfl (fun _ _ _ _ _ => (rn_fieldAddr (off := 0) rfl (T.ev 0 rfl) (fun _ _ _ => by kernel_rfl))) ?_; clear T ac; intro ac T
        refine g_q (T := T) (i := 28) rfl (by kernel_rfl) (by kernel_rfl : (pbits 33 268435455).setIfInBounds 28 true = pbits 33 536870911) (si_and si_U (si_and si_U (si_and si_U si_U))) (fun _ _ _ h => h) (wanted_yes rfl rfl (T.ev 2 rfl) (by simp [h3])) rfl rfl rfl (fun B w' hD hl hS => (rn_rowO (Mem.nth (show Mem w noEx w' _ from (MA.lft hS)) 2 rfl) rfl (T.ev 0 rfl) rfl)) ?_; clear T ac; intro ac T
        refine g_q (T := T) (i := 29) rfl (by kernel_rfl) (by kernel_rfl : (pbits 33 536870911).setIfInBounds 29 true = pbits 33 1073741823) (si_and si_U (si_and si_U (si_and si_U si_U))) (fun _ _ _ h => h) (wanted_yes rfl rfl (T.ev 3 rfl) (by simp [h3])) rfl rfl rfl (fun B w' hD hl hS => (rn_rowO (Mem.nth (show Mem w noEx w' _ from (MA.lft hS)) 0 rfl) rfl (T.ev 36 rfl) rfl)) ?_; clear T ac; intro ac T
        refine g_w (i := 30) (by kernel_rfl) rfl (by kernel_rfl : (pbits 33 1073741823).setIfInBounds 30 true = pbits 33 2147483647) (wanted_yes rfl rfl (T.ev 4 rfl) (by simp [h3])) ?_; intro K hK
        refine ow_call (first := []) (cap := []) T rfl rfl rfl rfl evf (.cons (T.ev 1 rfl) (.cons (T.ev 0 rfl) .nil)) Try.func15 rfl rfl ?_
        refine Calls.mono (wider_any ju2.p0 ju2.p1 haur6_11 hcur6_11 _) ?_
        clear T
        rintro e wc ⟨rfl, hb⟩
        intro ac T
        replace M := M.call hb; clear hb
        refine sh_out hK _ _ (MA.mk (M.mask [true, true, true, true] rfl) (MA.mk (M.mask [true, true, true, true] rfl) (MA.mk (M.mask [true, true, true, true] rfl) (M.mask [true, true, true, true] rfl)))) ?_; clear hK K
        refine g_q (T := T) (i := 31) rfl (by kernel_rfl) (by kernel_rfl : (pbits 33 2147483647).setIfInBounds 31 true = pbits 33 4294967295) (si_and si_U (si_and si_U (si_and si_U si_U))) (fun _ _ _ h => h) (wanted_yes rfl rfl (T.ev 5 rfl) (by simp [h3])) rfl rfl rfl (fun _ _ _ _ _ => (rn_not rfl (T.ev 0 rfl))) ?_; clear T ac; intro ac T
        refine g_q (T := T) (i := 32) rfl (by kernel_rfl) (by kernel_rfl : (pbits 33 4294967295).setIfInBounds 32 true = pbits 33 8589934591) (si_and si_U (si_and si_U (si_and si_U si_U))) (fun _ _ _ h => h) rfl rfl rfl rfl (fun _ _ _ _ _ => (rn_pick0 rfl (T.ev 6 rfl) (by simp [h3]) (T.ev 0 rfl))) ?_; clear T ac; intro ac T
        refine g_done (by kernel_rfl) ?_
        replace T := T.pick [0, 33, 34, 35, 36, 37] rfl
        replace M := M.mask [false, true, true, true] rfl
        exact ⟨(T.pick (E' := [(3, .pointer (some ⟨bpu1, 0, none⟩)), (4, .pointer (some ⟨g1, 0, none⟩)), (5, .slice Au3 lu3.length cu3), (6, .pointer (some ⟨gr4_6, 0, none⟩)), (7, .slice Aur4_5 lur4_5.length cur4_5), (85, .bool (!(hasB ju2.p0 ju2.p1 haur6_11 hcur6_11)))]) [1, 2, 3, 4, 5, 0] rfl).as (by (try rw [show (!(decide (((passesT ju2).2) = 0))) = false from (by simp [h1])]); (try rw [show (!(rightB ((passesT ju2).1) (decide ((farF xur4_2 lur4_5) ≤ ju2.wi)))) = false from h2]); (try rw [show (!(decide (haur6_11 ≤ xur4_2 ∧ xur4_2 ≤ hcur6_11))) = false from (by simp [h3])]); (try rfl)), M.mask [true, true, true] rfl⟩
    ·clear T M
     rintro ac wc ⟨T, M⟩
     refine wp_cond_split (T.ev 5 rfl) ?_ ?_
     ·intro h4
      (try have h4' := h4; try simp only [Bool.and_eq_true, Bool.or_eq_true, Bool.not_eq_true', Bool.and_eq_false_imp, Bool.or_eq_false_iff, decide_eq_true_eq, decide_eq_false_iff_not] at h4')
      refine wp_seq ?_
      refine wp_region_lit ?_
      refine l_q T rfl rfl rfl rfl (rn_assign rfl evc) ?_; clear T ac; intro ac T
      refine wpList_nil ?_
      replace T := T.pick [0] rfl
      replace M := M.mask [false, false, false] rfl
      refine nm_then ?_
      refine wp_ret ?_
      refine rt_then ?_
      refine rt_1 T rfl (T.ev 0 rfl) ?_
      exfalso
      have hp9 : passesT ju2 = (passesJ ju2 ju2.p0 ju2.p1, 0) := if_pos (check_of_good hgu2)
      have e1 := passes_right hgu2 hqur4_5 hxp0
      simp [hp9, e1, hhur6_11, hkur6_11] at h4
     ·intro h4
      (try have h4' := h4; try simp only [Bool.and_eq_true, Bool.or_eq_true, Bool.not_eq_true', Bool.and_eq_false_imp, Bool.or_eq_false_iff, decide_eq_true_eq, decide_eq_false_iff_not] at h4')
      refine wp_skip ?_
      refine nm_then ?_
      refine wp_seq ?_
      refine wp_seq ?_
      refine wp_region_lit ?_
      refine l_q T rfl rfl rfl rfl (rn_assign rfl evc) ?_; clear T ac; intro ac T
      refine wpList_nil ?_
      replace T := T.pick [0, 1, 2, 3, 4, 5] rfl
      refine nm_then ?_
      refine wp_block ?_
      refine wp_loop_n (fun mz ac wc => ∃ (i : Nat) (a b c9 s : Int), mz = lu3.length - i ∧ (i ≤ lu3.length) ∧ (InS (ju2.st.after (lu3.take i)) a b c9) ∧ (u64ok s) ∧ Tm ac 205 [(3, .pointer (some ⟨bpu1, 0, none⟩)), (4, .pointer (some ⟨g1, 0, none⟩)), (5, .slice Au3 lu3.length cu3), (6, .pointer (some ⟨gr4_6, 0, none⟩)), (7, .slice Aur4_5 lur4_5.length cur4_5), (12, .int .i64 (i : Int))] ∧ Mem w noEx wc ((gr4_6, .cells [.int .i64 a, .int .i64 b, .int .i64 c9]) :: (g1, .cells (jobL ju2 Au2 cu2)) :: (bpu1, .cells [.int .u64 s]) :: (Iu2 ++ Iu3 ++ Iur4_5))) ?_ ?_
      ·exact ⟨_, 0, xur4_2, yur4_2, zur4_2, _, rfl, (by omega), hxur4_2, hsur6_9, T.pick [1, 2, 3, 4, 5, 0] rfl, M.mask [true, true, true] rfl⟩
      ·clear T M
       rintro mz ac wc ⟨i, a, b, c9, s, hmm1, hi, hin, hs, T, M⟩
       refine wp_seq ?_
       refine wp_seq ?_
       refine wp_region_lit ?_
       refine l_q T rfl rfl rfl rfl (rn_move rfl (T.ev 5 rfl)) ?_; clear T ac; intro ac T
       refine l_q T rfl rfl rfl rfl (rn_move rfl (T.ev 3 rfl)) ?_; clear T ac; intro ac T
       refine l_q T rfl rfl rfl rfl (rn_lenS rfl Try.underlying22 (T.ev 0 rfl)) ?_; clear T ac; intro ac T
       refine l_q T rfl rfl rfl rfl (rn_lss rfl (T.ev 2 rfl) (T.ev 0 rfl)) ?_; clear T ac; intro ac T
       refine wpList_nil ?_
       replace T := T.pick [0, 4, 5, 6, 7, 8, 9] rfl
       refine nm_then ?_
       refine wp_if (T.ev 0 rfl) ?_ ?_
       ·intro h5
        obtain ⟨k9, hk9, hd9⟩ := ic_next (l := lu3) (k := i) (by omega)
        refine wp_skip ?_
        refine nm_then ?_
        refine wp_seq ?_
        refine wp_block ?_
        refine g_start2 M (M.mask [false, true, false] rfl) 9 (by kernel_rfl) rfl (by kernel_rfl) ?_
        clear M; intro wc M
        refine g_addG 7 M ?_
        refine g_addG 8 (M.mask [true, true, false] rfl) ?_
        refine g_q (T := T) (i := 0) rfl (by kernel_rfl) (by kernel_rfl : (pbits 9 0).setIfInBounds 0 true = pbits 9 1) (si_and (si_G rfl) (si_and (si_G rfl) si_U)) (fun _ _ _ h => h) rfl rfl rfl rfl (fun _ _ _ _ _ => (rn_move rfl (T.ev 1 rfl))) ?_; clear T ac; intro ac T
        refine g_q (T := T) (i := 1) rfl (by kernel_rfl) (by kernel_rfl : (pbits 9 1).setIfInBounds 1 true = pbits 9 3) (si_and (si_G rfl) (si_and (si_G rfl) si_U)) (fun _ _ _ h => h) rfl rfl rfl rfl (fun B w' hD hl hS => (rn_rowO (Mem.nth (show Mem w noEx w' _ from ((MA.lft hS) (hD.wait (i := 1) (m := 8) (by kernel_rfl) hl))) 1 rfl) rfl (T.ev 3 rfl) rfl)) ?_; clear T ac; intro ac T
        refine g_q (T := T) (i := 2) rfl (by kernel_rfl) (by kernel_rfl : (pbits 9 3).setIfInBounds 2 true = pbits 9 7) (si_and (si_G rfl) (si_and (si_G rfl) si_U)) (fun _ _ _ h => h) rfl rfl rfl rfl (fun B w' hD hl hS => (rn_rowO (Mem.nth (show Mem w noEx w' _ from ((MA.lft hS) (hD.wait (i := 2) (m := 8) (by kernel_rfl) hl))) 0 rfl) rfl (T.ev 6 rfl) rfl)) ?_; clear T ac; intro ac T
        refine g_q (T := T) (i := 3) rfl (by kernel_rfl) (by kernel_rfl : (pbits 9 7).setIfInBounds 3 true = pbits 9 15) (si_and (si_G rfl) (si_and (si_G rfl) si_U)) (fun _ _ _ h => h) rfl rfl rfl rfl (fun _ _ _ _ _ => (rn_move rfl (T.ev 6 rfl))) ?_; clear T ac; intro ac T
        refine g_q (T := T) (i := 4) rfl (by kernel_rfl) (by kernel_rfl : (pbits 9 15).setIfInBounds 4 true = pbits 9 31) (si_and (si_G rfl) (si_and (si_G rfl) si_U)) (fun _ _ _ h => h) rfl rfl rfl rfl (fun _ _ _ _ _ => (rn_move rfl (T.ev 10 rfl))) ?_; clear T ac; intro ac T
        refine g_q (T := T) (i := 5) rfl (by kernel_rfl) (by kernel_rfl : (pbits 9 31).setIfInBounds 5 true = pbits 9 63) (si_and (si_G rfl) (si_and (si_G rfl) si_U)) (fun _ _ _ h => h) rfl rfl rfl rfl (fun _ _ _ _ _ => (rn_indexAddr (size := 1) i rfl (T.ev 1 rfl) (T.ev 0 rfl) ⟨_, Try.underlying22, by kernel_rfl⟩ rfl (by omega) (Su3.at0 (by omega)))) ?_; clear T ac; intro ac T
        refine g_q (T := T) (i := 6) rfl (by kernel_rfl) (by kernel_rfl : (pbits 9 63).setIfInBounds 6 true = pbits 9 127) (si_and (si_G rfl) (si_and (si_G rfl) si_U)) (fun _ _ _ h => h) rfl rfl rfl rfl (fun B w' hD hl hS => (rn_cell (Sp.ic0 Su3 (show Mem w noEx w' _ from ((MA.lft hS) (hD.wait (i := 6) (m := 8) (by kernel_rfl) hl))) (.cons _ (.cons _ (subL (List.sublist_append_right _ _)))) hk9) rfl (T.ev 0 rfl))) ?_; clear T ac; intro ac T
        refine g_w (i := 7) (by kernel_rfl) rfl (by kernel_rfl : (pbits 9 127).setIfInBounds 7 true = pbits 9 255) rfl ?_; intro K hK
        refine ow_call (first := []) (cap := []) T rfl rfl rfl rfl evf (.cons (T.ev 6 rfl) (.cons (T.ev 5 rfl) (.cons (T.ev 4 rfl) (.cons (T.ev 0 rfl) .nil)))) Try.func16 rfl rfl ?_
        refine Calls.mono (strike_any _ bpu1 ju2 _ _ (ju2.st.after (lu3.take i)) a b c9 k9 _ hgu2 (FileOf.after _ ⟨rfl, rfl, rfl, rfl, rfl, rfl, rfl, rfl, rfl⟩) hin (after_upT hgu2 (by rw [List.length_take]; omega)) (hqu3 _ (List.mem_of_getElem? hk9)) (M.nth 2 rfl) hs) ?_
        clear T
        rintro e wc ⟨xu9, yu9, zu9, su9, hxu9, hsu9, rfl, hgr, hbk⟩
        intro ac T
        replace M := M.callC (cs' := [.int .u64 su9]) (.tail (.tail .head)) hgr hbk
        clear hgr hbk
        refine sh_out hK _ _ (MA.mk (fun _ => M.mask [true, true, false] rfl) (MA.mk (fun h => (no_of (by kernel_rfl) h).elim) (M.mask [false, true, false] rfl))) ?_; clear hK K
        refine g_w (i := 8) (by kernel_rfl) rfl (by kernel_rfl : (pbits 9 255).setIfInBounds 8 true = pbits 9 511) rfl ?_; intro K hK
        refine ow_stO M T rfl rfl (T.ev 12 rfl) (T.ev 0 rfl) rfl .head rfl (by simp) rfl (by kernel_rfl) ?_; clear M T; intro wc ac M T
        refine sh_out hK _ _ (MA.mk (fun h => (no_of (by kernel_rfl) h).elim) (MA.mk (fun h => (no_of (by kernel_rfl) h).elim) (M.mask [false, true, false] rfl))) ?_; clear hK K
        refine g_done (by kernel_rfl) ?_
        replace T := T.pick [9, 10, 11, 12, 13, 14] rfl
        refine nm_blk ?_
        refine nm_then ?_
        refine wp_region_lit ?_
        refine l_q T rfl rfl rfl rfl (rn_move rfl (T.ev 5 rfl)) ?_; clear T ac; intro ac T
        refine l_q T rfl rfl rfl rfl (rn_add rfl (T.ev 0 rfl) evc (by omega)) ?_; clear T ac; intro ac T
        refine l_q (v := (.int .i64 ((i : Int) + 1))) (T.pick [0, 1, 2, 3, 4, 5, 6] rfl) rfl rfl rfl rfl (rn_assign rfl (T.ev 0 rfl)) ?_; clear T ac; intro ac T
        refine wpList_nil ?_
        replace T := T.pick [0, 3, 4, 5, 6, 7] rfl
        refine nm_then ?_
        exact ⟨_, by omega, i + 1, xu9, yu9, zu9, su9, rfl, (by omega), (by rw [after_snoc _ _ _ _ hd9]; exact hxu9), hsu9, T.pick [1, 2, 3, 4, 5, 0] rfl, M.mask [true, true, true] rfl⟩
       ·intro h5
        rw [List.take_of_length_le (by omega)] at hin
        have hup9 := after_upT hgu2 (l := lu3) (by omega)
        have hup1 := hup9.p0
        have hup2 := hup9.p1
        have hin1 := hin.p
        obtain ⟨tp1, tp2, tp3, tp4, tp5⟩ := top_after hgu2 (l := lu3) (by omega) hqu3
        refine wp_exit ?_
        refine ex_then ?_
        refine ex_then ?_
        refine ex_hit ?_
        refine nm_then ?_
        refine wp_seq ?_
        refine wp_region_lit ?_
        refine l_q T rfl rfl rfl rfl (rn_rowO (Mem.nth M 1 rfl) rfl (T.ev 2 rfl) rfl) ?_; clear T ac; intro ac T
        refine l_q T rfl rfl rfl rfl (rn_move rfl (T.ev 4 rfl)) ?_; clear T ac; intro ac T
        refine l_w rfl ?_; intro K hK
        refine ow_call (first := []) (cap := []) T rfl rfl rfl rfl evf (.cons (T.ev 1 rfl) (.cons (T.ev 0 rfl) .nil)) Try.func17 rfl rfl ?_
        refine Calls.mono (After_T ju2 _ _ _ _ _ lu3 _ (Su2.rd M (.cons _ (.cons _ (.cons _ (subL (subL (List.Sublist.refl _))))))) (by first | omega | (simp only [List.length_cons, List.length_nil, List.length_set]; omega)) (Su3.rd M (.cons _ (.cons _ (.cons _ (subL (List.sublist_append_right _ _)))))) (by first | omega | (simp only [List.length_cons, List.length_nil, List.length_set]; omega))) ?_
        clear T
        rintro e wc ⟨rfl, hb⟩
        intro ac T
        replace M := M.call hb; clear hb
        refine sh_out hK _ _ ?_; clear hK K
        refine l_q T rfl rfl rfl rfl (rn_move rfl (T.ev 0 rfl)) ?_; clear T ac; intro ac T
        refine l_q T rfl rfl rfl rfl (rn_extract rfl (T.ev 0 rfl) rfl) ?_; clear T ac; intro ac T
        refine l_q T rfl rfl rfl rfl (rn_extract rfl (T.ev 1 rfl) rfl) ?_; clear T ac; intro ac T
        refine l_w rfl ?_; intro K hK
        refine ow_al M T rfl rfl rfl rfl ?_; clear M T; intro g2 wc ac M T
        refine sh_out hK _ _ ?_; clear hK K
        refine l_w rfl ?_; intro K hK
        refine ow_stO M T rfl rfl (T.ev 0 rfl) (T.ev 2 rfl) rfl .head rfl (by simp) rfl (by kernel_rfl) ?_; clear M T; intro wc ac M T
        refine sh_out hK _ _ ?_; clear hK K
        refine l_q T rfl rfl rfl rfl (rn_assign rfl (T.ev 1 rfl)) ?_; clear T ac; intro ac T
        refine wpList_nil ?_
        replace T := T.pick [0, 1, 10, 11, 12, 13] rfl
        replace M := M.mask [true, true, true, false] rfl
        refine nm_then ?_
        refine wp_seq ?_
        refine wp_region_lit ?_
        refine l_q T rfl rfl rfl rfl (rn_rowO (Mem.nth M 2 rfl) rfl (T.ev 2 rfl) rfl) ?_; clear T ac; intro ac T
        refine l_q T rfl rfl rfl rfl (rn_move rfl (T.ev 4 rfl)) ?_; clear T ac; intro ac T
        refine l_w rfl ?_; intro K hK
        refine ow_call (first := []) (cap := []) T rfl rfl rfl rfl evf (.cons (T.ev 1 rfl) (.cons (T.ev 0 rfl) .nil)) Try.func18 rfl rfl ?_
        refine Calls.mono (Worst_any ju2 _ _ _ _ _ lu3 _ (Su2.rd M (.cons _ (.cons _ (.cons _ (subL (subL (List.Sublist.refl _))))))) (by first | omega | (simp only [List.length_cons, List.length_nil, List.length_set]; omega)) (Su3.rd M (.cons _ (.cons _ (.cons _ (subL (List.sublist_append_right _ _)))))) (by first | omega | (simp only [List.length_cons, List.length_nil, List.length_set]; omega))) ?_
        clear T
        rintro e wc ⟨rfl, hb⟩
        intro ac T
        replace M := M.call hb; clear hb
        refine sh_out hK _ _ ?_; clear hK K
        refine l_q T rfl rfl rfl rfl (rn_move rfl (T.ev 0 rfl)) ?_; clear T ac; intro ac T
        refine l_q T rfl rfl rfl rfl (rn_extract rfl (T.ev 0 rfl) rfl) ?_; clear T ac; intro ac T
        refine l_q T rfl rfl rfl rfl (rn_extract rfl (T.ev 1 rfl) rfl) ?_; clear T ac; intro ac T
        refine l_q T rfl rfl rfl rfl (rn_assign rfl (T.ev 1 rfl)) ?_; clear T ac; intro ac T
        refine l_q T rfl rfl rfl rfl (rn_assign rfl (T.ev 1 rfl)) ?_; clear T ac; intro ac T
        refine wpList_nil ?_
        replace T := T.pick [0, 1, 8, 9, 10, 11, 12, 13] rfl
        refine nm_then ?_
        refine wp_seq ?_
        refine wp_region_lit ?_
        refine l_q T rfl rfl rfl rfl (rn_rowO (Mem.nth M 2 rfl) rfl (T.ev 4 rfl) rfl) ?_; clear T ac; intro ac T
        refine l_q T rfl rfl rfl rfl (rn_move rfl (T.ev 6 rfl)) ?_; clear T ac; intro ac T
        refine l_w rfl ?_; intro K hK
        refine ow_call (first := []) (cap := []) T rfl rfl rfl rfl evf (.cons (T.ev 1 rfl) (.cons (T.ev 0 rfl) .nil)) Try.func19 rfl rfl ?_
        refine Calls.mono (Spoiled_any ju2 _ _ _ _ _ lu3 _ (Su2.rd M (.cons _ (.cons _ (.cons _ (subL (subL (List.Sublist.refl _))))))) (by first | omega | (simp only [List.length_cons, List.length_nil, List.length_set]; omega)) (Su3.rd M (.cons _ (.cons _ (.cons _ (subL (List.sublist_append_right _ _)))))) (by first | omega | (simp only [List.length_cons, List.length_nil, List.length_set]; omega))) ?_
        clear T
        rintro e wc ⟨rfl, hb⟩
        intro ac T
        replace M := M.call hb; clear hb
        refine sh_out hK _ _ ?_; clear hK K
        refine l_q T rfl rfl rfl rfl (rn_move rfl (T.ev 0 rfl)) ?_; clear T ac; intro ac T
        refine l_q T rfl rfl rfl rfl (rn_extract rfl (T.ev 0 rfl) rfl) ?_; clear T ac; intro ac T
        refine l_q T rfl rfl rfl rfl (rn_extract rfl (T.ev 1 rfl) rfl) ?_; clear T ac; intro ac T
        refine l_q T rfl rfl rfl rfl (rn_assign rfl (T.ev 1 rfl)) ?_; clear T ac; intro ac T
        refine l_q T rfl rfl rfl rfl (rn_assign rfl (T.ev 1 rfl)) ?_; clear T ac; intro ac T
        refine wpList_nil ?_
        replace T := T.pick [0, 1, 8, 9, 10, 11, 12, 13, 14, 15] rfl
        refine nm_then ?_
        refine wp_seq ?_
        refine wp_region_lit ?_
        refine l_q T rfl rfl rfl rfl (rn_rowO (Mem.nth M 2 rfl) rfl (T.ev 6 rfl) rfl) ?_; clear T ac; intro ac T
        refine l_q T rfl rfl rfl rfl (rn_move rfl (T.ev 8 rfl)) ?_; clear T ac; intro ac T
        refine l_w rfl ?_; intro K hK
        refine ow_call (first := []) (cap := []) T rfl rfl rfl rfl evf (.cons (T.ev 1 rfl) (.cons (T.ev 0 rfl) .nil)) Try.func20 rfl rfl ?_
        refine Calls.mono (Fine_any ju2 _ _ _ _ _ lu3 _ (Su2.rd M (.cons _ (.cons _ (.cons _ (subL (subL (List.Sublist.refl _))))))) (by first | omega | (simp only [List.length_cons, List.length_nil, List.length_set]; omega)) (Su3.rd M (.cons _ (.cons _ (.cons _ (subL (List.sublist_append_right _ _)))))) (by first | omega | (simp only [List.length_cons, List.length_nil, List.length_set]; omega))) ?_
        clear T
        rintro e wc ⟨rfl, hb⟩
        intro ac T
        replace M := M.call hb; clear hb
        refine sh_out hK _ _ ?_; clear hK K
        refine l_q T rfl rfl rfl rfl (rn_move rfl (T.ev 0 rfl)) ?_; clear T ac; intro ac T
        refine l_q T rfl rfl rfl rfl (rn_extract rfl (T.ev 0 rfl) rfl) ?_; clear T ac; intro ac T
        refine l_q T rfl rfl rfl rfl (rn_extract rfl (T.ev 1 rfl) rfl) ?_; clear T ac; intro ac T
        refine l_q T rfl rfl rfl rfl (rn_assign rfl (T.ev 1 rfl)) ?_; clear T ac; intro ac T
        refine l_q T rfl rfl rfl rfl (rn_assign rfl (T.ev 1 rfl)) ?_; clear T ac; intro ac T
        refine wpList_nil ?_
        replace T := T.pick [0, 1, 8, 9, 10, 11, 12, 13, 14, 16, 17] rfl
        refine nm_then ?_
        refine cut_seq (fun ac wc => Tm ac 205 [(6, .pointer (some ⟨gr4_6, 0, none⟩)), (7, .slice Aur4_5 lur4_5.length cur4_5), (9, .int .i64 (checkStrokesJ ju2 lu3)), (11, .int .i64 ((worstT ju2 lu3).2)), (13, .pointer (some ⟨g2, 0, none⟩)), (14, .int .i64 ((worstT ju2 lu3).1)), (15, .int .i64 ((spoiledT ju2 lu3).1)), (16, .int .i64 ((spoiledT ju2 lu3).2)), (17, .int .i64 ((fineT ju2 lu3).1)), (18, .int .i64 ((fineT ju2 lu3).2)), (19, .bool (decide ((farF a lur4_5) ≤ ju2.wi))), (20, .bool ((decide (b < ju2.le)) || (decide (c9 < ju2.le))))] ∧ Mem w noEx wc ((g2, .cells [.int .i64 ((afT ju2 lu3).p0), .int .i64 ((afT ju2 lu3).p1), .int .i64 ((afT ju2 lu3).t0), .int .i64 ((afT ju2 lu3).t1), .int .i64 ((afT ju2 lu3).r0), .int .i64 ((afT ju2 lu3).r1)]) :: (gr4_6, .cells [.int .i64 a, .int .i64 b, .int .i64 c9]) :: (Iu2 ++ Iu3 ++ Iur4_5))) ?_ ?_
        ·refine g_start2 M (M.mask [true, true, true] rfl) 23 (by kernel_rfl) rfl (by kernel_rfl) ?_
         clear M; intro wc M
         refine g_q (v := (.pointer (some ⟨gr4_6, 0, none⟩))) (T := T) (i := 0) rfl (by kernel_rfl) (by kernel_rfl : (pbits 23 0).setIfInBounds 0 true = pbits 23 1) si_U (fun _ _ _ h => h) rfl rfl rfl rfl (fun _ _ _ _ _ => (rn_fieldAddr (off := 0) rfl (T.ev 9 rfl) (fun _ _ _ => by kernel_rfl))) ?_; clear T ac; intro ac T
         refine g_q (T := T) (i := 1) rfl (by kernel_rfl) (by kernel_rfl : (pbits 23 1).setIfInBounds 1 true = pbits 23 3) si_U (fun _ _ _ h => h) rfl rfl rfl rfl (fun B w' hD hl hS => (rn_one (Mem.nth (show Mem w noEx w' _ from hS) 1 rfl) rfl (T.ev 0 rfl) rfl)) ?_; clear T ac; intro ac T
         refine g_q (T := T) (i := 2) rfl (by kernel_rfl) (by kernel_rfl : (pbits 23 3).setIfInBounds 2 true = pbits 23 7) si_U (fun _ _ _ h => h) rfl rfl rfl rfl (fun _ _ _ _ _ => (rn_move rfl (T.ev 12 rfl))) ?_; clear T ac; intro ac T
         refine g_q (v := (.pointer (some ⟨g1, 16, none⟩))) (T := T) (i := 4) rfl (by kernel_rfl) (by kernel_rfl : (pbits 23 7).setIfInBounds 4 true = pbits 23 23) si_U (fun _ _ _ h => h) rfl rfl rfl rfl (fun _ _ _ _ _ => (rn_fieldAddr (off := 16) rfl (T.ev 11 rfl) (fun _ _ _ => by kernel_rfl))) ?_; clear T ac; intro ac T
         refine g_q (T := T) (i := 5) rfl (by kernel_rfl) (by kernel_rfl : (pbits 23 23).setIfInBounds 5 true = pbits 23 55) si_U (fun _ _ _ h => h) rfl rfl rfl rfl (fun B w' hD hl hS => (rn_one (Mem.nth (show Mem w noEx w' _ from hS) 2 rfl) rfl (T.ev 0 rfl) rfl)) ?_; clear T ac; intro ac T
         refine g_q (v := (.pointer (some ⟨gr4_6, 1, none⟩))) (T := T) (i := 7) rfl (by kernel_rfl) (by kernel_rfl : (pbits 23 55).setIfInBounds 7 true = pbits 23 183) si_U (fun _ _ _ h => h) rfl rfl rfl rfl (fun _ _ _ _ _ => (rn_fieldAddr (off := 1) rfl (T.ev 14 rfl) (fun _ _ _ => by kernel_rfl))) ?_; clear T ac; intro ac T
         refine g_q (T := T) (i := 8) rfl (by kernel_rfl) (by kernel_rfl : (pbits 23 183).setIfInBounds 8 true = pbits 23 439) si_U (fun _ _ _ h => h) rfl rfl rfl rfl (fun B w' hD hl hS => (rn_one (Mem.nth (show Mem w noEx w' _ from hS) 1 rfl) rfl (T.ev 0 rfl) rfl)) ?_; clear T ac; intro ac T
         refine g_q (v := (.pointer (some ⟨g1, 6, none⟩))) (T := T) (i := 9) rfl (by kernel_rfl) (by kernel_rfl : (pbits 23 439).setIfInBounds 9 true = pbits 23 951) si_U (fun _ _ _ h => h) rfl rfl rfl rfl (fun _ _ _ _ _ => (rn_fieldAddr (off := 6) rfl (T.ev 15 rfl) (fun _ _ _ => by kernel_rfl))) ?_; clear T ac; intro ac T
         refine g_q (v := (.pointer (some ⟨g1, 14, none⟩))) (T := T) (i := 10) rfl (by kernel_rfl) (by kernel_rfl : (pbits 23 951).setIfInBounds 10 true = pbits 23 1975) si_U (fun _ _ _ h => h) rfl rfl rfl rfl (fun _ _ _ _ _ => (rn_fieldAddr (off := 8) rfl (T.ev 0 rfl) (fun _ _ _ => by kernel_rfl))) ?_; clear T ac; intro ac T
         refine g_q (T := T) (i := 11) rfl (by kernel_rfl) (by kernel_rfl : (pbits 23 1975).setIfInBounds 11 true = pbits 23 4023) si_U (fun _ _ _ h => h) rfl rfl rfl rfl (fun B w' hD hl hS => (rn_one (Mem.nth (show Mem w noEx w' _ from hS) 2 rfl) rfl (T.ev 0 rfl) rfl)) ?_; clear T ac; intro ac T
         refine g_q (T := T) (i := 12) rfl (by kernel_rfl) (by kernel_rfl : (pbits 23 4023).setIfInBounds 12 true = pbits 23 8119) si_U (fun _ _ _ h => h) rfl rfl rfl rfl (fun _ _ _ _ _ => (rn_lss rfl (T.ev 3 rfl) (T.ev 0 rfl))) ?_; clear T ac; intro ac T
         refine g_w (i := 3) (by kernel_rfl) rfl (by kernel_rfl : (pbits 23 8119).setIfInBounds 3 true = pbits 23 8127) rfl ?_; intro K hK
         refine ow_call (first := []) (cap := []) T rfl rfl rfl rfl evf (.cons (T.ev 9 rfl) (.cons (T.ev 8 rfl) .nil)) Try.func13 rfl rfl ?_
         refine Calls.mono (far_any a _ _ _ lur4_5 _ (Sur4_5.rd M (.cons _ (.cons _ (.cons _ (List.sublist_append_right _ _))))) (by have := shf_len hgu2 hqur4_5; omega) (by omega) (shf_bd hgu2 hqur4_5)) ?_
         clear T
         rintro e wc ⟨rfl, hb⟩
         intro ac T
         replace M := M.call hb; clear hb
         refine sh_out hK _ _ (M.mask [true, true, true] rfl) ?_; clear hK K
         refine g_addU M ?_
         refine g_q (T := T) (i := 6) rfl (by kernel_rfl) (by kernel_rfl : (pbits 23 8127).setIfInBounds 6 true = pbits 23 8191) (si_and si_U si_U) (fun _ _ _ h => h) rfl rfl rfl rfl (fun _ _ _ _ _ => (rn_leq rfl (T.ev 0 rfl) (T.ev 7 rfl))) ?_; clear T ac; intro ac T
         refine g_q (T := T) (i := 13) rfl (by kernel_rfl) (by kernel_rfl : (pbits 23 8191).setIfInBounds 13 true = pbits 23 16383) (si_and si_U si_U) (fun _ _ _ h => h) rfl rfl rfl rfl (fun _ _ _ _ _ => (rn_move rfl (T.ev 2 rfl))) ?_; clear T ac; intro ac T
         rcases Bool.eq_false_or_eq_true (decide (b < ju2.le)) with h6 | h6
         ·replace h6 := of_decide_eq_true h6
          refine g_pass (T := T) (i := 14) rfl (by kernel_rfl) (by kernel_rfl : (pbits 23 16383).setIfInBounds 14 true = pbits 23 32767) (si_and si_U si_U) (fun _ _ _ h => h) (wanted_no rfl rfl (T.ev 0 rfl) (decide_eq_true h6)) rfl rfl rfl ?_; clear T ac; intro ac T
          refine g_pass (T := T) (i := 15) rfl (by kernel_rfl) (by kernel_rfl : (pbits 23 32767).setIfInBounds 15 true = pbits 23 65535) (si_and si_U si_U) (fun _ _ _ h => h) (wanted_no rfl rfl (T.ev 1 rfl) (decide_eq_true h6)) rfl rfl rfl ?_; clear T ac; intro ac T
          refine g_pass (T := T) (i := 16) rfl (by kernel_rfl) (by kernel_rfl : (pbits 23 65535).setIfInBounds 16 true = pbits 23 131071) (si_and si_U si_U) (fun _ _ _ h => h) (wanted_no rfl rfl (T.ev 2 rfl) (decide_eq_true h6)) rfl rfl rfl ?_; clear T ac; intro ac T
          refine g_pass (T := T) (i := 17) rfl (by kernel_rfl) (by kernel_rfl : (pbits 23 131071).setIfInBounds 17 true = pbits 23 262143) (si_and si_U si_U) (fun _ _ _ h => h) (wanted_no rfl rfl (T.ev 3 rfl) (decide_eq_true h6)) rfl rfl rfl ?_; clear T ac; intro ac T
          refine g_pass (T := T) (i := 18) rfl (by kernel_rfl) (by kernel_rfl : (pbits 23 262143).setIfInBounds 18 true = pbits 23 524287) (si_and si_U si_U) (fun _ _ _ h => h) (wanted_no rfl rfl (T.ev 4 rfl) (decide_eq_true h6)) rfl rfl rfl ?_; clear T ac; intro ac T
          refine g_pass (T := T) (i := 19) rfl (by kernel_rfl) (by kernel_rfl : (pbits 23 524287).setIfInBounds 19 true = pbits 23 1048575) (si_and si_U si_U) (fun _ _ _ h => h) (wanted_no rfl rfl (T.ev 5 rfl) (decide_eq_true h6)) rfl rfl rfl ?_; clear T ac; intro ac T
          refine g_q (T := T) (i := 20) rfl (by kernel_rfl) (by kernel_rfl : (pbits 23 1048575).setIfInBounds 20 true = pbits 23 2097151) (si_and si_U si_U) (fun _ _ _ h => h) rfl rfl rfl rfl (fun _ _ _ _ _ => (rn_pick1 rfl (T.ev 6 rfl) (decide_eq_true h6) evc)) ?_; clear T ac; intro ac T
          refine g_q (T := T) (i := 21) rfl (by kernel_rfl) (by kernel_rfl : (pbits 23 2097151).setIfInBounds 21 true = pbits 23 4194303) (si_and si_U si_U) (fun _ _ _ h => h) rfl rfl rfl rfl (fun _ _ _ _ _ => (rn_assign rfl (T.ev 8 rfl))) ?_; clear T ac; intro ac T
          refine g_q (T := T) (i := 22) rfl (by kernel_rfl) (by kernel_rfl : (pbits 23 4194303).setIfInBounds 22 true = pbits 23 8388607) (si_and si_U si_U) (fun _ _ _ h => h) rfl rfl rfl rfl (fun _ _ _ _ _ => (rn_assign rfl (T.ev 1 rfl))) ?_; clear T ac; intro ac T
          refine g_done (by kernel_rfl) ?_
          replace T := T.pick [0, 1, 23, 24, 25, 26, 27, 28, 29, 30, 32, 33] rfl
          replace M := M.mask [true, true, false] rfl
          exact ⟨(T.pick (E' := [(6, .pointer (some ⟨gr4_6, 0, none⟩)), (7, .slice Aur4_5 lur4_5.length cur4_5), (9, .int .i64 (checkStrokesJ ju2 lu3)), (11, .int .i64 ((worstT ju2 lu3).2)), (13, .pointer (some ⟨g2, 0, none⟩)), (14, .int .i64 ((worstT ju2 lu3).1)), (15, .int .i64 ((spoiledT ju2 lu3).1)), (16, .int .i64 ((spoiledT ju2 lu3).2)), (17, .int .i64 ((fineT ju2 lu3).1)), (18, .int .i64 ((fineT ju2 lu3).2)), (19, .bool (decide ((farF a lur4_5) ≤ ju2.wi))), (20, .bool true)]) [10, 11, 8, 6, 9, 7, 5, 4, 3, 2, 1, 0] rfl).as (by (try rw [show (decide (b < ju2.le)) = true from (decide_eq_true h6)]); (try rfl)), M.mask [true, true] rfl⟩
         ·replace h6 := of_decide_eq_false h6
          refine g_q (v := (.pointer (some ⟨gr4_6, 2, none⟩))) (T := T) (i := 14) rfl (by kernel_rfl) (by kernel_rfl : (pbits 23 16383).setIfInBounds 14 true = pbits 23 32767) (si_and si_U si_U) (fun _ _ _ h => h) (wanted_yes rfl rfl (T.ev 0 rfl) (decide_eq_false h6)) rfl rfl rfl (fun _ _ _ _ _ => (rn_fieldAddr (off := 2) rfl (T.ev 23 rfl) (fun _ _ _ => by kernel_rfl))) ?_; clear T ac; intro ac T
          refine g_q (T := T) (i := 15) rfl (by kernel_rfl) (by kernel_rfl : (pbits 23 32767).setIfInBounds 15 true = pbits 23 65535) (si_and si_U si_U) (fun _ _ _ h => h) (wanted_yes rfl rfl (T.ev 1 rfl) (decide_eq_false h6)) rfl rfl rfl (fun B w' hD hl hS => (rn_one (Mem.nth (show Mem w noEx w' _ from (MA.lft hS)) 1 rfl) rfl (T.ev 0 rfl) rfl)) ?_; clear T ac; intro ac T
          refine g_q (v := (.pointer (some ⟨g1, 6, none⟩))) (T := T) (i := 16) rfl (by kernel_rfl) (by kernel_rfl : (pbits 23 65535).setIfInBounds 16 true = pbits 23 131071) (si_and si_U si_U) (fun _ _ _ h => h) (wanted_yes rfl rfl (T.ev 2 rfl) (decide_eq_false h6)) rfl rfl rfl (fun _ _ _ _ _ => (rn_fieldAddr (off := 6) rfl (T.ev 24 rfl) (fun _ _ _ => by kernel_rfl))) ?_; clear T ac; intro ac T
          refine g_q (v := (.pointer (some ⟨g1, 14, none⟩))) (T := T) (i := 17) rfl (by kernel_rfl) (by kernel_rfl : (pbits 23 131071).setIfInBounds 17 true = pbits 23 262143) (si_and si_U si_U) (fun _ _ _ h => h) (wanted_yes rfl rfl (T.ev 3 rfl) (decide_eq_false h6)) rfl rfl rfl (fun _ _ _ _ _ => (rn_fieldAddr (off := 8) rfl (T.ev 0 rfl) (fun _ _ _ => by kernel_rfl))) ?_; clear T ac; intro ac T
          refine g_q (T := T) (i := 18) rfl (by kernel_rfl) (by kernel_rfl : (pbits 23 262143).setIfInBounds 18 true = pbits 23 524287) (si_and si_U si_U) (fun _ _ _ h => h) (wanted_yes rfl rfl (T.ev 4 rfl) (decide_eq_false h6)) rfl rfl rfl (fun B w' hD hl hS => (rn_one (Mem.nth (show Mem w noEx w' _ from (MA.lft hS)) 2 rfl) rfl (T.ev 0 rfl) rfl)) ?_; clear T ac; intro ac T
          refine g_q (T := T) (i := 19) rfl (by kernel_rfl) (by kernel_rfl : (pbits 23 524287).setIfInBounds 19 true = pbits 23 1048575) (si_and si_U si_U) (fun _ _ _ h => h) (wanted_yes rfl rfl (T.ev 5 rfl) (decide_eq_false h6)) rfl rfl rfl (fun _ _ _ _ _ => (rn_lss rfl (T.ev 3 rfl) (T.ev 0 rfl))) ?_; clear T ac; intro ac T
          refine g_q (T := T) (i := 20) rfl (by kernel_rfl) (by kernel_rfl : (pbits 23 1048575).setIfInBounds 20 true = pbits 23 2097151) (si_and si_U si_U) (fun _ _ _ h => h) rfl rfl rfl rfl (fun _ _ _ _ _ => (rn_pick0 rfl (T.ev 6 rfl) (decide_eq_false h6) (T.ev 0 rfl))) ?_; clear T ac; intro ac T
          refine g_q (T := T) (i := 21) rfl (by kernel_rfl) (by kernel_rfl : (pbits 23 2097151).setIfInBounds 21 true = pbits 23 4194303) (si_and si_U si_U) (fun _ _ _ h => h) rfl rfl rfl rfl (fun _ _ _ _ _ => (rn_assign rfl (T.ev 8 rfl))) ?_; clear T ac; intro ac T
          refine g_q (T := T) (i := 22) rfl (by kernel_rfl) (by kernel_rfl : (pbits 23 4194303).setIfInBounds 22 true = pbits 23 8388607) (si_and si_U si_U) (fun _ _ _ h => h) rfl rfl rfl rfl (fun _ _ _ _ _ => (rn_assign rfl (T.ev 1 rfl))) ?_; clear T ac; intro ac T
          refine g_done (by kernel_rfl) ?_
          replace T := T.pick [0, 1, 23, 24, 25, 26, 27, 28, 29, 30, 32, 33] rfl
          replace M := M.mask [true, true, false] rfl
          exact ⟨(T.pick (E' := [(6, .pointer (some ⟨gr4_6, 0, none⟩)), (7, .slice Aur4_5 lur4_5.length cur4_5), (9, .int .i64 (checkStrokesJ ju2 lu3)), (11, .int .i64 ((worstT ju2 lu3).2)), (13, .pointer (some ⟨g2, 0, none⟩)), (14, .int .i64 ((worstT ju2 lu3).1)), (15, .int .i64 ((spoiledT ju2 lu3).1)), (16, .int .i64 ((spoiledT ju2 lu3).2)), (17, .int .i64 ((fineT ju2 lu3).1)), (18, .int .i64 ((fineT ju2 lu3).2)), (19, .bool (decide ((farF a lur4_5) ≤ ju2.wi))), (20, .bool (decide (c9 < ju2.le)))]) [10, 11, 8, 6, 9, 7, 5, 4, 3, 2, 1, 0] rfl).as (by (try rw [show (decide (b < ju2.le)) = false from (decide_eq_false h6)]); (try rfl)), M.mask [true, true] rfl⟩
        ·clear T M
         rintro ac wc ⟨T, M⟩
         refine cut_seq (fun ac wc => Tm ac 205 [(2, .bool ((decide ((checkStrokesJ ju2 lu3) = 0)) && ((decide (((worstT ju2 lu3).2) = 0)) && ((decide (((spoiledT ju2 lu3).2) = 0)) && ((decide (((fineT ju2 lu3).2) = 0)) && ((decide (((afT ju2 lu3).p0) ≤ a ∧ a ≤ ((afT ju2 lu3).p1))) && ((decide (((afT ju2 lu3).t0) ≤ b ∧ b ≤ ((afT ju2 lu3).t1))) && ((decide (((afT ju2 lu3).r0) ≤ c9 ∧ c9 ≤ ((afT ju2 lu3).r1))) && ((decide ((farF a lur4_5) ≤ ((worstT ju2 lu3).1))) && ((rightB ((spoiledT ju2 lu3).1) ((decide (b < ju2.le)) || (decide (c9 < ju2.le)))) && (bif (decide ((farF a lur4_5) ≤ ju2.wi)) then (rightB ((fineT ju2 lu3).1) (!((decide (b < ju2.le)) || (decide (c9 < ju2.le))))) else (rightB ((fineT ju2 lu3).1) false))))))))))))] ∧ Mem w noEx wc ((Iu2 ++ Iu3 ++ Iur4_5))) ?_ ?_
         ·refine wp_region_lit ?_
          refine l_q T rfl rfl rfl rfl (rn_move rfl (T.ev 2 rfl)) ?_; clear T ac; intro ac T
          refine l_q T rfl rfl rfl rfl (rn_eql rfl (T.ev 0 rfl) evc) ?_; clear T ac; intro ac T
          refine l_q T rfl rfl rfl rfl (rn_move rfl (T.ev 0 rfl)) ?_; clear T ac; intro ac T
          rcases Bool.eq_false_or_eq_true (decide ((checkStrokesJ ju2 lu3) = 0)) with h7 | h7
          ·replace h7 := of_decide_eq_true h7
           refine l_q T (wanted_yes rfl rfl (T.ev 0 rfl) (decide_eq_true h7)) rfl rfl rfl (rn_move rfl (T.ev 6 rfl)) ?_; clear T ac; intro ac T
           refine l_q T (wanted_yes rfl rfl (T.ev 1 rfl) (decide_eq_true h7)) rfl rfl rfl (rn_eql rfl (T.ev 0 rfl) evc) ?_; clear T ac; intro ac T
           refine l_q T rfl rfl rfl rfl (rn_pick1 rfl (T.ev 2 rfl) (decide_eq_true h7) (T.ev 0 rfl)) ?_; clear T ac; intro ac T
           refine l_q T rfl rfl rfl rfl (rn_move rfl (T.ev 0 rfl)) ?_; clear T ac; intro ac T
           rcases Bool.eq_false_or_eq_true (decide (((worstT ju2 lu3).2) = 0)) with h8 | h8
           ·replace h8 := of_decide_eq_true h8
            refine l_q T (wanted_yes rfl rfl (T.ev 0 rfl) (decide_eq_true h8)) rfl rfl rfl (rn_move rfl (T.ev 14 rfl)) ?_; clear T ac; intro ac T
            refine l_q T (wanted_yes rfl rfl (T.ev 1 rfl) (decide_eq_true h8)) rfl rfl rfl (rn_eql rfl (T.ev 0 rfl) evc) ?_; clear T ac; intro ac T
            refine l_q T rfl rfl rfl rfl (rn_pick1 rfl (T.ev 2 rfl) (decide_eq_true h8) (T.ev 0 rfl)) ?_; clear T ac; intro ac T
            refine l_q T rfl rfl rfl rfl (rn_move rfl (T.ev 0 rfl)) ?_; clear T ac; intro ac T
            rcases Bool.eq_false_or_eq_true (decide (((spoiledT ju2 lu3).2) = 0)) with h9 | h9
            ·replace h9 := of_decide_eq_true h9
             refine l_q T (wanted_yes rfl rfl (T.ev 0 rfl) (decide_eq_true h9)) rfl rfl rfl (rn_move rfl (T.ev 20 rfl)) ?_; clear T ac; intro ac T
             refine l_q T (wanted_yes rfl rfl (T.ev 1 rfl) (decide_eq_true h9)) rfl rfl rfl (rn_eql rfl (T.ev 0 rfl) evc) ?_; clear T ac; intro ac T
             refine l_q T rfl rfl rfl rfl (rn_pick1 rfl (T.ev 2 rfl) (decide_eq_true h9) (T.ev 0 rfl)) ?_; clear T ac; intro ac T
             refine l_q T rfl rfl rfl rfl (rn_move rfl (T.ev 0 rfl)) ?_; clear T ac; intro ac T
             rcases Bool.eq_false_or_eq_true (decide (((fineT ju2 lu3).2) = 0)) with h10 | h10
             ·replace h10 := of_decide_eq_true h10
              refine l_q (v := (.pointer (some ⟨g2, 0, none⟩))) T (wanted_yes rfl rfl (T.ev 0 rfl) (decide_eq_true h10)) rfl rfl rfl (rn_fieldAddr (off := 0) rfl (T.ev 19 rfl) (fun _ _ _ => by kernel_rfl)) ?_; clear T ac; intro ac T
              refine l_q T (wanted_yes rfl rfl (T.ev 1 rfl) (decide_eq_true h10)) rfl rfl rfl (rn_rowO (Mem.nth M 0 rfl) rfl (T.ev 0 rfl) rfl) ?_; clear T ac; intro ac T
              refine l_q (v := (.pointer (some ⟨gr4_6, 0, none⟩))) T (wanted_yes rfl rfl (T.ev 2 rfl) (decide_eq_true h10)) rfl rfl rfl (rn_fieldAddr (off := 0) rfl (T.ev 17 rfl) (fun _ _ _ => by kernel_rfl)) ?_; clear T ac; intro ac T
              refine l_q T (wanted_yes rfl rfl (T.ev 3 rfl) (decide_eq_true h10)) rfl rfl rfl (rn_one (Mem.nth M 1 rfl) rfl (T.ev 0 rfl) rfl) ?_; clear T ac; intro ac T
              refine l_w (wanted_yes rfl rfl (T.ev 4 rfl) (decide_eq_true h10)) ?_; intro K hK
              refine ow_call (first := []) (cap := []) T rfl rfl rfl rfl evf (.cons (T.ev 2 rfl) (.cons (T.ev 0 rfl) .nil)) Try.func14 rfl rfl ?_
              refine Calls.mono (in_x ((afT ju2 lu3).p0) ((afT ju2 lu3).p1) a _) ?_
              clear T
              rintro e wc ⟨rfl, hb⟩
              intro ac T
              replace M := M.call hb; clear hb
              refine sh_out hK _ _ ?_; clear hK K
              refine l_q T rfl rfl rfl rfl (rn_pick1 rfl (T.ev 5 rfl) (decide_eq_true h10) (T.ev 0 rfl)) ?_; clear T ac; intro ac T
              refine l_q T rfl rfl rfl rfl (rn_move rfl (T.ev 0 rfl)) ?_; clear T ac; intro ac T
              rcases Bool.eq_false_or_eq_true (decide (((afT ju2 lu3).p0) ≤ a ∧ a ≤ ((afT ju2 lu3).p1))) with h11 | h11
              ·replace h11 := of_decide_eq_true h11
               refine l_q (v := (.pointer (some ⟨g2, 2, none⟩))) T (wanted_yes rfl rfl (T.ev 0 rfl) (decide_eq_true h11)) rfl rfl rfl (rn_fieldAddr (off := 2) rfl (T.ev 26 rfl) (fun _ _ _ => by kernel_rfl)) ?_; clear T ac; intro ac T
               refine l_q T (wanted_yes rfl rfl (T.ev 1 rfl) (decide_eq_true h11)) rfl rfl rfl (rn_rowO (Mem.nth M 0 rfl) rfl (T.ev 0 rfl) rfl) ?_; clear T ac; intro ac T
               refine l_q (v := (.pointer (some ⟨gr4_6, 1, none⟩))) T (wanted_yes rfl rfl (T.ev 2 rfl) (decide_eq_true h11)) rfl rfl rfl (rn_fieldAddr (off := 1) rfl (T.ev 24 rfl) (fun _ _ _ => by kernel_rfl)) ?_; clear T ac; intro ac T
               refine l_q T (wanted_yes rfl rfl (T.ev 3 rfl) (decide_eq_true h11)) rfl rfl rfl (rn_one (Mem.nth M 1 rfl) rfl (T.ev 0 rfl) rfl) ?_; clear T ac; intro ac T
               refine l_w (wanted_yes rfl rfl (T.ev 4 rfl) (decide_eq_true h11)) ?_; intro K hK
               refine ow_call (first := []) (cap := []) T rfl rfl rfl rfl evf (.cons (T.ev 2 rfl) (.cons (T.ev 0 rfl) .nil)) Try.func14 rfl rfl ?_
               refine Calls.mono (in_x ((afT ju2 lu3).t0) ((afT ju2 lu3).t1) b _) ?_
               clear T
               rintro e wc ⟨rfl, hb⟩
               intro ac T
               replace M := M.call hb; clear hb
               refine sh_out hK _ _ ?_; clear hK K
               refine l_q T rfl rfl rfl rfl (rn_pick1 rfl (T.ev 5 rfl) (decide_eq_true h11) (T.ev 0 rfl)) ?_; clear T ac; intro ac T
               refine l_q T rfl rfl rfl rfl (rn_move rfl (T.ev 0 rfl)) ?_; clear T ac; intro ac T
               rcases Bool.eq_false_or_eq_true (decide (((afT ju2 lu3).t0) ≤ b ∧ b ≤ ((afT ju2 lu3).t1))) with h12 | h12
               ·replace h12 := of_decide_eq_true h12
                refine l_q (v := (.pointer (some ⟨g2, 4, none⟩))) T (wanted_yes rfl rfl (T.ev 0 rfl) (decide_eq_true h12)) rfl rfl rfl (rn_fieldAddr (off := 4) rfl (T.ev 33 rfl) (fun _ _ _ => by kernel_rfl)) ?_; clear T ac; intro ac T
                refine l_q T (wanted_yes rfl rfl (T.ev 1 rfl) (decide_eq_true h12)) rfl rfl rfl (rn_rowO (Mem.nth M 0 rfl) rfl (T.ev 0 rfl) rfl) ?_; clear T ac; intro ac T
                refine l_q (v := (.pointer (some ⟨gr4_6, 2, none⟩))) T (wanted_yes rfl rfl (T.ev 2 rfl) (decide_eq_true h12)) rfl rfl rfl (rn_fieldAddr (off := 2) rfl (T.ev 31 rfl) (fun _ _ _ => by kernel_rfl)) ?_; clear T ac; intro ac T
                refine l_q T (wanted_yes rfl rfl (T.ev 3 rfl) (decide_eq_true h12)) rfl rfl rfl (rn_one (Mem.nth M 1 rfl) rfl (T.ev 0 rfl) rfl) ?_; clear T ac; intro ac T
                refine l_w (wanted_yes rfl rfl (T.ev 4 rfl) (decide_eq_true h12)) ?_; intro K hK
                refine ow_call (first := []) (cap := []) T rfl rfl rfl rfl evf (.cons (T.ev 2 rfl) (.cons (T.ev 0 rfl) .nil)) Try.func14 rfl rfl ?_
                refine Calls.mono (in_x ((afT ju2 lu3).r0) ((afT ju2 lu3).r1) c9 _) ?_
                clear T
                rintro e wc ⟨rfl, hb⟩
                intro ac T
                replace M := M.call hb; clear hb
                refine sh_out hK _ _ ?_; clear hK K
                refine l_q T rfl rfl rfl rfl (rn_pick1 rfl (T.ev 5 rfl) (decide_eq_true h12) (T.ev 0 rfl)) ?_; clear T ac; intro ac T
                refine l_q T rfl rfl rfl rfl (rn_move rfl (T.ev 0 rfl)) ?_; clear T ac; intro ac T
                rcases Bool.eq_false_or_eq_true (decide (((afT ju2 lu3).r0) ≤ c9 ∧ c9 ≤ ((afT ju2 lu3).r1))) with h13 | h13
                ·replace h13 := of_decide_eq_true h13
                 refine l_q (v := (.pointer (some ⟨gr4_6, 0, none⟩))) T (wanted_yes rfl rfl (T.ev 0 rfl) (decide_eq_true h13)) rfl rfl rfl (rn_fieldAddr (off := 0) rfl (T.ev 36 rfl) (fun _ _ _ => by kernel_rfl)) ?_; clear T ac; intro ac T
                 refine l_q T (wanted_yes rfl rfl (T.ev 1 rfl) (decide_eq_true h13)) rfl rfl rfl (rn_one (Mem.nth M 1 rfl) rfl (T.ev 0 rfl) rfl) ?_; clear T ac; intro ac T
                 refine l_q T (wanted_yes rfl rfl (T.ev 2 rfl) (decide_eq_true h13)) rfl rfl rfl (rn_move rfl (T.ev 39 rfl)) ?_; clear T ac; intro ac T
                 refine l_w (wanted_yes rfl rfl (T.ev 3 rfl) (decide_eq_true h13)) ?_; intro K hK
                 refine ow_call (first := []) (cap := []) T rfl rfl rfl rfl evf (.cons (T.ev 1 rfl) (.cons (T.ev 0 rfl) .nil)) Try.func13 rfl rfl ?_
                 refine Calls.mono (far_any a _ _ _ lur4_5 _ (Sur4_5.rd M (.cons _ (.cons _ (List.sublist_append_right _ _)))) (by have := shf_len hgu2 hqur4_5; omega) (by omega) (shf_bd hgu2 hqur4_5)) ?_
                 clear T
                 rintro e wc ⟨rfl, hb⟩
                 intro ac T
                 replace M := M.call hb; clear hb
                 refine sh_out hK _ _ ?_; clear hK K
                 refine l_q T (wanted_yes rfl rfl (T.ev 4 rfl) (decide_eq_true h13)) rfl rfl rfl (rn_move rfl (T.ev 45 rfl)) ?_; clear T ac; intro ac T
                 refine l_q T (wanted_yes rfl rfl (T.ev 5 rfl) (decide_eq_true h13)) rfl rfl rfl (rn_leq rfl (T.ev 1 rfl) (T.ev 0 rfl)) ?_; clear T ac; intro ac T
                 refine l_q T rfl rfl rfl rfl (rn_pick1 rfl (T.ev 6 rfl) (decide_eq_true h13) (T.ev 0 rfl)) ?_; clear T ac; intro ac T
                 refine l_q T rfl rfl rfl rfl (rn_move rfl (T.ev 0 rfl)) ?_; clear T ac; intro ac T
                 rcases Bool.eq_false_or_eq_true (decide ((farF a lur4_5) ≤ ((worstT ju2 lu3).1))) with h14 | h14
                 ·replace h14 := of_decide_eq_true h14
                  refine l_q T (wanted_yes rfl rfl (T.ev 0 rfl) (decide_eq_true h14)) rfl rfl rfl (rn_move rfl (T.ev 50 rfl)) ?_; clear T ac; intro ac T
                  refine l_q T (wanted_yes rfl rfl (T.ev 1 rfl) (decide_eq_true h14)) rfl rfl rfl (rn_move rfl (T.ev 56 rfl)) ?_; clear T ac; intro ac T
                  refine l_w (wanted_yes rfl rfl (T.ev 2 rfl) (decide_eq_true h14)) ?_; intro K hK
                  refine ow_call (first := []) (cap := []) T rfl rfl rfl rfl evf (.cons (T.ev 1 rfl) (.cons (T.ev 0 rfl) .nil)) Try.func12 rfl rfl ?_
                  refine Calls.mono (right_any ((spoiledT ju2 lu3).1) ((decide (b < ju2.le)) || (decide (c9 < ju2.le))) _) ?_
                  clear T
                  rintro e wc ⟨rfl, hb⟩
                  intro ac T
                  replace M := M.call hb; clear hb
                  refine sh_out hK _ _ ?_; clear hK K
                  refine l_q T rfl rfl rfl rfl (rn_pick1 rfl (T.ev 3 rfl) (decide_eq_true h14) (T.ev 0 rfl)) ?_; clear T ac; intro ac T
                  refine l_q T rfl rfl rfl rfl (rn_move rfl (T.ev 0 rfl)) ?_; clear T ac; intro ac T
                  rcases Bool.eq_false_or_eq_true (rightB ((spoiledT ju2 lu3).1) ((decide (b < ju2.le)) || (decide (c9 < ju2.le)))) with h15 | h15
                  ·refine l_q T (wanted_yes rfl rfl (T.ev 0 rfl) h15) rfl rfl rfl (rn_move rfl (T.ev 57 rfl)) ?_; clear T ac; intro ac T
                   refine l_q T (wanted_yes rfl rfl (T.ev 1 rfl) h15) rfl rfl rfl (rn_move rfl (T.ev 60 rfl)) ?_; clear T ac; intro ac T
                   refine l_q T (wanted_yes rfl rfl (T.ev 2 rfl) h15) rfl rfl rfl (rn_move rfl (T.ev 0 rfl)) ?_; clear T ac; intro ac T
                   rcases Bool.eq_false_or_eq_true (decide ((farF a lur4_5) ≤ ju2.wi)) with h16 | h16
                   ·replace h16 := of_decide_eq_true h16
                    refine l_q T (wanted_yes rfl rfl (T.ev 0 rfl) (decide_eq_true h16)) rfl rfl rfl (rn_move rfl (T.ev 63 rfl)) ?_; clear T ac; intro ac T
                    refine l_q T (wanted_yes rfl rfl (T.ev 1 rfl) (decide_eq_true h16)) rfl rfl rfl (rn_not rfl (T.ev 0 rfl)) ?_; clear T ac; intro ac T
                    refine l_q T (wanted_yes rfl rfl (T.ev 5 rfl) h15) rfl rfl rfl (rn_pick1 rfl (T.ev 2 rfl) (decide_eq_true h16) (T.ev 0 rfl)) ?_; clear T ac; intro ac T
                    refine l_w (wanted_yes rfl rfl (T.ev 6 rfl) h15) ?_; intro K hK
                    refine ow_call (first := []) (cap := []) T rfl rfl rfl rfl evf (.cons (T.ev 5 rfl) (.cons (T.ev 0 rfl) .nil)) Try.func12 rfl rfl ?_
                    refine Calls.mono (right_any ((fineT ju2 lu3).1) (!((decide (b < ju2.le)) || (decide (c9 < ju2.le)))) _) ?_
                    clear T
                    rintro e wc ⟨rfl, hb⟩
                    intro ac T
                    replace M := M.call hb; clear hb
                    refine sh_out hK _ _ ?_; clear hK K
                    refine l_q T rfl rfl rfl rfl (rn_pick1 rfl (T.ev 7 rfl) h15 (T.ev 0 rfl)) ?_; clear T ac; intro ac T
                    refine l_q T rfl rfl rfl rfl (rn_move rfl (T.ev 0 rfl)) ?_; clear T ac; intro ac T
                    rcases Bool.eq_false_or_eq_true (rightB ((fineT ju2 lu3).1) (!((decide (b < ju2.le)) || (decide (c9 < ju2.le))))) with h17 | h17
                    ·refine l_w (wanted_yes rfl rfl (T.ev 0 rfl) h17) ?_; intro K hK
                     refine ow_call (first := []) (cap := []) T rfl rfl rfl rfl evf .nil Try.func21 rfl rfl ?_
                     refine Calls.mono (tuned_any _) ?_
                     clear T
                     rintro e wc ⟨rfl, hb⟩
                     intro ac T
                     replace M := M.call hb; clear hb
                     refine sh_out hK _ _ ?_; clear hK K
                     refine l_q T rfl rfl rfl rfl (rn_pick1 rfl (T.ev 1 rfl) h17 (T.ev 0 rfl)) ?_; clear T ac; intro ac T
                     refine l_q T rfl rfl rfl rfl (rn_assign rfl (T.ev 0 rfl)) ?_; clear T ac; intro ac T
                     refine wpList_nil ?_
                     replace T := T.pick [0] rfl
                     replace M := M.mask [false, false] rfl
                     exact ⟨(T.pick (E' := [(2, .bool true)]) [0] rfl).as (by (try rw [show (decide ((checkStrokesJ ju2 lu3) = 0)) = true from (decide_eq_true h7)]); (try rw [show (decide (((worstT ju2 lu3).2) = 0)) = true from (decide_eq_true h8)]); (try rw [show (decide (((spoiledT ju2 lu3).2) = 0)) = true from (decide_eq_true h9)]); (try rw [show (decide (((fineT ju2 lu3).2) = 0)) = true from (decide_eq_true h10)]); (try rw [show (decide (((afT ju2 lu3).p0) ≤ a ∧ a ≤ ((afT ju2 lu3).p1))) = true from (decide_eq_true h11)]); (try rw [show (decide (((afT ju2 lu3).t0) ≤ b ∧ b ≤ ((afT ju2 lu3).t1))) = true from (decide_eq_true h12)]); (try rw [show (decide (((afT ju2 lu3).r0) ≤ c9 ∧ c9 ≤ ((afT ju2 lu3).r1))) = true from (decide_eq_true h13)]); (try rw [show (decide ((farF a lur4_5) ≤ ((worstT ju2 lu3).1))) = true from (decide_eq_true h14)]); (try rw [show (rightB ((spoiledT ju2 lu3).1) ((decide (b < ju2.le)) || (decide (c9 < ju2.le)))) = true from h15]); (try rw [show (decide ((farF a lur4_5) ≤ ju2.wi)) = true from (decide_eq_true h16)]); (try rw [show (rightB ((fineT ju2 lu3).1) (!((decide (b < ju2.le)) || (decide (c9 < ju2.le))))) = true from h17]); (try rfl)), M.mask [] rfl⟩
                    ·refine l_pass T (wanted_no rfl rfl (T.ev 0 rfl) h17) rfl rfl rfl ?_; clear T ac; intro ac T
                     refine l_q T rfl rfl rfl rfl (rn_pick0 rfl (T.ev 1 rfl) h17 evc) ?_; clear T ac; intro ac T
                     refine l_q T rfl rfl rfl rfl (rn_assign rfl (T.ev 0 rfl)) ?_; clear T ac; intro ac T
                     refine wpList_nil ?_
                     replace T := T.pick [0] rfl
                     replace M := M.mask [false, false] rfl
                     exact ⟨(T.pick (E' := [(2, .bool false)]) [0] rfl).as (by (try rw [show (decide ((checkStrokesJ ju2 lu3) = 0)) = true from (decide_eq_true h7)]); (try rw [show (decide (((worstT ju2 lu3).2) = 0)) = true from (decide_eq_true h8)]); (try rw [show (decide (((spoiledT ju2 lu3).2) = 0)) = true from (decide_eq_true h9)]); (try rw [show (decide (((fineT ju2 lu3).2) = 0)) = true from (decide_eq_true h10)]); (try rw [show (decide (((afT ju2 lu3).p0) ≤ a ∧ a ≤ ((afT ju2 lu3).p1))) = true from (decide_eq_true h11)]); (try rw [show (decide (((afT ju2 lu3).t0) ≤ b ∧ b ≤ ((afT ju2 lu3).t1))) = true from (decide_eq_true h12)]); (try rw [show (decide (((afT ju2 lu3).r0) ≤ c9 ∧ c9 ≤ ((afT ju2 lu3).r1))) = true from (decide_eq_true h13)]); (try rw [show (decide ((farF a lur4_5) ≤ ((worstT ju2 lu3).1))) = true from (decide_eq_true h14)]); (try rw [show (rightB ((spoiledT ju2 lu3).1) ((decide (b < ju2.le)) || (decide (c9 < ju2.le)))) = true from h15]); (try rw [show (decide ((farF a lur4_5) ≤ ju2.wi)) = true from (decide_eq_true h16)]); (try rw [show (rightB ((fineT ju2 lu3).1) (!((decide (b < ju2.le)) || (decide (c9 < ju2.le))))) = false from h17]); (try rfl)), M.mask [] rfl⟩
                   ·replace h16 := of_decide_eq_false h16
                    refine l_pass T (wanted_no rfl rfl (T.ev 0 rfl) (decide_eq_false h16)) rfl rfl rfl ?_; clear T ac; intro ac T
                    refine l_pass T (wanted_no rfl rfl (T.ev 1 rfl) (decide_eq_false h16)) rfl rfl rfl ?_; clear T ac; intro ac T
                    refine l_q T (wanted_yes rfl rfl (T.ev 5 rfl) h15) rfl rfl rfl (rn_pick0 rfl (T.ev 2 rfl) (decide_eq_false h16) evc) ?_; clear T ac; intro ac T
                    refine l_w (wanted_yes rfl rfl (T.ev 6 rfl) h15) ?_; intro K hK
                    refine ow_call (first := []) (cap := []) T rfl rfl rfl rfl evf (.cons (T.ev 5 rfl) (.cons (T.ev 0 rfl) .nil)) Try.func12 rfl rfl ?_
                    refine Calls.mono (right_any ((fineT ju2 lu3).1) false _) ?_
                    clear T
                    rintro e wc ⟨rfl, hb⟩
                    intro ac T
                    replace M := M.call hb; clear hb
                    refine sh_out hK _ _ ?_; clear hK K
                    refine l_q T rfl rfl rfl rfl (rn_pick1 rfl (T.ev 7 rfl) h15 (T.ev 0 rfl)) ?_; clear T ac; intro ac T
                    refine l_q T rfl rfl rfl rfl (rn_move rfl (T.ev 0 rfl)) ?_; clear T ac; intro ac T
                    rcases Bool.eq_false_or_eq_true (rightB ((fineT ju2 lu3).1) false) with h18 | h18
                    ·refine l_w (wanted_yes rfl rfl (T.ev 0 rfl) h18) ?_; intro K hK
                     refine ow_call (first := []) (cap := []) T rfl rfl rfl rfl evf .nil Try.func21 rfl rfl ?_
                     refine Calls.mono (tuned_any _) ?_
                     clear T
                     rintro e wc ⟨rfl, hb⟩
                     intro ac T
                     replace M := M.call hb; clear hb
                     refine sh_out hK _ _ ?_; clear hK K
                     refine l_q T rfl rfl rfl rfl (rn_pick1 rfl (T.ev 1 rfl) h18 (T.ev 0 rfl)) ?_; clear T ac; intro ac T
                     refine l_q T rfl rfl rfl rfl (rn_assign rfl (T.ev 0 rfl)) ?_; clear T ac; intro ac T
                     refine wpList_nil ?_
                     replace T := T.pick [0] rfl
                     replace M := M.mask [false, false] rfl
                     exact ⟨(T.pick (E' := [(2, .bool true)]) [0] rfl).as (by (try rw [show (decide ((checkStrokesJ ju2 lu3) = 0)) = true from (decide_eq_true h7)]); (try rw [show (decide (((worstT ju2 lu3).2) = 0)) = true from (decide_eq_true h8)]); (try rw [show (decide (((spoiledT ju2 lu3).2) = 0)) = true from (decide_eq_true h9)]); (try rw [show (decide (((fineT ju2 lu3).2) = 0)) = true from (decide_eq_true h10)]); (try rw [show (decide (((afT ju2 lu3).p0) ≤ a ∧ a ≤ ((afT ju2 lu3).p1))) = true from (decide_eq_true h11)]); (try rw [show (decide (((afT ju2 lu3).t0) ≤ b ∧ b ≤ ((afT ju2 lu3).t1))) = true from (decide_eq_true h12)]); (try rw [show (decide (((afT ju2 lu3).r0) ≤ c9 ∧ c9 ≤ ((afT ju2 lu3).r1))) = true from (decide_eq_true h13)]); (try rw [show (decide ((farF a lur4_5) ≤ ((worstT ju2 lu3).1))) = true from (decide_eq_true h14)]); (try rw [show (rightB ((spoiledT ju2 lu3).1) ((decide (b < ju2.le)) || (decide (c9 < ju2.le)))) = true from h15]); (try rw [show (decide ((farF a lur4_5) ≤ ju2.wi)) = false from (decide_eq_false h16)]); (try rw [show (rightB ((fineT ju2 lu3).1) false) = true from h18]); (try rfl)), M.mask [] rfl⟩
                    ·refine l_pass T (wanted_no rfl rfl (T.ev 0 rfl) h18) rfl rfl rfl ?_; clear T ac; intro ac T
                     refine l_q T rfl rfl rfl rfl (rn_pick0 rfl (T.ev 1 rfl) h18 evc) ?_; clear T ac; intro ac T
                     refine l_q T rfl rfl rfl rfl (rn_assign rfl (T.ev 0 rfl)) ?_; clear T ac; intro ac T
                     refine wpList_nil ?_
                     replace T := T.pick [0] rfl
                     replace M := M.mask [false, false] rfl
                     exact ⟨(T.pick (E' := [(2, .bool false)]) [0] rfl).as (by (try rw [show (decide ((checkStrokesJ ju2 lu3) = 0)) = true from (decide_eq_true h7)]); (try rw [show (decide (((worstT ju2 lu3).2) = 0)) = true from (decide_eq_true h8)]); (try rw [show (decide (((spoiledT ju2 lu3).2) = 0)) = true from (decide_eq_true h9)]); (try rw [show (decide (((fineT ju2 lu3).2) = 0)) = true from (decide_eq_true h10)]); (try rw [show (decide (((afT ju2 lu3).p0) ≤ a ∧ a ≤ ((afT ju2 lu3).p1))) = true from (decide_eq_true h11)]); (try rw [show (decide (((afT ju2 lu3).t0) ≤ b ∧ b ≤ ((afT ju2 lu3).t1))) = true from (decide_eq_true h12)]); (try rw [show (decide (((afT ju2 lu3).r0) ≤ c9 ∧ c9 ≤ ((afT ju2 lu3).r1))) = true from (decide_eq_true h13)]); (try rw [show (decide ((farF a lur4_5) ≤ ((worstT ju2 lu3).1))) = true from (decide_eq_true h14)]); (try rw [show (rightB ((spoiledT ju2 lu3).1) ((decide (b < ju2.le)) || (decide (c9 < ju2.le)))) = true from h15]); (try rw [show (decide ((farF a lur4_5) ≤ ju2.wi)) = false from (decide_eq_false h16)]); (try rw [show (rightB ((fineT ju2 lu3).1) false) = false from h18]); (try rfl)), M.mask [] rfl⟩
                  ·refine l_pass T (wanted_no rfl rfl (T.ev 0 rfl) h15) rfl rfl rfl ?_; clear T ac; intro ac T
                   refine l_pass T (wanted_no rfl rfl (T.ev 1 rfl) h15) rfl rfl rfl ?_; clear T ac; intro ac T
                   refine l_pass T (wanted_no rfl rfl (T.ev 2 rfl) h15) rfl rfl rfl ?_; clear T ac; intro ac T
                   refine l_pass T (wanted_un rfl rfl (T.ev 0 rfl)) rfl rfl rfl ?_; clear T ac; intro ac T
                   refine l_pass T (wanted_un rfl rfl (T.ev 1 rfl)) rfl rfl rfl ?_; clear T ac; intro ac T
                   refine l_pass T (wanted_no rfl rfl (T.ev 5 rfl) h15) rfl rfl rfl ?_; clear T ac; intro ac T
                   refine l_pass T (wanted_no rfl rfl (T.ev 6 rfl) h15) rfl rfl rfl ?_; clear T ac; intro ac T
                   refine l_q T rfl rfl rfl rfl (rn_pick0 rfl (T.ev 7 rfl) h15 evc) ?_; clear T ac; intro ac T
                   refine l_q T rfl rfl rfl rfl (rn_move rfl (T.ev 0 rfl)) ?_; clear T ac; intro ac T
                   refine l_pass T (wanted_no rfl rfl (T.ev 0 rfl) rfl) rfl rfl rfl ?_; clear T ac; intro ac T
                   refine l_q T rfl rfl rfl rfl (rn_pick0 rfl (T.ev 1 rfl) rfl evc) ?_; clear T ac; intro ac T
                   refine l_q T rfl rfl rfl rfl (rn_assign rfl (T.ev 0 rfl)) ?_; clear T ac; intro ac T
                   refine wpList_nil ?_
                   replace T := T.pick [0] rfl
                   replace M := M.mask [false, false] rfl
                   exact ⟨(T.pick (E' := [(2, .bool false)]) [0] rfl).as (by (try rw [show (decide ((checkStrokesJ ju2 lu3) = 0)) = true from (decide_eq_true h7)]); (try rw [show (decide (((worstT ju2 lu3).2) = 0)) = true from (decide_eq_true h8)]); (try rw [show (decide (((spoiledT ju2 lu3).2) = 0)) = true from (decide_eq_true h9)]); (try rw [show (decide (((fineT ju2 lu3).2) = 0)) = true from (decide_eq_true h10)]); (try rw [show (decide (((afT ju2 lu3).p0) ≤ a ∧ a ≤ ((afT ju2 lu3).p1))) = true from (decide_eq_true h11)]); (try rw [show (decide (((afT ju2 lu3).t0) ≤ b ∧ b ≤ ((afT ju2 lu3).t1))) = true from (decide_eq_true h12)]); (try rw [show (decide (((afT ju2 lu3).r0) ≤ c9 ∧ c9 ≤ ((afT ju2 lu3).r1))) = true from (decide_eq_true h13)]); (try rw [show (decide ((farF a lur4_5) ≤ ((worstT ju2 lu3).1))) = true from (decide_eq_true h14)]); (try rw [show (rightB ((spoiledT ju2 lu3).1) ((decide (b < ju2.le)) || (decide (c9 < ju2.le)))) = false from h15]); (try rfl)), M.mask [] rfl⟩
                 ·replace h14 := of_decide_eq_false h14
                  refine l_pass T (wanted_no rfl rfl (T.ev 0 rfl) (decide_eq_false h14)) rfl rfl rfl ?_; clear T ac; intro ac T
                  refine l_pass T (wanted_no rfl rfl (T.ev 1 rfl) (decide_eq_false h14)) rfl rfl rfl ?_; clear T ac; intro ac T
                  refine l_pass T (wanted_no rfl rfl (T.ev 2 rfl) (decide_eq_false h14)) rfl rfl rfl ?_; clear T ac; intro ac T
                  refine l_q T rfl rfl rfl rfl (rn_pick0 rfl (T.ev 3 rfl) (decide_eq_false h14) evc) ?_; clear T ac; intro ac T
                  refine l_q T rfl rfl rfl rfl (rn_move rfl (T.ev 0 rfl)) ?_; clear T ac; intro ac T
                  refine l_pass T (wanted_no rfl rfl (T.ev 0 rfl) rfl) rfl rfl rfl ?_; clear T ac; intro ac T
                  refine l_pass T (wanted_no rfl rfl (T.ev 1 rfl) rfl) rfl rfl rfl ?_; clear T ac; intro ac T
                  refine l_pass T (wanted_no rfl rfl (T.ev 2 rfl) rfl) rfl rfl rfl ?_; clear T ac; intro ac T
                  refine l_pass T (wanted_un rfl rfl (T.ev 0 rfl)) rfl rfl rfl ?_; clear T ac; intro ac T
                  refine l_pass T (wanted_un rfl rfl (T.ev 1 rfl)) rfl rfl rfl ?_; clear T ac; intro ac T
                  refine l_pass T (wanted_no rfl rfl (T.ev 5 rfl) rfl) rfl rfl rfl ?_; clear T ac; intro ac T
                  refine l_pass T (wanted_no rfl rfl (T.ev 6 rfl) rfl) rfl rfl rfl ?_; clear T ac; intro ac T
                  refine l_q T rfl rfl rfl rfl (rn_pick0 rfl (T.ev 7 rfl) rfl evc) ?_; clear T ac; intro ac T
                  refine l_q T rfl rfl rfl rfl (rn_move rfl (T.ev 0 rfl)) ?_; clear T ac; intro ac T
                  refine l_pass T (wanted_no rfl rfl (T.ev 0 rfl) rfl) rfl rfl rfl ?_; clear T ac; intro ac T
                  refine l_q T rfl rfl rfl rfl (rn_pick0 rfl (T.ev 1 rfl) rfl evc) ?_; clear T ac; intro ac T
                  refine l_q T rfl rfl rfl rfl (rn_assign rfl (T.ev 0 rfl)) ?_; clear T ac; intro ac T
                  refine wpList_nil ?_
                  replace T := T.pick [0] rfl
                  replace M := M.mask [false, false] rfl
                  exact ⟨(T.pick (E' := [(2, .bool false)]) [0] rfl).as (by (try rw [show (decide ((checkStrokesJ ju2 lu3) = 0)) = true from (decide_eq_true h7)]); (try rw [show (decide (((worstT ju2 lu3).2) = 0)) = true from (decide_eq_true h8)]); (try rw [show (decide (((spoiledT ju2 lu3).2) = 0)) = true from (decide_eq_true h9)]); (try rw [show (decide (((fineT ju2 lu3).2) = 0)) = true from (decide_eq_true h10)]); (try rw [show (decide (((afT ju2 lu3).p0) ≤ a ∧ a ≤ ((afT ju2 lu3).p1))) = true from (decide_eq_true h11)]); (try rw [show (decide (((afT ju2 lu3).t0) ≤ b ∧ b ≤ ((afT ju2 lu3).t1))) = true from (decide_eq_true h12)]); (try rw [show (decide (((afT ju2 lu3).r0) ≤ c9 ∧ c9 ≤ ((afT ju2 lu3).r1))) = true from (decide_eq_true h13)]); (try rw [show (decide ((farF a lur4_5) ≤ ((worstT ju2 lu3).1))) = false from (decide_eq_false h14)]); (try rfl)), M.mask [] rfl⟩
                ·replace h13 := of_decide_eq_false h13
                 refine l_pass T (wanted_no rfl rfl (T.ev 0 rfl) (decide_eq_false h13)) rfl rfl rfl ?_; clear T ac; intro ac T
                 refine l_pass T (wanted_no rfl rfl (T.ev 1 rfl) (decide_eq_false h13)) rfl rfl rfl ?_; clear T ac; intro ac T
                 refine l_pass T (wanted_no rfl rfl (T.ev 2 rfl) (decide_eq_false h13)) rfl rfl rfl ?_; clear T ac; intro ac T
                 refine l_pass T (wanted_no rfl rfl (T.ev 3 rfl) (decide_eq_false h13)) rfl rfl rfl ?_; clear T ac; intro ac T
                 refine l_pass T (wanted_no rfl rfl (T.ev 4 rfl) (decide_eq_false h13)) rfl rfl rfl ?_; clear T ac; intro ac T
                 refine l_pass T (wanted_no rfl rfl (T.ev 5 rfl) (decide_eq_false h13)) rfl rfl rfl ?_; clear T ac; intro ac T
                 refine l_q T rfl rfl rfl rfl (rn_pick0 rfl (T.ev 6 rfl) (decide_eq_false h13) evc) ?_; clear T ac; intro ac T
                 refine l_q T rfl rfl rfl rfl (rn_move rfl (T.ev 0 rfl)) ?_; clear T ac; intro ac T
                 refine l_pass T (wanted_no rfl rfl (T.ev 0 rfl) rfl) rfl rfl rfl ?_; clear T ac; intro ac T
                 refine l_pass T (wanted_no rfl rfl (T.ev 1 rfl) rfl) rfl rfl rfl ?_; clear T ac; intro ac T
                 refine l_pass T (wanted_no rfl rfl (T.ev 2 rfl) rfl) rfl rfl rfl ?_; clear T ac; intro ac T
                 refine l_q T rfl rfl rfl rfl (rn_pick0 rfl (T.ev 3 rfl) rfl evc) ?_; clear T ac; intro ac T
                 refine l_q T rfl rfl rfl rfl (rn_move rfl (T.ev 0 rfl)) ?_; clear T ac; intro ac T
                 refine l_pass T (wanted_no rfl rfl (T.ev 0 rfl) rfl) rfl rfl rfl ?_; clear T ac; intro ac T
                 refine l_pass T (wanted_no rfl rfl (T.ev 1 rfl) rfl) rfl rfl rfl ?_; clear T ac; intro ac T
                 refine l_pass T (wanted_no rfl rfl (T.ev 2 rfl) rfl) rfl rfl rfl ?_; clear T ac; intro ac T
                 refine l_pass T (wanted_un rfl rfl (T.ev 0 rfl)) rfl rfl rfl ?_; clear T ac; intro ac T
                 refine l_pass T (wanted_un rfl rfl (T.ev 1 rfl)) rfl rfl rfl ?_; clear T ac; intro ac T
                 refine l_pass T (wanted_no rfl rfl (T.ev 5 rfl) rfl) rfl rfl rfl ?_; clear T ac; intro ac T
                 refine l_pass T (wanted_no rfl rfl (T.ev 6 rfl) rfl) rfl rfl rfl ?_; clear T ac; intro ac T
                 refine l_q T rfl rfl rfl rfl (rn_pick0 rfl (T.ev 7 rfl) rfl evc) ?_; clear T ac; intro ac T
                 refine l_q T rfl rfl rfl rfl (rn_move rfl (T.ev 0 rfl)) ?_; clear T ac; intro ac T
                 refine l_pass T (wanted_no rfl rfl (T.ev 0 rfl) rfl) rfl rfl rfl ?_; clear T ac; intro ac T
                 refine l_q T rfl rfl rfl rfl (rn_pick0 rfl (T.ev 1 rfl) rfl evc) ?_; clear T ac; intro ac T
                 refine l_q T rfl rfl rfl rfl (rn_assign rfl (T.ev 0 rfl)) ?_; clear T ac; intro ac T
                 refine wpList_nil ?_
                 replace T := T.pick [0] rfl
                 replace M := M.mask [false, false] rfl
                 exact ⟨(T.pick (E' := [(2, .bool false)]) [0] rfl).as (by (try rw [show (decide ((checkStrokesJ ju2 lu3) = 0)) = true from (decide_eq_true h7)]); (try rw [show (decide (((worstT ju2 lu3).2) = 0)) = true from (decide_eq_true h8)]); (try rw [show (decide (((spoiledT ju2 lu3).2) = 0)) = true from (decide_eq_true h9)]); (try rw [show (decide (((fineT ju2 lu3).2) = 0)) = true from (decide_eq_true h10)]); (try rw [show (decide (((afT ju2 lu3).p0) ≤ a ∧ a ≤ ((afT ju2 lu3).p1))) = true from (decide_eq_true h11)]); (try rw [show (decide (((afT ju2 lu3).t0) ≤ b ∧ b ≤ ((afT ju2 lu3).t1))) = true from (decide_eq_true h12)]); (try rw [show (decide (((afT ju2 lu3).r0) ≤ c9 ∧ c9 ≤ ((afT ju2 lu3).r1))) = false from (decide_eq_false h13)]); (try rfl)), M.mask [] rfl⟩
               ·replace h12 := of_decide_eq_false h12
                refine l_pass T (wanted_no rfl rfl (T.ev 0 rfl) (decide_eq_false h12)) rfl rfl rfl ?_; clear T ac; intro ac T
                refine l_pass T (wanted_no rfl rfl (T.ev 1 rfl) (decide_eq_false h12)) rfl rfl rfl ?_; clear T ac; intro ac T
                refine l_pass T (wanted_no rfl rfl (T.ev 2 rfl) (decide_eq_false h12)) rfl rfl rfl ?_; clear T ac; intro ac T
                refine l_pass T (wanted_no rfl rfl (T.ev 3 rfl) (decide_eq_false h12)) rfl rfl rfl ?_; clear T ac; intro ac T
                refine l_pass T (wanted_no rfl rfl (T.ev 4 rfl) (decide_eq_false h12)) rfl rfl rfl ?_; clear T ac; intro ac T
                refine l_q T rfl rfl rfl rfl (rn_pick0 rfl (T.ev 5 rfl) (decide_eq_false h12) evc) ?_; clear T ac; intro ac T
                refine l_q T rfl rfl rfl rfl (rn_move rfl (T.ev 0 rfl)) ?_; clear T ac; intro ac T
                refine l_pass T (wanted_no rfl rfl (T.ev 0 rfl) rfl) rfl rfl rfl ?_; clear T ac; intro ac T
                refine l_pass T (wanted_no rfl rfl (T.ev 1 rfl) rfl) rfl rfl rfl ?_; clear T ac; intro ac T
                refine l_pass T (wanted_no rfl rfl (T.ev 2 rfl) rfl) rfl rfl rfl ?_; clear T ac; intro ac T
                refine l_pass T (wanted_no rfl rfl (T.ev 3 rfl) rfl) rfl rfl rfl ?_; clear T ac; intro ac T
                refine l_pass T (wanted_no rfl rfl (T.ev 4 rfl) rfl) rfl rfl rfl ?_; clear T ac; intro ac T
                refine l_pass T (wanted_no rfl rfl (T.ev 5 rfl) rfl) rfl rfl rfl ?_; clear T ac; intro ac T
                refine l_q T rfl rfl rfl rfl (rn_pick0 rfl (T.ev 6 rfl) rfl evc) ?_; clear T ac; intro ac T
                refine l_q T rfl rfl rfl rfl (rn_move rfl (T.ev 0 rfl)) ?_; clear T ac; intro ac T
                refine l_pass T (wanted_no rfl rfl (T.ev 0 rfl) rfl) rfl rfl rfl ?_; clear T ac; intro ac T
                refine l_pass T (wanted_no rfl rfl (T.ev 1 rfl) rfl) rfl rfl rfl ?_; clear T ac; intro ac T
                refine l_pass T (wanted_no rfl rfl (T.ev 2 rfl) rfl) rfl rfl rfl ?_; clear T ac; intro ac T
                refine l_q T rfl rfl rfl rfl (rn_pick0 rfl (T.ev 3 rfl) rfl evc) ?_; clear T ac; intro ac T
                refine l_q T rfl rfl rfl rfl (rn_move rfl (T.ev 0 rfl)) ?_; clear T ac; intro ac T
                refine l_pass T (wanted_no rfl rfl (T.ev 0 rfl) rfl) rfl rfl rfl ?_; clear T ac; intro ac T
                refine l_pass T (wanted_no rfl rfl (T.ev 1 rfl) rfl) rfl rfl rfl ?_; clear T ac; intro ac T
                refine l_pass T (wanted_no rfl rfl (T.ev 2 rfl) rfl) rfl rfl rfl ?_; clear T ac; intro ac T
                refine l_pass T (wanted_un rfl rfl (T.ev 0 rfl)) rfl rfl rfl ?_; clear T ac; intro ac T
                refine l_pass T (wanted_un rfl rfl (T.ev 1 rfl)) rfl rfl rfl ?_; clear T ac; intro ac T
                refine l_pass T (wanted_no rfl rfl (T.ev 5 rfl) rfl) rfl rfl rfl ?_; clear T ac; intro ac T
                refine l_pass T (wanted_no rfl rfl (T.ev 6 rfl) rfl) rfl rfl rfl ?_; clear T ac; intro ac T
                refine l_q T rfl rfl rfl rfl (rn_pick0 rfl (T.ev 7 rfl) rfl evc) ?_; clear T ac; intro ac T
                refine l_q T rfl rfl rfl rfl (rn_move rfl (T.ev 0 rfl)) ?_; clear T ac; intro ac T
                refine l_pass T (wanted_no rfl rfl (T.ev 0 rfl) rfl) rfl rfl rfl ?_; clear T ac; intro ac T
                refine l_q T rfl rfl rfl rfl (rn_pick0 rfl (T.ev 1 rfl) rfl evc) ?_; clear T ac; intro ac T
                refine l_q T rfl rfl rfl rfl (rn_assign rfl (T.ev 0 rfl)) ?_; clear T ac; intro ac T
                refine wpList_nil ?_
                replace T := T.pick [0] rfl
                replace M := M.mask [false, false] rfl
                exact ⟨(T.pick (E' := [(2, .bool false)]) [0] rfl).as (by (try rw [show (decide ((checkStrokesJ ju2 lu3) = 0)) = true from (decide_eq_true h7)]); (try rw [show (decide (((worstT ju2 lu3).2) = 0)) = true from (decide_eq_true h8)]); (try rw [show (decide (((spoiledT ju2 lu3).2) = 0)) = true from (decide_eq_true h9)]); (try rw [show (decide (((fineT ju2 lu3).2) = 0)) = true from (decide_eq_true h10)]); (try rw [show (decide (((afT ju2 lu3).p0) ≤ a ∧ a ≤ ((afT ju2 lu3).p1))) = true from (decide_eq_true h11)]); (try rw [show (decide (((afT ju2 lu3).t0) ≤ b ∧ b ≤ ((afT ju2 lu3).t1))) = false from (decide_eq_false h12)]); (try rfl)), M.mask [] rfl⟩
              ·replace h11 := of_decide_eq_false h11
               refine l_pass T (wanted_no rfl rfl (T.ev 0 rfl) (decide_eq_false h11)) rfl rfl rfl ?_; clear T ac; intro ac T
               refine l_pass T (wanted_no rfl rfl (T.ev 1 rfl) (decide_eq_false h11)) rfl rfl rfl ?_; clear T ac; intro ac T
               refine l_pass T (wanted_no rfl rfl (T.ev 2 rfl) (decide_eq_false h11)) rfl rfl rfl ?_; clear T ac; intro ac T
               refine l_pass T (wanted_no rfl rfl (T.ev 3 rfl) (decide_eq_false h11)) rfl rfl rfl ?_; clear T ac; intro ac T
               refine l_pass T (wanted_no rfl rfl (T.ev 4 rfl) (decide_eq_false h11)) rfl rfl rfl ?_; clear T ac; intro ac T
               refine l_q T rfl rfl rfl rfl (rn_pick0 rfl (T.ev 5 rfl) (decide_eq_false h11) evc) ?_; clear T ac; intro ac T
               refine l_q T rfl rfl rfl rfl (rn_move rfl (T.ev 0 rfl)) ?_; clear T ac; intro ac T
               refine l_pass T (wanted_no rfl rfl (T.ev 0 rfl) rfl) rfl rfl rfl ?_; clear T ac; intro ac T
               refine l_pass T (wanted_no rfl rfl (T.ev 1 rfl) rfl) rfl rfl rfl ?_; clear T ac; intro ac T
               refine l_pass T (wanted_no rfl rfl (T.ev 2 rfl) rfl) rfl rfl rfl ?_; clear T ac; intro ac T
               refine l_pass T (wanted_no rfl rfl (T.ev 3 rfl) rfl) rfl rfl rfl ?_; clear T ac; intro ac T
               refine l_pass T (wanted_no rfl rfl (T.ev 4 rfl) rfl) rfl rfl rfl ?_; clear T ac; intro ac T
               refine l_q T rfl rfl rfl rfl (rn_pick0 rfl (T.ev 5 rfl) rfl evc) ?_; clear T ac; intro ac T
               refine l_q T rfl rfl rfl rfl (rn_move rfl (T.ev 0 rfl)) ?_; clear T ac; intro ac T
               refine l_pass T (wanted_no rfl rfl (T.ev 0 rfl) rfl) rfl rfl rfl ?_; clear T ac; intro ac T
               refine l_pass T (wanted_no rfl rfl (T.ev 1 rfl) rfl) rfl rfl rfl ?_; clear T ac; intro ac T
               refine l_pass T (wanted_no rfl rfl (T.ev 2 rfl) rfl) rfl rfl rfl ?_; clear T ac; intro ac T
               refine l_pass T (wanted_no rfl rfl (T.ev 3 rfl) rfl) rfl rfl rfl ?_; clear T ac; intro ac T
               refine l_pass T (wanted_no rfl rfl (T.ev 4 rfl) rfl) rfl rfl rfl ?_; clear T ac; intro ac T
               refine l_pass T (wanted_no rfl rfl (T.ev 5 rfl) rfl) rfl rfl rfl ?_; clear T ac; intro ac T
               refine l_q T rfl rfl rfl rfl (rn_pick0 rfl (T.ev 6 rfl) rfl evc) ?_; clear T ac; intro ac T
               refine l_q T rfl rfl rfl rfl (rn_move rfl (T.ev 0 rfl)) ?_; clear T ac; intro ac T
               refine l_pass T (wanted_no rfl rfl (T.ev 0 rfl) rfl) rfl rfl rfl ?_; clear T ac; intro ac T
               refine l_pass T (wanted_no rfl rfl (T.ev 1 rfl) rfl) rfl rfl rfl ?_; clear T ac; intro ac T
               refine l_pass T (wanted_no rfl rfl (T.ev 2 rfl) rfl) rfl rfl rfl ?_; clear T ac; intro ac T
               refine l_q T rfl rfl rfl rfl (rn_pick0 rfl (T.ev 3 rfl) rfl evc) ?_; clear T ac; intro ac T
               refine l_q T rfl rfl rfl rfl (rn_move rfl (T.ev 0 rfl)) ?_; clear T ac; intro ac T
               refine l_pass T (wanted_no rfl rfl (T.ev 0 rfl) rfl) rfl rfl rfl ?_; clear T ac; intro ac T
               refine l_pass T (wanted_no rfl rfl (T.ev 1 rfl) rfl) rfl rfl rfl ?_; clear T ac; intro ac T
               refine l_pass T (wanted_no rfl rfl (T.ev 2 rfl) rfl) rfl rfl rfl ?_; clear T ac; intro ac T
               refine l_pass T (wanted_un rfl rfl (T.ev 0 rfl)) rfl rfl rfl ?_; clear T ac; intro ac T
               refine l_pass T (wanted_un rfl rfl (T.ev 1 rfl)) rfl rfl rfl ?_; clear T ac; intro ac T
               refine l_pass T (wanted_no rfl rfl (T.ev 5 rfl) rfl) rfl rfl rfl ?_; clear T ac; intro ac T
               refine l_pass T (wanted_no rfl rfl (T.ev 6 rfl) rfl) rfl rfl rfl ?_; clear T ac; intro ac T
               refine l_q T rfl rfl rfl rfl (rn_pick0 rfl (T.ev 7 rfl) rfl evc) ?_; clear T ac; intro ac T
               refine l_q T rfl rfl rfl rfl (rn_move rfl (T.ev 0 rfl)) ?_; clear T ac; intro ac T
               refine l_pass T (wanted_no rfl rfl (T.ev 0 rfl) rfl) rfl rfl rfl ?_; clear T ac; intro ac T
               refine l_q T rfl rfl rfl rfl (rn_pick0 rfl (T.ev 1 rfl) rfl evc) ?_; clear T ac; intro ac T
               refine l_q T rfl rfl rfl rfl (rn_assign rfl (T.ev 0 rfl)) ?_; clear T ac; intro ac T
               refine wpList_nil ?_
               replace T := T.pick [0] rfl
               replace M := M.mask [false, false] rfl
               exact ⟨(T.pick (E' := [(2, .bool false)]) [0] rfl).as (by (try rw [show (decide ((checkStrokesJ ju2 lu3) = 0)) = true from (decide_eq_true h7)]); (try rw [show (decide (((worstT ju2 lu3).2) = 0)) = true from (decide_eq_true h8)]); (try rw [show (decide (((spoiledT ju2 lu3).2) = 0)) = true from (decide_eq_true h9)]); (try rw [show (decide (((fineT ju2 lu3).2) = 0)) = true from (decide_eq_true h10)]); (try rw [show (decide (((afT ju2 lu3).p0) ≤ a ∧ a ≤ ((afT ju2 lu3).p1))) = false from (decide_eq_false h11)]); (try rfl)), M.mask [] rfl⟩
             ·replace h10 := of_decide_eq_false h10
              refine l_pass T (wanted_no rfl rfl (T.ev 0 rfl) (decide_eq_false h10)) rfl rfl rfl ?_; clear T ac; intro ac T
              refine l_pass T (wanted_no rfl rfl (T.ev 1 rfl) (decide_eq_false h10)) rfl rfl rfl ?_; clear T ac; intro ac T
              refine l_pass T (wanted_no rfl rfl (T.ev 2 rfl) (decide_eq_false h10)) rfl rfl rfl ?_; clear T ac; intro ac T
              refine l_pass T (wanted_no rfl rfl (T.ev 3 rfl) (decide_eq_false h10)) rfl rfl rfl ?_; clear T ac; intro ac T
              refine l_pass T (wanted_no rfl rfl (T.ev 4 rfl) (decide_eq_false h10)) rfl rfl rfl ?_; clear T ac; intro ac T
              refine l_q T rfl rfl rfl rfl (rn_pick0 rfl (T.ev 5 rfl) (decide_eq_false h10) evc) ?_; clear T ac; intro ac T
              refine l_q T rfl rfl rfl rfl (rn_move rfl (T.ev 0 rfl)) ?_; clear T ac; intro ac T
              refine l_pass T (wanted_no rfl rfl (T.ev 0 rfl) rfl) rfl rfl rfl ?_; clear T ac; intro ac T
              refine l_pass T (wanted_no rfl rfl (T.ev 1 rfl) rfl) rfl rfl rfl ?_; clear T ac; intro ac T
              refine l_pass T (wanted_no rfl rfl (T.ev 2 rfl) rfl) rfl rfl rfl ?_; clear T ac; intro ac T
              refine l_pass T (wanted_no rfl rfl (T.ev 3 rfl) rfl) rfl rfl rfl ?_; clear T ac; intro ac T
              refine l_pass T (wanted_no rfl rfl (T.ev 4 rfl) rfl) rfl rfl rfl ?_; clear T ac; intro ac T
              refine l_q T rfl rfl rfl rfl (rn_pick0 rfl (T.ev 5 rfl) rfl evc) ?_; clear T ac; intro ac T
              refine l_q T rfl rfl rfl rfl (rn_move rfl (T.ev 0 rfl)) ?_; clear T ac; intro ac T
              refine l_pass T (wanted_no rfl rfl (T.ev 0 rfl) rfl) rfl rfl rfl ?_; clear T ac; intro ac T
              refine l_pass T (wanted_no rfl rfl (T.ev 1 rfl) rfl) rfl rfl rfl ?_; clear T ac; intro ac T
              refine l_pass T (wanted_no rfl rfl (T.ev 2 rfl) rfl) rfl rfl rfl ?_; clear T ac; intro ac T
              refine l_pass T (wanted_no rfl rfl (T.ev 3 rfl) rfl) rfl rfl rfl ?_; clear T ac; intro ac T
              refine l_pass T (wanted_no rfl rfl (T.ev 4 rfl) rfl) rfl rfl rfl ?_; clear T ac; intro ac T
              refine l_q T rfl rfl rfl rfl (rn_pick0 rfl (T.ev 5 rfl) rfl evc) ?_; clear T ac; intro ac T
              refine l_q T rfl rfl rfl rfl (rn_move rfl (T.ev 0 rfl)) ?_; clear T ac; intro ac T
              refine l_pass T (wanted_no rfl rfl (T.ev 0 rfl) rfl) rfl rfl rfl ?_; clear T ac; intro ac T
              refine l_pass T (wanted_no rfl rfl (T.ev 1 rfl) rfl) rfl rfl rfl ?_; clear T ac; intro ac T
              refine l_pass T (wanted_no rfl rfl (T.ev 2 rfl) rfl) rfl rfl rfl ?_; clear T ac; intro ac T
              refine l_pass T (wanted_no rfl rfl (T.ev 3 rfl) rfl) rfl rfl rfl ?_; clear T ac; intro ac T
              refine l_pass T (wanted_no rfl rfl (T.ev 4 rfl) rfl) rfl rfl rfl ?_; clear T ac; intro ac T
              refine l_pass T (wanted_no rfl rfl (T.ev 5 rfl) rfl) rfl rfl rfl ?_; clear T ac; intro ac T
              refine l_q T rfl rfl rfl rfl (rn_pick0 rfl (T.ev 6 rfl) rfl evc) ?_; clear T ac; intro ac T
              refine l_q T rfl rfl rfl rfl (rn_move rfl (T.ev 0 rfl)) ?_; clear T ac; intro ac T
              refine l_pass T (wanted_no rfl rfl (T.ev 0 rfl) rfl) rfl rfl rfl ?_; clear T ac; intro ac T
              refine l_pass T (wanted_no rfl rfl (T.ev 1 rfl) rfl) rfl rfl rfl ?_; clear T ac; intro ac T
              refine l_pass T (wanted_no rfl rfl (T.ev 2 rfl) rfl) rfl rfl rfl ?_; clear T ac; intro ac T
              refine l_q T rfl rfl rfl rfl (rn_pick0 rfl (T.ev 3 rfl) rfl evc) ?_; clear T ac; intro ac T
              refine l_q T rfl rfl rfl rfl (rn_move rfl (T.ev 0 rfl)) ?_; clear T ac; intro ac T
              refine l_pass T (wanted_no rfl rfl (T.ev 0 rfl) rfl) rfl rfl rfl ?_; clear T ac; intro ac T
              refine l_pass T (wanted_no rfl rfl (T.ev 1 rfl) rfl) rfl rfl rfl ?_; clear T ac; intro ac T
              refine l_pass T (wanted_no rfl rfl (T.ev 2 rfl) rfl) rfl rfl rfl ?_; clear T ac; intro ac T
              refine l_pass T (wanted_un rfl rfl (T.ev 0 rfl)) rfl rfl rfl ?_; clear T ac; intro ac T
              refine l_pass T (wanted_un rfl rfl (T.ev 1 rfl)) rfl rfl rfl ?_; clear T ac; intro ac T
              refine l_pass T (wanted_no rfl rfl (T.ev 5 rfl) rfl) rfl rfl rfl ?_; clear T ac; intro ac T
              refine l_pass T (wanted_no rfl rfl (T.ev 6 rfl) rfl) rfl rfl rfl ?_; clear T ac; intro ac T
              refine l_q T rfl rfl rfl rfl (rn_pick0 rfl (T.ev 7 rfl) rfl evc) ?_; clear T ac; intro ac T
              refine l_q T rfl rfl rfl rfl (rn_move rfl (T.ev 0 rfl)) ?_; clear T ac; intro ac T
              refine l_pass T (wanted_no rfl rfl (T.ev 0 rfl) rfl) rfl rfl rfl ?_; clear T ac; intro ac T
              refine l_q T rfl rfl rfl rfl (rn_pick0 rfl (T.ev 1 rfl) rfl evc) ?_; clear T ac; intro ac T
              refine l_q T rfl rfl rfl rfl (rn_assign rfl (T.ev 0 rfl)) ?_; clear T ac; intro ac T
              refine wpList_nil ?_
              replace T := T.pick [0] rfl
              replace M := M.mask [false, false] rfl
              exact ⟨(T.pick (E' := [(2, .bool false)]) [0] rfl).as (by (try rw [show (decide ((checkStrokesJ ju2 lu3) = 0)) = true from (decide_eq_true h7)]); (try rw [show (decide (((worstT ju2 lu3).2) = 0)) = true from (decide_eq_true h8)]); (try rw [show (decide (((spoiledT ju2 lu3).2) = 0)) = true from (decide_eq_true h9)]); (try rw [show (decide (((fineT ju2 lu3).2) = 0)) = false from (decide_eq_false h10)]); (try rfl)), M.mask [] rfl⟩
            ·replace h9 := of_decide_eq_false h9
             refine l_pass T (wanted_no rfl rfl (T.ev 0 rfl) (decide_eq_false h9)) rfl rfl rfl ?_; clear T ac; intro ac T
             refine l_pass T (wanted_no rfl rfl (T.ev 1 rfl) (decide_eq_false h9)) rfl rfl rfl ?_; clear T ac; intro ac T
             refine l_q T rfl rfl rfl rfl (rn_pick0 rfl (T.ev 2 rfl) (decide_eq_false h9) evc) ?_; clear T ac; intro ac T
             refine l_q T rfl rfl rfl rfl (rn_move rfl (T.ev 0 rfl)) ?_; clear T ac; intro ac T
             refine l_pass T (wanted_no rfl rfl (T.ev 0 rfl) rfl) rfl rfl rfl ?_; clear T ac; intro ac T
             refine l_pass T (wanted_no rfl rfl (T.ev 1 rfl) rfl) rfl rfl rfl ?_; clear T ac; intro ac T
             refine l_pass T (wanted_no rfl rfl (T.ev 2 rfl) rfl) rfl rfl rfl ?_; clear T ac; intro ac T
             refine l_pass T (wanted_no rfl rfl (T.ev 3 rfl) rfl) rfl rfl rfl ?_; clear T ac; intro ac T
             refine l_pass T (wanted_no rfl rfl (T.ev 4 rfl) rfl) rfl rfl rfl ?_; clear T ac; intro ac T
             refine l_q T rfl rfl rfl rfl (rn_pick0 rfl (T.ev 5 rfl) rfl evc) ?_; clear T ac; intro ac T
             refine l_q T rfl rfl rfl rfl (rn_move rfl (T.ev 0 rfl)) ?_; clear T ac; intro ac T
             refine l_pass T (wanted_no rfl rfl (T.ev 0 rfl) rfl) rfl rfl rfl ?_; clear T ac; intro ac T
             refine l_pass T (wanted_no rfl rfl (T.ev 1 rfl) rfl) rfl rfl rfl ?_; clear T ac; intro ac T
             refine l_pass T (wanted_no rfl rfl (T.ev 2 rfl) rfl) rfl rfl rfl ?_; clear T ac; intro ac T
             refine l_pass T (wanted_no rfl rfl (T.ev 3 rfl) rfl) rfl rfl rfl ?_; clear T ac; intro ac T
             refine l_pass T (wanted_no rfl rfl (T.ev 4 rfl) rfl) rfl rfl rfl ?_; clear T ac; intro ac T
             refine l_q T rfl rfl rfl rfl (rn_pick0 rfl (T.ev 5 rfl) rfl evc) ?_; clear T ac; intro ac T
             refine l_q T rfl rfl rfl rfl (rn_move rfl (T.ev 0 rfl)) ?_; clear T ac; intro ac T
             refine l_pass T (wanted_no rfl rfl (T.ev 0 rfl) rfl) rfl rfl rfl ?_; clear T ac; intro ac T
             refine l_pass T (wanted_no rfl rfl (T.ev 1 rfl) rfl) rfl rfl rfl ?_; clear T ac; intro ac T
             refine l_pass T (wanted_no rfl rfl (T.ev 2 rfl) rfl) rfl rfl rfl ?_; clear T ac; intro ac T
             refine l_pass T (wanted_no rfl rfl (T.ev 3 rfl) rfl) rfl rfl rfl ?_; clear T ac; intro ac T
             refine l_pass T (wanted_no rfl rfl (T.ev 4 rfl) rfl) rfl rfl rfl ?_; clear T ac; intro ac T
             refine l_q T rfl rfl rfl rfl (rn_pick0 rfl (T.ev 5 rfl) rfl evc) ?_; clear T ac; intro ac T
             refine l_q T rfl rfl rfl rfl (rn_move rfl (T.ev 0 rfl)) ?_; clear T ac; intro ac T
             refine l_pass T (wanted_no rfl rfl (T.ev 0 rfl) rfl) rfl rfl rfl ?_; clear T ac; intro ac T
             refine l_pass T (wanted_no rfl rfl (T.ev 1 rfl) rfl) rfl rfl rfl ?_; clear T ac; intro ac T
             refine l_pass T (wanted_no rfl rfl (T.ev 2 rfl) rfl) rfl rfl rfl ?_; clear T ac; intro ac T
             refine l_pass T (wanted_no rfl rfl (T.ev 3 rfl) rfl) rfl rfl rfl ?_; clear T ac; intro ac T
             refine l_pass T (wanted_no rfl rfl (T.ev 4 rfl) rfl) rfl rfl rfl ?_; clear T ac; intro ac T
             refine l_pass T (wanted_no rfl rfl (T.ev 5 rfl) rfl) rfl rfl rfl ?_; clear T ac; intro ac T
             refine l_q T rfl rfl rfl rfl (rn_pick0 rfl (T.ev 6 rfl) rfl evc) ?_; clear T ac; intro ac T
             refine l_q T rfl rfl rfl rfl (rn_move rfl (T.ev 0 rfl)) ?_; clear T ac; intro ac T
             refine l_pass T (wanted_no rfl rfl (T.ev 0 rfl) rfl) rfl rfl rfl ?_; clear T ac; intro ac T
             refine l_pass T (wanted_no rfl rfl (T.ev 1 rfl) rfl) rfl rfl rfl ?_; clear T ac; intro ac T
             refine l_pass T (wanted_no rfl rfl (T.ev 2 rfl) rfl) rfl rfl rfl ?_; clear T ac; intro ac T
             refine l_q T rfl rfl rfl rfl (rn_pick0 rfl (T.ev 3 rfl) rfl evc) ?_; clear T ac; intro ac T
             refine l_q T rfl rfl rfl rfl (rn_move rfl (T.ev 0 rfl)) ?_; clear T ac; intro ac T
             refine l_pass T (wanted_no rfl rfl (T.ev 0 rfl) rfl) rfl rfl rfl ?_; clear T ac; intro ac T
             refine l_pass T (wanted_no rfl rfl (T.ev 1 rfl) rfl) rfl rfl rfl ?_; clear T ac; intro ac T
             refine l_pass T (wanted_no rfl rfl (T.ev 2 rfl) rfl) rfl rfl rfl ?_; clear T ac; intro ac T
             refine l_pass T (wanted_un rfl rfl (T.ev 0 rfl)) rfl rfl rfl ?_; clear T ac; intro ac T
             refine l_pass T (wanted_un rfl rfl (T.ev 1 rfl)) rfl rfl rfl ?_; clear T ac; intro ac T
             refine l_pass T (wanted_no rfl rfl (T.ev 5 rfl) rfl) rfl rfl rfl ?_; clear T ac; intro ac T
             refine l_pass T (wanted_no rfl rfl (T.ev 6 rfl) rfl) rfl rfl rfl ?_; clear T ac; intro ac T
             refine l_q T rfl rfl rfl rfl (rn_pick0 rfl (T.ev 7 rfl) rfl evc) ?_; clear T ac; intro ac T
             refine l_q T rfl rfl rfl rfl (rn_move rfl (T.ev 0 rfl)) ?_; clear T ac; intro ac T
             refine l_pass T (wanted_no rfl rfl (T.ev 0 rfl) rfl) rfl rfl rfl ?_; clear T ac; intro ac T
             refine l_q T rfl rfl rfl rfl (rn_pick0 rfl (T.ev 1 rfl) rfl evc) ?_; clear T ac; intro ac T
             refine l_q T rfl rfl rfl rfl (rn_assign rfl (T.ev 0 rfl)) ?_; clear T ac; intro ac T
             refine wpList_nil ?_
             replace T := T.pick [0] rfl
             replace M := M.mask [false, false] rfl
             exact ⟨(T.pick (E' := [(2, .bool false)]) [0] rfl).as (by (try rw [show (decide ((checkStrokesJ ju2 lu3) = 0)) = true from (decide_eq_true h7)]); (try rw [show (decide (((worstT ju2 lu3).2) = 0)) = true from (decide_eq_true h8)]); (try rw [show (decide (((spoiledT ju2 lu3).2) = 0)) = false from (decide_eq_false h9)]); (try rfl)), M.mask [] rfl⟩
           ·replace h8 := of_decide_eq_false h8
            refine l_pass T (wanted_no rfl rfl (T.ev 0 rfl) (decide_eq_false h8)) rfl rfl rfl ?_; clear T ac; intro ac T
            refine l_pass T (wanted_no rfl rfl (T.ev 1 rfl) (decide_eq_false h8)) rfl rfl rfl ?_; clear T ac; intro ac T
            refine l_q T rfl rfl rfl rfl (rn_pick0 rfl (T.ev 2 rfl) (decide_eq_false h8) evc) ?_; clear T ac; intro ac T
            refine l_q T rfl rfl rfl rfl (rn_move rfl (T.ev 0 rfl)) ?_; clear T ac; intro ac T
            refine l_pass T (wanted_no rfl rfl (T.ev 0 rfl) rfl) rfl rfl rfl ?_; clear T ac; intro ac T
            refine l_pass T (wanted_no rfl rfl (T.ev 1 rfl) rfl) rfl rfl rfl ?_; clear T ac; intro ac T
            refine l_q T rfl rfl rfl rfl (rn_pick0 rfl (T.ev 2 rfl) rfl evc) ?_; clear T ac; intro ac T
            refine l_q T rfl rfl rfl rfl (rn_move rfl (T.ev 0 rfl)) ?_; clear T ac; intro ac T
            refine l_pass T (wanted_no rfl rfl (T.ev 0 rfl) rfl) rfl rfl rfl ?_; clear T ac; intro ac T
            refine l_pass T (wanted_no rfl rfl (T.ev 1 rfl) rfl) rfl rfl rfl ?_; clear T ac; intro ac T
            refine l_pass T (wanted_no rfl rfl (T.ev 2 rfl) rfl) rfl rfl rfl ?_; clear T ac; intro ac T
            refine l_pass T (wanted_no rfl rfl (T.ev 3 rfl) rfl) rfl rfl rfl ?_; clear T ac; intro ac T
            refine l_pass T (wanted_no rfl rfl (T.ev 4 rfl) rfl) rfl rfl rfl ?_; clear T ac; intro ac T
            refine l_q T rfl rfl rfl rfl (rn_pick0 rfl (T.ev 5 rfl) rfl evc) ?_; clear T ac; intro ac T
            refine l_q T rfl rfl rfl rfl (rn_move rfl (T.ev 0 rfl)) ?_; clear T ac; intro ac T
            refine l_pass T (wanted_no rfl rfl (T.ev 0 rfl) rfl) rfl rfl rfl ?_; clear T ac; intro ac T
            refine l_pass T (wanted_no rfl rfl (T.ev 1 rfl) rfl) rfl rfl rfl ?_; clear T ac; intro ac T
            refine l_pass T (wanted_no rfl rfl (T.ev 2 rfl) rfl) rfl rfl rfl ?_; clear T ac; intro ac T
            refine l_pass T (wanted_no rfl rfl (T.ev 3 rfl) rfl) rfl rfl rfl ?_; clear T ac; intro ac T
            refine l_pass T (wanted_no rfl rfl (T.ev 4 rfl) rfl) rfl rfl rfl ?_; clear T ac; intro ac T
            refine l_q T rfl rfl rfl rfl (rn_pick0 rfl (T.ev 5 rfl) rfl evc) ?_; clear T ac; intro ac T
            refine l_q T rfl rfl rfl rfl (rn_move rfl (T.ev 0 rfl)) ?_; clear T ac; intro ac T
            refine l_pass T (wanted_no rfl rfl (T.ev 0 rfl) rfl) rfl rfl rfl ?_; clear T ac; intro ac T
            refine l_pass T (wanted_no rfl rfl (T.ev 1 rfl) rfl) rfl rfl rfl ?_; clear T ac; intro ac T
            refine l_pass T (wanted_no rfl rfl (T.ev 2 rfl) rfl) rfl rfl rfl ?_; clear T ac; intro ac T
            refine l_pass T (wanted_no rfl rfl (T.ev 3 rfl) rfl) rfl rfl rfl ?_; clear T ac; intro ac T
            refine l_pass T (wanted_no rfl rfl (T.ev 4 rfl) rfl) rfl rfl rfl ?_; clear T ac; intro ac T
            refine l_q T rfl rfl rfl rfl (rn_pick0 rfl (T.ev 5 rfl) rfl evc) ?_; clear T ac; intro ac T
            refine l_q T rfl rfl rfl rfl (rn_move rfl (T.ev 0 rfl)) ?_; clear T ac; intro ac T
            refine l_pass T (wanted_no rfl rfl (T.ev 0 rfl) rfl) rfl rfl rfl ?_; clear T ac; intro ac T
            refine l_pass T (wanted_no rfl rfl (T.ev 1 rfl) rfl) rfl rfl rfl ?_; clear T ac; intro ac T
            refine l_pass T (wanted_no rfl rfl (T.ev 2 rfl) rfl) rfl rfl rfl ?_; clear T ac; intro ac T
            refine l_pass T (wanted_no rfl rfl (T.ev 3 rfl) rfl) rfl rfl rfl ?_; clear T ac; intro ac T
            refine l_pass T (wanted_no rfl rfl (T.ev 4 rfl) rfl) rfl rfl rfl ?_; clear T ac; intro ac T
            refine l_pass T (wanted_no rfl rfl (T.ev 5 rfl) rfl) rfl rfl rfl ?_; clear T ac; intro ac T
            refine l_q T rfl rfl rfl rfl (rn_pick0 rfl (T.ev 6 rfl) rfl evc) ?_; clear T ac; intro ac T
            refine l_q T rfl rfl rfl rfl (rn_move rfl (T.ev 0 rfl)) ?_; clear T ac; intro ac T
            refine l_pass T (wanted_no rfl rfl (T.ev 0 rfl) rfl) rfl rfl rfl ?_; clear T ac; intro ac T
            refine l_pass T (wanted_no rfl rfl (T.ev 1 rfl) rfl) rfl rfl rfl ?_; clear T ac; intro ac T
            refine l_pass T (wanted_no rfl rfl (T.ev 2 rfl) rfl) rfl rfl rfl ?_; clear T ac; intro ac T
            refine l_q T rfl rfl rfl rfl (rn_pick0 rfl (T.ev 3 rfl) rfl evc) ?_; clear T ac; intro ac T
            refine l_q T rfl rfl rfl rfl (rn_move rfl (T.ev 0 rfl)) ?_; clear T ac; intro ac T
            refine l_pass T (wanted_no rfl rfl (T.ev 0 rfl) rfl) rfl rfl rfl ?_; clear T ac; intro ac T
            refine l_pass T (wanted_no rfl rfl (T.ev 1 rfl) rfl) rfl rfl rfl ?_; clear T ac; intro ac T
            refine l_pass T (wanted_no rfl rfl (T.ev 2 rfl) rfl) rfl rfl rfl ?_; clear T ac; intro ac T
            refine l_pass T (wanted_un rfl rfl (T.ev 0 rfl)) rfl rfl rfl ?_; clear T ac; intro ac T
            refine l_pass T (wanted_un rfl rfl (T.ev 1 rfl)) rfl rfl rfl ?_; clear T ac; intro ac T
            refine l_pass T (wanted_no rfl rfl (T.ev 5 rfl) rfl) rfl rfl rfl ?_; clear T ac; intro ac T
            refine l_pass T (wanted_no rfl rfl (T.ev 6 rfl) rfl) rfl rfl rfl ?_; clear T ac; intro ac T
            refine l_q T rfl rfl rfl rfl (rn_pick0 rfl (T.ev 7 rfl) rfl evc) ?_; clear T ac; intro ac T
            refine l_q T rfl rfl rfl rfl (rn_move rfl (T.ev 0 rfl)) ?_; clear T ac; intro ac T
            refine l_pass T (wanted_no rfl rfl (T.ev 0 rfl) rfl) rfl rfl rfl ?_; clear T ac; intro ac T
            refine l_q T rfl rfl rfl rfl (rn_pick0 rfl (T.ev 1 rfl) rfl evc) ?_; clear T ac; intro ac T
            refine l_q T rfl rfl rfl rfl (rn_assign rfl (T.ev 0 rfl)) ?_; clear T ac; intro ac T
            refine wpList_nil ?_
            replace T := T.pick [0] rfl
            replace M := M.mask [false, false] rfl
            exact ⟨(T.pick (E' := [(2, .bool false)]) [0] rfl).as (by (try rw [show (decide ((checkStrokesJ ju2 lu3) = 0)) = true from (decide_eq_true h7)]); (try rw [show (decide (((worstT ju2 lu3).2) = 0)) = false from (decide_eq_false h8)]); (try rfl)), M.mask [] rfl⟩
          ·replace h7 := of_decide_eq_false h7
           refine l_pass T (wanted_no rfl rfl (T.ev 0 rfl) (decide_eq_false h7)) rfl rfl rfl ?_; clear T ac; intro ac T
           refine l_pass T (wanted_no rfl rfl (T.ev 1 rfl) (decide_eq_false h7)) rfl rfl rfl ?_; clear T ac; intro ac T
           refine l_q T rfl rfl rfl rfl (rn_pick0 rfl (T.ev 2 rfl) (decide_eq_false h7) evc) ?_; clear T ac; intro ac T
           refine l_q T rfl rfl rfl rfl (rn_move rfl (T.ev 0 rfl)) ?_; clear T ac; intro ac T
           refine l_pass T (wanted_no rfl rfl (T.ev 0 rfl) rfl) rfl rfl rfl ?_; clear T ac; intro ac T
           refine l_pass T (wanted_no rfl rfl (T.ev 1 rfl) rfl) rfl rfl rfl ?_; clear T ac; intro ac T
           refine l_q T rfl rfl rfl rfl (rn_pick0 rfl (T.ev 2 rfl) rfl evc) ?_; clear T ac; intro ac T
           refine l_q T rfl rfl rfl rfl (rn_move rfl (T.ev 0 rfl)) ?_; clear T ac; intro ac T
           refine l_pass T (wanted_no rfl rfl (T.ev 0 rfl) rfl) rfl rfl rfl ?_; clear T ac; intro ac T
           refine l_pass T (wanted_no rfl rfl (T.ev 1 rfl) rfl) rfl rfl rfl ?_; clear T ac; intro ac T
           refine l_q T rfl rfl rfl rfl (rn_pick0 rfl (T.ev 2 rfl) rfl evc) ?_; clear T ac; intro ac T
           refine l_q T rfl rfl rfl rfl (rn_move rfl (T.ev 0 rfl)) ?_; clear T ac; intro ac T
           refine l_pass T (wanted_no rfl rfl (T.ev 0 rfl) rfl) rfl rfl rfl ?_; clear T ac; intro ac T
           refine l_pass T (wanted_no rfl rfl (T.ev 1 rfl) rfl) rfl rfl rfl ?_; clear T ac; intro ac T
           refine l_pass T (wanted_no rfl rfl (T.ev 2 rfl) rfl) rfl rfl rfl ?_; clear T ac; intro ac T
           refine l_pass T (wanted_no rfl rfl (T.ev 3 rfl) rfl) rfl rfl rfl ?_; clear T ac; intro ac T
           refine l_pass T (wanted_no rfl rfl (T.ev 4 rfl) rfl) rfl rfl rfl ?_; clear T ac; intro ac T
           refine l_q T rfl rfl rfl rfl (rn_pick0 rfl (T.ev 5 rfl) rfl evc) ?_; clear T ac; intro ac T
           refine l_q T rfl rfl rfl rfl (rn_move rfl (T.ev 0 rfl)) ?_; clear T ac; intro ac T
           refine l_pass T (wanted_no rfl rfl (T.ev 0 rfl) rfl) rfl rfl rfl ?_; clear T ac; intro ac T
           refine l_pass T (wanted_no rfl rfl (T.ev 1 rfl) rfl) rfl rfl rfl ?_; clear T ac; intro ac T
           refine l_pass T (wanted_no rfl rfl (T.ev 2 rfl) rfl) rfl rfl rfl ?_; clear T ac; intro ac T
           refine l_pass T (wanted_no rfl rfl (T.ev 3 rfl) rfl) rfl rfl rfl ?_; clear T ac; intro ac T
           refine l_pass T (wanted_no rfl rfl (T.ev 4 rfl) rfl) rfl rfl rfl ?_; clear T ac; intro ac T
           refine l_q T rfl rfl rfl rfl (rn_pick0 rfl (T.ev 5 rfl) rfl evc) ?_; clear T ac; intro ac T
           refine l_q T rfl rfl rfl rfl (rn_move rfl (T.ev 0 rfl)) ?_; clear T ac; intro ac T
           refine l_pass T (wanted_no rfl rfl (T.ev 0 rfl) rfl) rfl rfl rfl ?_; clear T ac; intro ac T
           refine l_pass T (wanted_no rfl rfl (T.ev 1 rfl) rfl) rfl rfl rfl ?_; clear T ac; intro ac T
           refine l_pass T (wanted_no rfl rfl (T.ev 2 rfl) rfl) rfl rfl rfl ?_; clear T ac; intro ac T
           refine l_pass T (wanted_no rfl rfl (T.ev 3 rfl) rfl) rfl rfl rfl ?_; clear T ac; intro ac T
           refine l_pass T (wanted_no rfl rfl (T.ev 4 rfl) rfl) rfl rfl rfl ?_; clear T ac; intro ac T
           refine l_q T rfl rfl rfl rfl (rn_pick0 rfl (T.ev 5 rfl) rfl evc) ?_; clear T ac; intro ac T
           refine l_q T rfl rfl rfl rfl (rn_move rfl (T.ev 0 rfl)) ?_; clear T ac; intro ac T
           refine l_pass T (wanted_no rfl rfl (T.ev 0 rfl) rfl) rfl rfl rfl ?_; clear T ac; intro ac T
           refine l_pass T (wanted_no rfl rfl (T.ev 1 rfl) rfl) rfl rfl rfl ?_; clear T ac; intro ac T
           refine l_pass T (wanted_no rfl rfl (T.ev 2 rfl) rfl) rfl rfl rfl ?_; clear T ac; intro ac T
           refine l_pass T (wanted_no rfl rfl (T.ev 3 rfl) rfl) rfl rfl rfl ?_; clear T ac; intro ac T
           refine l_pass T (wanted_no rfl rfl (T.ev 4 rfl) rfl) rfl rfl rfl ?_; clear T ac; intro ac T
           refine l_pass T (wanted_no rfl rfl (T.ev 5 rfl) rfl) rfl rfl rfl ?_; clear T ac; intro ac T
           refine l_q T rfl rfl rfl rfl (rn_pick0 rfl (T.ev 6 rfl) rfl evc) ?_; clear T ac; intro ac T
           refine l_q T rfl rfl rfl rfl (rn_move rfl (T.ev 0 rfl)) ?_; clear T ac; intro ac T
           refine l_pass T (wanted_no rfl rfl (T.ev 0 rfl) rfl) rfl rfl rfl ?_; clear T ac; intro ac T
           refine l_pass T (wanted_no rfl rfl (T.ev 1 rfl) rfl) rfl rfl rfl ?_; clear T ac; intro ac T
           refine l_pass T (wanted_no rfl rfl (T.ev 2 rfl) rfl) rfl rfl rfl ?_; clear T ac; intro ac T
           refine l_q T rfl rfl rfl rfl (rn_pick0 rfl (T.ev 3 rfl) rfl evc) ?_; clear T ac; intro ac T
           refine l_q T rfl rfl rfl rfl (rn_move rfl (T.ev 0 rfl)) ?_; clear T ac; intro ac T
           refine l_pass T (wanted_no rfl rfl (T.ev 0 rfl) rfl) rfl rfl rfl ?_; clear T ac; intro ac T
           refine l_pass T (wanted_no rfl rfl (T.ev 1 rfl) rfl) rfl rfl rfl ?_; clear T ac; intro ac T
           refine l_pass T (wanted_no rfl rfl (T.ev 2 rfl) rfl) rfl rfl rfl ?_; clear T ac; intro ac T
           refine l_pass T (wanted_un rfl rfl (T.ev 0 rfl)) rfl rfl rfl ?_; clear T ac; intro ac T
           refine l_pass T (wanted_un rfl rfl (T.ev 1 rfl)) rfl rfl rfl ?_; clear T ac; intro ac T
           refine l_pass T (wanted_no rfl rfl (T.ev 5 rfl) rfl) rfl rfl rfl ?_; clear T ac; intro ac T
           refine l_pass T (wanted_no rfl rfl (T.ev 6 rfl) rfl) rfl rfl rfl ?_; clear T ac; intro ac T
           refine l_q T rfl rfl rfl rfl (rn_pick0 rfl (T.ev 7 rfl) rfl evc) ?_; clear T ac; intro ac T
           refine l_q T rfl rfl rfl rfl (rn_move rfl (T.ev 0 rfl)) ?_; clear T ac; intro ac T
           refine l_pass T (wanted_no rfl rfl (T.ev 0 rfl) rfl) rfl rfl rfl ?_; clear T ac; intro ac T
           refine l_q T rfl rfl rfl rfl (rn_pick0 rfl (T.ev 1 rfl) rfl evc) ?_; clear T ac; intro ac T
           refine l_q T rfl rfl rfl rfl (rn_assign rfl (T.ev 0 rfl)) ?_; clear T ac; intro ac T
           refine wpList_nil ?_
           replace T := T.pick [0] rfl
           replace M := M.mask [false, false] rfl
           exact ⟨(T.pick (E' := [(2, .bool false)]) [0] rfl).as (by (try rw [show (decide ((checkStrokesJ ju2 lu3) = 0)) = false from (decide_eq_false h7)]); (try rfl)), M.mask [] rfl⟩
         ·clear T M
          rintro ac wc ⟨T, M⟩
          refine wp_ret ?_
          refine rt_1 T rfl (T.ev 0 rfl) ?_
          have hle9 : (ju2.st.after lu3).le = ju2.le := InS.le_after (j := ju2) lu3 rfl
          have r1 := worst_in hqur4_5 hin1
          have r2 := spoiled_right hin
          have r3 := fine_right hgu2 hqur4_5 hin
          rw [hle9] at r2 r3
          rw [rb_and] at r3
          have hin2 := hin.t
          have hin3 := hin.r
          refine ⟨ret_bool ?_, M.below⟩
          rw [tp2]
          simp only [tp1, tp3, tp4, tp5, decide_eq_true hin1, decide_eq_true hin2, decide_eq_true hin3, decide_eq_true r1, r2, r3, decide_true, Bool.and_true, Bool.true_and]

end Go.Proofs.Ytfhmbmhennfojaa

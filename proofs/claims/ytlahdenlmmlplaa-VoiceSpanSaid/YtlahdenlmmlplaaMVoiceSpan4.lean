/-
  Walks of functions, and plain laws (texts put together). No condition.
-/
import Derived.RangeFuncNested
import Derived.RangeFuncBound
import Derived.RangeFuncCalls
import Derived.RangeFuncLeaves
import Derived.Shelf.Abstract
import Derived.Shelf.RegionOpen
import Derived.OwnWalkIn
import Derived.TacticsInMore
import Derived.LoopNIn
import Derived.LoopIn
import Derived.Scope
import Derived.WalkMore
import Derived.Test.YtlahdenlmmlplaaMVoiceSpan1
import Derived.Test.YtlahdenlmmlplaaMVoiceSpan2
import Derived.Test.YtlahdenlmmlplaaMVoiceSpan3
set_option maxRecDepth 100000
set_option maxHeartbeats 1000000
section
/-
 voice: the verdicts on the notes of a scale.
-/
namespace Go.Proofs.Ytlahdenlmmlplaa
set_option linter.unusedSimpArgs false
set_option linter.unusedVariables false
open Go.RowKit
theorem voiceP_in {R : List (List Snd)} {r : Int} {n : Nat} (hr : 0 ≤ r ∧ r < R.length) (hn : ∀ x ∈ R, n < x.length) : ∃ x ∈ R, voiceP R n r ∈ x := by
 have h1 : r.toNat < R.length := by omega
 have hm : R[r.toNat] ∈ R := List.getElem_mem _
 refine ⟨R[r.toNat], hm, ?_⟩
 unfold voiceP
 rw [List.getD_eq_getElem?_getD (l := R), List.getElem?_eq_getElem h1]
 show (R[r.toNat]).getD n _ ∈ _
 rw [List.getD_eq_getElem?_getD, List.getElem?_eq_getElem (hn _ hm)]
 exact List.getElem_mem _
theorem voicesP_good {l : Lw} {R : List (List Snd)} {g : List Int} {n : Nat} (gS : SGood l R) (hg : ∀ r ∈ g, 0 ≤ r ∧ r < R.length) (hn : n < notesP R) : ∀ z ∈ voicesP R g n, z.good := fun z hz => by
 obtain ⟨r, hr, rfl⟩ := List.mem_map.1 hz
 obtain ⟨x, hx, hv⟩ := voiceP_in (n := n) (hg r hr) (fun x hx => by rw [(gS.rows x hx).2.1]; exact hn)
 exact (gS.rows x hx).2.2 _ hv
theorem tremP_take {l : Lw} {R : List (List Snd)} {g : List Int} {k : Nat} (hk : k < notesP R) : (tremP l R g).take (k + 1) = (tremP l R g).take k ++ [keepsP l (l.first + l.step * (k : Int)) (voicesP R g k)] := by
 unfold tremP
 rw [List.take_add_one, List.getElem?_map, List.getElem?_range hk]
 rfl
theorem tremP_length (l : Lw) (R : List (List Snd)) (g : List Int) : (tremP l R g).length = notesP R := by simp [tremP]
def tremE (l : Lw) (R : List (List Snd)) (g : List Int) : List Int × Int := if checkR l R g = 0 then (tremP l R g, 0) else ([], checkR l R g)
theorem voices_any (l : Lw) (A : Option Addr) (c : Nat) (LL : List LS) (G : Option Addr) (d : Nat) (g : List Int) (nt : Nat) (w : World) (hA : Rd w w.heap.size 1 A LL.length (lsC LL)) (hE : ElsS w LL) (nL : LL.length ≤ 1000000) (nE : ∀ x ∈ LL, x.1.length ≤ 1000000) (hG : Rd w w.heap.size 1 G g.length (ic g)) (nG : g.length ≤ 1000000) (hg : ∀ r ∈ g, 0 ≤ r ∧ r < LL.length) (hn : ∀ x ∈ LL, nt < x.1.length) :
   Calls Try.prog 57 #[.agg #[.int .i64 l.first, .int .i64 l.step, .int .i64 l.span, .int .i64 l.press, .slice A LL.length c, .slice G g.length d], .int .i64 (nt : Int)] w (VoicesPost (voicesP (rowsOf LL) g nt) w) := by
 obtain ⟨bA, oA, SA⟩ := Sp.old hA
 obtain ⟨bG, oG, SG⟩ := Sp.old hG
 refine px_enter noEx Try.func57 rfl 29 rfl [.agg #[.int .i64 l.first, .int .i64 l.step, .int .i64 l.span, .int .i64 l.press, .slice A LL.length c, .slice G g.length d], .int .i64 (nt : Int)] rfl rfl (Mem.init w _) ?_
 intro ac wc T M
 refine wp_seq ?_
 refine wp_region_lit ?_
 refine l_w rfl ?_; intro K hK
 refine ow_bx M T rfl rfl rfl rfl (T.ev 0 rfl) rfl ?_; clear M T; intro g1 wc ac M T
 refine sh_out hK _ _ ?_; clear hK K
 refine lq T (rn_assign rfl evc) ?_; clear T ac; intro ac T
 refine wpList_nil ?_
 replace T := T.pick [1, 3] rfl
 refine nm_then ?_
 refine wp_seq ?_
 refine wp_region_lit ?_
 refine lq T (rn_assign rfl evc) ?_; clear T ac; intro ac T
 refine wpList_nil ?_
 refine nm_then ?_
 refine wp_seq ?_
 refine wp_seq ?_
 refine wp_region_lit ?_
 refine lq (v := (.pointer (some ⟨g1, 5, none⟩))) T (rn_fieldAddr (off := 5) rfl (T.ev 1 rfl) (fun _ _ _ => by kernel_rfl)) ?_; clear T ac; intro ac T
 refine lq T (rn_one (Mem.nth M 0 rfl) rfl (T.ev 0 rfl) rfl) ?_; clear T ac; intro ac T
 refine lq T (rn_lenS rfl Try.underlying22 (T.ev 0 rfl)) ?_; clear T ac; intro ac T
 refine lq T (rn_move rfl evc) ?_; clear T ac; intro ac T
 refine wpList_nil ?_
 replace T := T.pick [0, 1, 2, 4, 5, 6] rfl
 refine nm_then ?_
 refine wp_block ?_
 refine wp_loop_n (fun mz ac wc => ∃ (k : Nat) (OL : List Snd) (A3 : Option Addr) (c3 : Nat) (Io : List (Nat × BA)), mz = g.length - k ∧ (k ≤ g.length) ∧ (OL = voicesP (rowsOf LL) (g.take k) nt) ∧ (OL.length = k) ∧ (Sl 48 4 (.slice A3 OL.length c3) OL.length (sc OL) Io) ∧ Tm ac 29 [(1, .int .i64 (nt : Int)), (2, .pointer (some ⟨g1, 0, none⟩)), (5, .slice A3 OL.length c3), (9, .slice G g.length d), (10, .int .i64 ((g.length : Nat) : Int)), (11, .int .i64 (k : Int))] ∧ Mem w noEx wc ((g1, .cells [.int .i64 l.first, .int .i64 l.step, .int .i64 l.span, .int .i64 l.press, .slice A LL.length c, .slice G g.length d]) :: Io)) ?_ ?_
 ·exact ⟨_, 0, [], none, 0, [], rfl, (Nat.zero_le _), rfl, rfl, (Sl.nil _ _), T.pick [5, 4, 3, 2, 1, 0] rfl, M.mask [true] rfl⟩
 clear T M
 rintro mz ac wc ⟨k, OL, A3, c3, Io, hmm1, hk, hO, hOl, hsl, T, M⟩
 refine wp_seq ?_
 refine wp_region_lit ?_
 refine lq T (rn_lss rfl (T.ev 5 rfl) (T.ev 4 rfl)) ?_; clear T ac; intro ac T
 refine wpList_nil ?_
 refine nm_then ?_
 refine wp_seq ?_
 refine wp_if (T.ev 0 rfl) ?_ ?_
 ·intro h1
  obtain ⟨r, hkr, -⟩ := ic_next (l := g) (k := k) (by omega)
  have hrb := hg r (List.mem_of_getElem? hkr)
  obtain ⟨rk, hrk⟩ : ∃ q : Nat, r = (q : Int) := ⟨r.toNat, by omega⟩
  obtain ⟨⟨x1, B1, d1⟩, hk1⟩ : ∃ x, LL[rk]? = some x := ⟨_, List.getElem?_eq_getElem (by omega)⟩
  obtain ⟨bs1, os1, Ss1⟩ := Sp.old (hE _ (List.mem_of_getElem? hk1))
  dsimp only at Ss1
  have nx1 := nE _ (List.mem_of_getElem? hk1)
  dsimp only at nx1
  have hnt := hn _ (List.mem_of_getElem? hk1)
  dsimp only at hnt
  obtain ⟨y, hky, -⟩ := sc_next (l := x1) (k := nt) hnt
  have hvp := voiceP_at hk1 hrk hky
  refine wp_skip ?_
  refine nm_then ?_
  refine wp_seq ?_
  refine wp_block ?_
  refine wp_seq ?_
  refine wp_region_lit ?_
  refine lq T (rn_indexAddr (size := 1) k rfl (T.ev 4 rfl) (T.ev 6 rfl) ⟨_, Try.underlying22, by kernel_rfl⟩ rfl (by omega) (SG.at0 (by omega))) ?_; clear T ac; intro ac T
  refine lq T (rn_cell (Sp.ic0 SG M (List.nil_sublist _) hkr) rfl (T.ev 0 rfl)) ?_; clear T ac; intro ac T
  refine lq T (rn_assign rfl (T.ev 0 rfl)) ?_; clear T ac; intro ac T
  refine wpList_nil ?_
  replace T := T.pick [0, 4, 5, 6, 7, 8, 9] rfl
  refine nm_then ?_
  refine wp_region_lit ?_
  refine lq T (rn_move rfl (T.ev 3 rfl)) ?_; clear T ac; intro ac T
  refine lq (v := (.pointer (some ⟨g1, 0, none⟩))) T (rn_fieldAddr (off := 0) rfl (T.ev 3 rfl) (fun _ _ _ => by kernel_rfl)) ?_; clear T ac; intro ac T
  refine lq (v := (.pointer (some ⟨g1, 4, none⟩))) T (rn_fieldAddr (off := 4) rfl (T.ev 0 rfl) (fun _ _ _ => by kernel_rfl)) ?_; clear T ac; intro ac T
  refine lq T (rn_one (Mem.nth M 0 rfl) rfl (T.ev 0 rfl) rfl) ?_; clear T ac; intro ac T
  refine lq T (rn_move rfl (T.ev 4 rfl)) ?_; clear T ac; intro ac T
  refine lq T (rn_indexAddr (size := 1) rk rfl (T.ev 1 rfl) (T.ev 0 rfl) ⟨_, Try.underlying27, by kernel_rfl⟩ hrk (by omega) (SA.at0 (by omega))) ?_; clear T ac; intro ac T
  refine lq (v := (.slice B1 x1.length d1)) T (rn_cell (Sp.ls0 SA M (List.nil_sublist _) hk1) rfl (T.ev 0 rfl)) ?_; clear T ac; intro ac T
  refine lq T (rn_move rfl (T.ev 8 rfl)) ?_; clear T ac; intro ac T
  refine lq T (rn_indexAddr (size := 4) nt rfl (T.ev 1 rfl) (T.ev 0 rfl) ⟨_, Try.underlying38, by kernel_rfl⟩ rfl (by omega) (Ss1.at0 (by omega))) ?_; clear T ac; intro ac T
  refine lq (v := (.agg #[.int .i64 y.t0, .int .i64 y.t1, .int .i64 y.s0, .int .i64 y.s1])) T (rn_rowat (Sp.scR4 Ss1 M (List.nil_sublist _) hky) rfl (T.ev 0 rfl) rfl) ?_; clear T ac; intro ac T
  refine l_w rfl ?_; intro K hK
  refine ow_bs (e := 48) [.int .i64 y.t0, .int .i64 y.t1, .int .i64 y.s0, .int .i64 y.s1] M T rfl rfl rfl rfl (.cons (T.ev 0 rfl) .nil) (fun _ => by kernel_rfl) ?_; clear M T; intro g2 wc ac M T
  refine sh_out hK _ _ ?_; clear hK K
  refine l_w rfl ?_; intro K hK
  refine ow_app ([(g2, .cells [.int .i64 y.t0, .int .i64 y.t1, .int .i64 y.s0, .int .i64 y.s1]), (g1, .cells [.int .i64 l.first, .int .i64 l.step, .int .i64 l.span, .int .i64 l.press, .slice A LL.length c, .slice G g.length d])]) Try.info48 hsl M (by first | rfl | simp) T rfl rfl rfl rfl Try.underlying38 rfl rfl rfl (by omega) (T.ev 10 rfl) (T.ev 0 rfl) (nthE_mem (i := 0) rfl) rfl rfl ?_; clear M T; intro ga1 cga1 wc ac M T
  refine sh_out hK _ _ ?_; clear hK K
  refine l_q (v := (.slice (some ⟨ga1, 0, none⟩) (OL.length + 1) cga1)) (T.pick [0, 1, 2, 3, 4, 5, 6, 7, 8, 9, 10, 11, 12, 13, 14, 16, 17, 18] rfl) rfl rfl rfl rfl (rn_assign rfl (T.ev 0 rfl)) ?_; clear T ac; intro ac T
  refine wpList_nil ?_
  replace T := T.pick [0, 14, 15, 16, 17, 18] rfl
  replace M := M.mask [true, false, true] rfl
  refine nm_blk ?_
  refine nm_then ?_
  refine wp_region_lit ?_
  refine lq T (rn_add rfl (T.ev 5 rfl) evc (by omega)) ?_; clear T ac; intro ac T
  refine l_q (v := (.int .i64 ((k : Int) + 1))) (T.pick [0, 1, 2, 3, 4, 5] rfl) rfl rfl rfl rfl (rn_move rfl (T.ev 0 rfl)) ?_; clear T ac; intro ac T
  refine wpList_nil ?_
  replace T := T.pick [0, 2, 3, 4, 5, 6] rfl
  refine nm_then ?_
  have e9 : OL.length + 1 = (OL ++ [y]).length := by simp
  have e8 : ((sc OL) ++ [.int .i64 y.t0, .int .i64 y.t1, .int .i64 y.s0, .int .i64 y.s1]) = sc (OL ++ [y]) := by rw [← sc_snoc]
  rw [e9, e8] at M
  rw [e9] at T
  clear e9 e8
  exact ⟨_, by omega, k + 1, (OL ++ [y]), _, _, [(ga1, .row 48 4 (OL ++ [y]).length (sc (OL ++ [y])) cga1)], rfl, (by omega), (by rw [voicesP_take hkr, ← hO, hvp]), (by simp [hOl]), (Sl.row _ _ _ _ _ _), T.pick [2, 3, 1, 4, 5, 0] rfl, ((M.permT [1, 0] 2 rfl rfl rfl rfl).sub (List.sublist_append_left ([(g1, .cells [.int .i64 l.first, .int .i64 l.step, .int .i64 l.span, .int .i64 l.press, .slice A LL.length c, .slice G g.length d]), (ga1, .row 48 4 (OL ++ [y]).length (sc (OL ++ [y])) cga1)] : List (Nat × BA)) _))⟩
 intro h1
 rw [List.take_of_length_le (by omega)] at hO
 refine wp_exit ?_
 refine ex_then ?_
 refine ex_then ?_
 refine ex_hit ?_
 refine nm_then ?_
 refine wp_seq ?_
 refine wp_region_lit ?_
 refine lq T (rn_move rfl (T.ev 3 rfl)) ?_; clear T ac; intro ac T
 refine lq T (rn_assign rfl (T.ev 0 rfl)) ?_; clear T ac; intro ac T
 refine wpList_nil ?_
 replace T := T.pick [0] rfl
 replace M := M.mask [false] rfl
 refine nm_then ?_
 refine wp_ret ?_
 refine rt_1 T rfl (T.ev 0 rfl) ?_
 obtain ⟨b9, o9, h9⟩ := hsl.spV (sc_length _)
 rw [← hO]
 exact ⟨A3, c3, Io, rfl, ⟨b9, o9, h9⟩, M.mask [] rfl⟩
theorem Tremolo_any (l : Lw) (A : Option Addr) (c : Nat) (LL : List LS) (G : Option Addr) (d : Nat) (g : List Int)  (w : World) (hA : Rd w w.heap.size 1 A LL.length (lsC LL)) (hE : ElsS w LL) (nL : LL.length ≤ 1000000) (nE : ∀ x ∈ LL, x.1.length ≤ 1000000) (hG : Rd w w.heap.size 1 G g.length (ic g)) (nG : g.length ≤ 1000000)  :
   Calls Try.prog 15 #[.agg #[.int .i64 l.first, .int .i64 l.step, .int .i64 l.span, .int .i64 l.press, .slice A LL.length c], .slice G g.length d] w (LEPost (tremE l (rowsOf LL) g).1 (tremE l (rowsOf LL) g).2 w) := by
 obtain ⟨bA, oA, SA⟩ := Sp.old hA
 obtain ⟨bG, oG, SG⟩ := Sp.old hG
 refine px_enter noEx Try.func15 rfl 39 rfl [.agg #[.int .i64 l.first, .int .i64 l.step, .int .i64 l.span, .int .i64 l.press, .slice A LL.length c], .slice G g.length d] rfl rfl (Mem.init w _) ?_
 intro ac wc T M
 refine wp_seq ?_
 refine wp_region_lit ?_
 refine l_w rfl ?_; intro K hK
 refine ow_bx M T rfl rfl rfl rfl (T.ev 0 rfl) rfl ?_; clear M T; intro g1 wc ac M T
 refine sh_out hK _ _ ?_; clear hK K
 refine lq T (rn_assign rfl evc) ?_; clear T ac; intro ac T
 refine lq T (rn_assign rfl evc) ?_; clear T ac; intro ac T
 refine wpList_nil ?_
 replace T := T.pick [2, 4] rfl
 refine nm_then ?_
 refine wp_seq ?_
 refine wp_seq ?_
 refine wp_region_lit ?_
 refine lq T (rn_rowO (Mem.nth M 0 rfl) rfl (T.ev 0 rfl) rfl) ?_; clear T ac; intro ac T
 refine lq T (rn_move rfl (T.ev 2 rfl)) ?_; clear T ac; intro ac T
 refine l_w rfl ?_; intro K hK
 refine ow_call (first := []) (cap := []) T rfl rfl rfl rfl evf (.cons (T.ev 1 rfl) (.cons (T.ev 0 rfl) .nil)) Try.func53 rfl rfl ?_
 refine Calls.mono (checkRegister_any l A c LL G d g _ (SA.rd M (List.nil_sublist _)) (fun x hx => M.rd (hE x hx) (Nat.le_refl _)) (by omega) nE (SG.rd M (List.nil_sublist _)) (by omega)) ?_
 clear T
 rintro e wc ⟨rfl, hb⟩
 intro ac T
 replace M := M.call hb; clear hb
 refine sh_out hK _ _ ?_; clear hK K
 refine lq T (rn_assign rfl (T.ev 0 rfl)) ?_; clear T ac; intro ac T
 refine wpList_nil ?_
 replace T := T.pick [0, 4, 5] rfl
 refine nm_then ?_
 refine wp_seq ?_
 refine wp_region_lit ?_
 refine lq T (rn_move rfl (T.ev 0 rfl)) ?_; clear T ac; intro ac T
 refine lq T (rn_neq rfl (T.ev 0 rfl) evc) ?_; clear T ac; intro ac T
 refine wpList_nil ?_
 replace T := T.pick [0, 2, 3, 4] rfl
 refine nm_then ?_
 refine wp_ifn (T.ev 0 rfl) ?_ ?_
 ·intro h1
  refine wp_seq ?_
  refine wp_region_lit ?_
  refine lq T (rn_move rfl (T.ev 1 rfl)) ?_; clear T ac; intro ac T
  refine lq T (rn_assign rfl evc) ?_; clear T ac; intro ac T
  refine lq T (rn_assign rfl (T.ev 1 rfl)) ?_; clear T ac; intro ac T
  refine wpList_nil ?_
  replace T := T.pick [0, 1] rfl
  replace M := M.mask [false] rfl
  refine nm_then ?_
  refine wp_ret ?_
  refine rt_then ?_
  refine rt_2 T rfl (T.ev 1 rfl) (T.ev 0 rfl) ?_
  have e9 : tremE l (rowsOf LL) g = ([], checkR l (rowsOf LL) g) := by unfold tremE; rw [if_neg (by simpa using h1)]
  rw [e9]
  exact LEPost.nil rfl M
 intro h1
 obtain ⟨gS, gR⟩ := checkR_good (l := l) (R := rowsOf LL) (g := g) (by simpa using h1)
 have hgL : ∀ r ∈ g, 0 ≤ r ∧ r < LL.length := fun r hr => by have := gR r hr; rw [show (rowsOf LL).length = LL.length by simp] at this; exact this
 have hNL : ∀ x ∈ LL, x.1.length = notesP (rowsOf LL) := fun x hx => (gS.rows x.1 (List.mem_map.2 ⟨x, hx, rfl⟩)).2.1
 have hN6 := gS.notes
 have ⟨gl1, gl2, gl3, gl4⟩ := gS.law
 refine wp_skip ?_
 refine nm_then ?_
 refine wp_seq ?_
 refine wp_region_lit ?_
 refine lq T (rn_rowO (Mem.nth M 0 rfl) rfl (T.ev 2 rfl) rfl) ?_; clear T ac; intro ac T
 refine lq T (rn_move rfl (T.ev 4 rfl)) ?_; clear T ac; intro ac T
 refine lq (v := (.agg #[.int .i64 l.first, .int .i64 l.step, .int .i64 l.span, .int .i64 l.press, .slice A LL.length c, .slice G g.length d])) T (rn_build rfl (.cons (T.ev 1 rfl) (.cons (T.ev 0 rfl) .nil)) (fun _ => by kernel_rfl)) ?_; clear T ac; intro ac T
 refine l_w rfl ?_; intro K hK
 refine ow_al M T rfl rfl rfl rfl ?_; clear M T; intro g2 wc ac M T
 refine sh_out hK _ _ ?_; clear hK K
 refine l_w rfl ?_; intro K hK
 refine ow_stO M T rfl rfl (T.ev 0 rfl) (T.ev 1 rfl) rfl .head rfl (by simp) rfl (by kernel_rfl) ?_; clear M T; intro wc ac M T
 refine sh_out hK _ _ ?_; clear hK K
 refine wpList_nil ?_
 replace T := T.pick [0, 6] rfl
 refine nm_then ?_
 refine wp_seq ?_
 refine wp_region_lit ?_
 refine lq T (rn_assign rfl evc) ?_; clear T ac; intro ac T
 refine wpList_nil ?_
 refine nm_then ?_
 refine wp_seq ?_
 refine wp_seq ?_
 refine wp_region_lit ?_
 refine lq T (rn_rowO (Mem.nth M 1 rfl) rfl (T.ev 2 rfl) rfl) ?_; clear T ac; intro ac T
 refine l_w rfl ?_; intro K hK
 refine ow_call (first := []) (cap := []) T rfl rfl rfl rfl evf (.cons (T.ev 0 rfl) .nil) Try.func54 rfl rfl ?_
 refine Calls.mono (notes_any l A c LL _ (SA.rd M (List.nil_sublist _)) (fun x hx => M.rd (hE x hx) (Nat.le_refl _)) (by omega) nE) ?_
 clear T
 rintro e wc ⟨rfl, hb⟩
 intro ac T
 replace M := M.call hb; clear hb
 refine sh_out hK _ _ ?_; clear hK K
 refine lq T (rn_move rfl evc) ?_; clear T ac; intro ac T
 refine wpList_nil ?_
 replace T := T.pick [0, 1, 3, 4, 5] rfl
 refine nm_then ?_
 refine wp_block ?_
 refine wp_loop_n (fun mz ac wc => ∃ (k : Nat) (OL : List Int) (A3 : Option Addr) (c3 : Nat) (Io : List (Nat × BA)), mz = notesP (rowsOf LL) - k ∧ (k ≤ notesP (rowsOf LL)) ∧ (OL = (tremP l (rowsOf LL) g).take k) ∧ (OL.length = k) ∧ (Sl 3 1 (.slice A3 OL.length c3) OL.length (ic OL) Io) ∧ Tm ac 39 [(2, .pointer (some ⟨g1, 0, none⟩)), (7, .pointer (some ⟨g2, 0, none⟩)), (8, .slice A3 OL.length c3), (20, .int .i64 ((notesP (rowsOf LL) : Nat) : Int)), (21, .int .i64 (k : Int))] ∧ Mem w noEx wc ((g2, .cells [.int .i64 l.first, .int .i64 l.step, .int .i64 l.span, .int .i64 l.press, .slice A LL.length c, .slice G g.length d]) :: (g1, .cells [.int .i64 l.first, .int .i64 l.step, .int .i64 l.span, .int .i64 l.press, .slice A LL.length c]) :: Io)) ?_ ?_
 ·exact ⟨_, 0, [], none, 0, [], rfl, (Nat.zero_le _), rfl, rfl, (Sl.nil _ _), T.pick [4, 3, 2, 1, 0] rfl, M.mask [true, true] rfl⟩
 clear T M
 rintro mz ac wc ⟨k, OL, A3, c3, Io, hmm1, hk, hO, hOl, hsl, T, M⟩
 refine wp_seq ?_
 refine wp_region_lit ?_
 refine lq T (rn_lss rfl (T.ev 4 rfl) (T.ev 3 rfl)) ?_; clear T ac; intro ac T
 refine wpList_nil ?_
 refine nm_then ?_
 refine wp_seq ?_
 refine wp_if (T.ev 0 rfl) ?_ ?_
 ·intro h2
  have gd := gS.dues k (by omega)
  simp only [dueO, decide_eq_true_eq] at gd
  refine wp_skip ?_
  refine nm_then ?_
  refine wp_seq ?_
  refine wp_block ?_
  refine wp_seq ?_
  refine wp_region_lit ?_
  refine lq T (rn_move rfl (T.ev 5 rfl)) ?_; clear T ac; intro ac T
  refine lq T (rn_assign rfl (T.ev 0 rfl)) ?_; clear T ac; intro ac T
  refine wpList_nil ?_
  replace T := T.pick [0, 3, 4, 5, 6, 7] rfl
  refine nm_then ?_
  refine g_start2 M (M.perm [0, 1] rfl rfl) 14 (by kernel_rfl) rfl (by kernel_rfl) ?_
  clear M; intro wc M
  refine gq T 0 1 rfl (fun _ _ _ _ _ => (rn_move rfl (T.ev 3 rfl))) ?_; clear T ac; intro ac T
  refine gq (v := (.pointer (some ⟨g1, 0, none⟩))) T 1 3 rfl (fun _ _ _ _ _ => (rn_fieldAddr (off := 0) rfl (T.ev 2 rfl) (fun _ _ _ => by kernel_rfl))) ?_; clear T ac; intro ac T
  refine gq T 2 7 rfl (fun B w' hD hl hS => (rn_rowO (Mem.nth (show Mem w noEx w' _ from hS) 1 rfl) rfl (T.ev 0 rfl) rfl)) ?_; clear T ac; intro ac T
  refine gq (v := (.pointer (some ⟨g1, 0, none⟩))) T 3 15 rfl (fun _ _ _ _ _ => (rn_fieldAddr (off := 0) rfl (T.ev 4 rfl) (fun _ _ _ => by kernel_rfl))) ?_; clear T ac; intro ac T
  refine gq T 4 31 rfl (fun B w' hD hl hS => (rn_rowO (Mem.nth (show Mem w noEx w' _ from hS) 1 rfl) rfl (T.ev 0 rfl) rfl)) ?_; clear T ac; intro ac T
  refine gq T 5 63 rfl (fun _ _ _ _ _ => (rn_move rfl (T.ev 5 rfl))) ?_; clear T ac; intro ac T
  refine gq T 7 191 rfl (fun B w' hD hl hS => (rn_rowO (Mem.nth (show Mem w noEx w' _ from hS) 0 rfl) rfl (T.ev 8 rfl) rfl)) ?_; clear T ac; intro ac T
  refine gq T 8 447 rfl (fun _ _ _ _ _ => (rn_move rfl (T.ev 7 rfl))) ?_; clear T ac; intro ac T
  refine gw 6 511 ?_; intro K hK
  refine ow_call (first := []) (cap := []) T rfl rfl rfl rfl evf (.cons (T.ev 3 rfl) (.cons (T.ev 2 rfl) .nil)) Try.func56 rfl rfl ?_
  refine Calls.mono (vdue_any l (k : Int) _ (by (try dsimp only); omega) (by (try dsimp only); omega) (by (try dsimp only); omega)) ?_
  clear T
  rintro e wc ⟨rfl, hb⟩
  intro ac T
  replace M := M.call hb; clear hb
  refine sh_out hK _ _ (M.perm [0, 1] rfl rfl) ?_; clear hK K
  refine gw 9 1023 ?_; intro K hK
  refine ow_call (first := []) (cap := []) T rfl rfl rfl rfl evf (.cons (T.ev 2 rfl) (.cons (T.ev 1 rfl) .nil)) Try.func57 rfl rfl ?_
  refine Calls.mono (voices_any l A c LL G d g k _ (SA.rd M (List.nil_sublist _)) (fun x hx => M.rd (hE x hx) (Nat.le_refl _)) (by omega) nE (SG.rd M (List.nil_sublist _)) (by omega) hgL (by intro x hx; rw [hNL x hx]; omega)) ?_
  clear T
  rintro e wc ⟨Au4, cu4, Iu4, rfl, SVu4, N⟩
  intro ac T
  obtain ⟨bu4, ou4, SVu4⟩ := SVu4
  obtain ⟨lvu4, hlvu4⟩ : ∃ q, q = voicesP (rowsOf LL) g k := ⟨_, rfl⟩
  rw [← hlvu4] at SVu4
  have Su4 := SVu4 w noEx
  have nvu4 : lvu4.length = g.length := by rw [hlvu4]; simp [voicesP]
  have gvu4 : ∀ z ∈ lvu4, z.good := by rw [hlvu4]; exact voicesP_good gS gR (by omega)
  replace M := (M.join N).swapI
  clear N
  replace M : Mem w noEx wc ((g2, .cells [.int .i64 l.first, .int .i64 l.step, .int .i64 l.span, .int .i64 l.press, .slice A LL.length c, .slice G g.length d]) :: (g1, .cells [.int .i64 l.first, .int .i64 l.step, .int .i64 l.span, .int .i64 l.press, .slice A LL.length c]) :: (Iu4 ++ Io)) := Mem.spin [(g2, .cells [.int .i64 l.first, .int .i64 l.step, .int .i64 l.span, .int .i64 l.press, .slice A LL.length c, .slice G g.length d]), (g1, .cells [.int .i64 l.first, .int .i64 l.step, .int .i64 l.span, .int .i64 l.press, .slice A LL.length c])] Io Iu4 M
  rw [← hlvu4] at T
  refine sh_out hK _ _ (M.perm [0, 1] rfl rfl) ?_; clear hK K
  refine gw 10 2047 ?_; intro K hK
  refine ow_call (first := []) (cap := []) T rfl rfl rfl rfl evf (.cons (T.ev 7 rfl) (.cons (T.ev 1 rfl) (.cons (T.ev 0 rfl) .nil))) Try.func55 rfl rfl ?_
  refine Calls.mono (keeps_any l (l.first + l.step * (k : Int)) _ _ _ lvu4 _ (by (try dsimp only); omega) (by (try dsimp only); omega) (by (try dsimp only); omega) gvu4 (Su4.rd M (.cons _ (.cons _ (subL (List.Sublist.refl _))))) (by first | omega | (simp only [List.length_cons, List.length_nil]; omega))) ?_
  clear T
  rintro e wc ⟨rfl, hb⟩
  intro ac T
  replace M := M.call hb; clear hb
  refine sh_out hK _ _ (M.perm [0, 1] rfl rfl) ?_; clear hK K
  refine gw 11 4095 ?_; intro K hK
  refine ow_bs (e := 3) [.int .i64 (keepsP l (l.first + l.step * (k : Int)) lvu4)] M T rfl rfl rfl rfl (.cons (T.ev 0 rfl) .nil) (fun _ => by kernel_rfl) ?_; clear M T; intro g3 wc ac M T
  refine sh_out hK _ _ (M.perm [1, 2] rfl rfl) ?_; clear hK K
  refine gw 12 8191 ?_; intro K hK
  refine ow_app (((g3, .cells [.int .i64 (keepsP l (l.first + l.step * (k : Int)) lvu4)]) :: (g2, .cells [.int .i64 l.first, .int .i64 l.step, .int .i64 l.span, .int .i64 l.press, .slice A LL.length c, .slice G g.length d]) :: (g1, .cells [.int .i64 l.first, .int .i64 l.step, .int .i64 l.span, .int .i64 l.press, .slice A LL.length c]) :: Iu4)) Try.info3 hsl M (by first | rfl | simp) T rfl rfl rfl rfl Try.underlying22 rfl rfl rfl (by omega) (T.ev 11 rfl) (T.ev 0 rfl) (nthE_mem (i := 0) rfl) rfl rfl ?_; clear M T; intro ga1 cga1 wc ac M T
  refine sh_out hK _ _ (M.perm [2, 3] rfl rfl) ?_; clear hK K
  refine g_q (v := (.slice (some ⟨ga1, 0, none⟩) (OL.length + 1) cga1)) (T := T.pick [0, 1, 2, 3, 4, 5, 6, 7, 8, 9, 10, 11, 12, 13, 14, 15, 17, 18] rfl) (i := 13) rfl (by kernel_rfl) (by kernel_rfl : (pbits 14 8191).setIfInBounds 13 true = pbits 14 16383) si_U (fun _ _ _ h => h) rfl rfl rfl rfl (fun _ _ _ _ _ => (rn_assign rfl (T.ev 0 rfl))) ?_; clear T ac; intro ac T
  refine g_done (by kernel_rfl) ?_
  replace T := T.pick [0, 15, 16, 17, 18] rfl
  replace M := M.mask [true, false, true, true] rfl
  refine nm_blk ?_
  refine nm_then ?_
  refine wp_region_lit ?_
  refine lq T (rn_add rfl (T.ev 4 rfl) evc (by omega)) ?_; clear T ac; intro ac T
  refine l_q (v := (.int .i64 ((k : Int) + 1))) (T.pick [0, 1, 2, 3, 4] rfl) rfl rfl rfl rfl (rn_move rfl (T.ev 0 rfl)) ?_; clear T ac; intro ac T
  refine wpList_nil ?_
  replace T := T.pick [0, 2, 3, 4, 5] rfl
  refine nm_then ?_
  have e9 : OL.length + 1 = (OL ++ [(keepsP l (l.first + l.step * (k : Int)) lvu4)]).length := by simp
  have e8 : ((ic OL) ++ [.int .i64 (keepsP l (l.first + l.step * (k : Int)) lvu4)]) = ic (OL ++ [(keepsP l (l.first + l.step * (k : Int)) lvu4)]) := by rw [← ic_snoc]
  rw [e9, e8] at M
  rw [e9] at T
  clear e9 e8
  exact ⟨_, by omega, k + 1, (OL ++ [(keepsP l (l.first + l.step * (k : Int)) lvu4)]), _, _, [(ga1, .row 3 1 (OL ++ [(keepsP l (l.first + l.step * (k : Int)) lvu4)]).length (ic (OL ++ [(keepsP l (l.first + l.step * (k : Int)) lvu4)])) cga1)], rfl, (by omega), (by rw [tremP_take (by omega), ← hO, hlvu4]), (by simp [hOl]), (Sl.row _ _ _ _ _ _), T.pick [2, 3, 1, 4, 0] rfl, ((M.permT [1, 2, 0] 3 rfl rfl rfl rfl).sub (List.sublist_append_left ([(g2, .cells [.int .i64 l.first, .int .i64 l.step, .int .i64 l.span, .int .i64 l.press, .slice A LL.length c, .slice G g.length d]), (g1, .cells [.int .i64 l.first, .int .i64 l.step, .int .i64 l.span, .int .i64 l.press, .slice A LL.length c]), (ga1, .row 3 1 (OL ++ [(keepsP l (l.first + l.step * (k : Int)) lvu4)]).length (ic (OL ++ [(keepsP l (l.first + l.step * (k : Int)) lvu4)])) cga1)] : List (Nat × BA)) _))⟩
 intro h2
 rw [List.take_of_length_le (by rw [tremP_length]; omega)] at hO
 refine wp_exit ?_
 refine ex_then ?_
 refine ex_then ?_
 refine ex_hit ?_
 refine nm_then ?_
 refine wp_seq ?_
 refine wp_region_lit ?_
 refine lq T (rn_move rfl (T.ev 3 rfl)) ?_; clear T ac; intro ac T
 refine lq T (rn_assign rfl (T.ev 0 rfl)) ?_; clear T ac; intro ac T
 refine lq T (rn_assign rfl evc) ?_; clear T ac; intro ac T
 refine wpList_nil ?_
 replace T := T.pick [0, 1] rfl
 replace M := M.mask [false, false] rfl
 refine nm_then ?_
 refine wp_ret ?_
 refine rt_2 T rfl (T.ev 1 rfl) (T.ev 0 rfl) ?_
 have e9 : tremE l (rowsOf LL) g = (OL, 0) := by unfold tremE; rw [if_pos (by simpa using h1), hO]
 rw [e9]
 obtain ⟨b9, o9, h9⟩ := hsl.spV (by rw [ic_length]; omega)
 exact ⟨A3, c3, Io, rfl, by show OL.length ≤ 6; omega, ⟨b9, o9, h9⟩, M.mask [] rfl⟩
end Go.Proofs.Ytlahdenlmmlplaa
end

section
/-
 Plain law: verdicts on parts of a register.
-/
namespace Go.Proofs.Ytlahdenlmmlplaa
set_option linter.unusedSimpArgs false
set_option linter.unusedVariables false
open Go.RowKit
theorem surelyL_cons (l : Lw) (due : Int) (a b : Snd) (r : List Snd) : surelyL l due (a :: b :: r) = (decide (offP l due a b ≤ l.span) && surelyL l due (b :: r)) := rfl
theorem surelyL_iff {l : Lw} {due : Int} : ∀ {ts : List Snd}, surelyL l due ts = true ↔ ∀ (i : Nat) (a b : Snd), ts[i]? = some a → ts[i + 1]? = some b → offP l due a b ≤ l.span
 | [] => by simp [surelyL]
 | [x] => by simp [surelyL]
 | x :: y :: r => by
   rw [surelyL_cons, Bool.and_eq_true, decide_eq_true_eq, surelyL_iff (ts := y :: r)]
   constructor
   · rintro ⟨h1, h2⟩ i a b ha hb
     cases i with
     | zero =>
       simp at ha hb
       subst ha hb
       exact h1
     | succ i => exact h2 i a b (by simpa using ha) (by simpa using hb)
   · intro h
     exact ⟨h 0 x y rfl rfl, fun i a b ha hb => h (i + 1) a b (by simpa using ha) (by simpa using hb)⟩
theorem keepsP_one {l : Lw} {due : Int} {ts : List Snd} : keepsP l due ts = 1 ↔ surelyL l due ts = true := by
 unfold keepsP
 constructor
 · intro h
   split at h
   · assumption
   · split at h <;> omega
 · intro h
   rw [if_pos h]
theorem keepsP_two {l : Lw} {due : Int} {ts : List Snd} : keepsP l due ts = 2 ↔ surelyL l due ts = false ∧ nowL l due ts = [] := by
 unfold keepsP
 constructor
 · intro h
   split at h
   · omega
   · split at h
     · rename_i h1 h2
       exact ⟨by simpa using h1, by simpa using h2⟩
     · omega
 · rintro ⟨h1, h2⟩
   rw [if_neg (by simp [h1]), if_pos (by simp [h2])]
theorem tremP_at {l : Lw} {R : List (List Snd)} {g : List Int} {n : Nat} {v : Int} (h : (tremP l R g)[n]? = some v) : v = keepsP l (l.first + l.step * (n : Int)) (voicesP R g n) := by
 have hn := (List.getElem?_eq_some_iff.1 h).1
 rw [tremP_length] at hn
 unfold tremP at h
 rw [List.getElem?_map, List.getElem?_range hn] at h
 simpa using h.symm
end Go.Proofs.Ytlahdenlmmlplaa
end

section
/-
 Plain law: the least span, and the first note that does not always keep the law.
-/
namespace Go.Proofs.Ytlahdenlmmlplaa
set_option linter.unusedSimpArgs false
set_option linter.unusedVariables false
open Go.RowKit
structure Two where
 nt : Int
 row : Int
 lo : Snd
 hi : Snd
def twoAt (R : List (List Snd)) (g : List Int) (n i : Nat) : Two := ⟨n, g.getD i 0, voiceP R n (g.getD i 0), voiceP R n (g.getD (i + 1) 0)⟩
def prsN (R : List (List Snd)) (g : List Int) (n : Nat) : List Two := (List.range (g.length - 1)).map (twoAt R g n)
def prsL (R : List (List Snd)) (g : List Int) : List Two := (List.range (notesP R)).flatMap (prsN R g)
def prsQ (R : List (List Snd)) (g : List Int) (k m : Nat) : List Two := (List.range k).flatMap (prsN R g) ++ (prsN R g k).take m
def awayP (l : Lw) (x : Two) : Int := offP l (l.first + l.step * x.nt) x.lo x.hi
def spanL (l : Lw) (P : List Two) : Int := P.foldl (fun n x => max n (awayP l x)) 0
def badL (l : Lw) (P : List Two) : Option Two := P.find? fun x => decide (l.span < awayP l x)
theorem prsN_length (R : List (List Snd)) (g : List Int) (n : Nat) : (prsN R g n).length = g.length - 1 := by simp [prsN]
theorem prsQ_step {R : List (List Snd)} {g : List Int} {k m : Nat} (h : m + 1 < g.length) : prsQ R g k (m + 1) = prsQ R g k m ++ [twoAt R g k m] := by
 unfold prsQ
 rw [List.take_add_one, List.append_assoc]
 congr 2
 unfold prsN
 rw [List.getElem?_map, List.getElem?_range (by omega)]
 rfl
theorem prsQ_row {R : List (List Snd)} {g : List Int} {k m : Nat} (h : ¬ m + 1 < g.length) : prsQ R g k m = prsQ R g (k + 1) 0 := by
 unfold prsQ
 rw [List.take_of_length_le (by rw [prsN_length]; omega), List.range_succ]
 simp
theorem prsQ_end {R : List (List Snd)} {g : List Int} {k : Nat} (h : k = notesP R) : prsQ R g k 0 = prsL R g := by
 subst h
 simp [prsQ, prsL]
theorem prsQ_pre {R : List (List Snd)} {g : List Int} {k m : Nat} (hk : k < notesP R) : prsQ R g k m <+: prsL R g := by
 have h1 : prsQ R g k m <+: prsQ R g (k + 1) 0 := by
   unfold prsQ
   rw [List.range_succ]
   simp only [List.flatMap_append, List.flatMap_cons, List.flatMap_nil, List.append_nil, List.take_zero]
   exact (List.prefix_append_right_inj _).2 (List.take_prefix _ _)
 refine h1.trans ?_
 unfold prsQ prsL
 rw [List.take_zero, List.append_nil]
 obtain ⟨d, hd⟩ : ∃ d, notesP R = k + 1 + d := ⟨notesP R - (k + 1), by omega⟩
 rw [hd, show List.range (k + 1 + d) = _ from List.range_add (n := k + 1) (m := d), List.flatMap_append]
 exact List.prefix_append _ _
theorem mem_prsL {R : List (List Snd)} {g : List Int} {x : Two} : x ∈ prsL R g ↔ ∃ n i : Nat, n < notesP R ∧ i + 1 < g.length ∧ x = twoAt R g n i := by
 unfold prsL prsN
 simp only [List.mem_flatMap, List.mem_map, List.mem_range]
 constructor
 · rintro ⟨n, hn, i, hi, rfl⟩
   exact ⟨n, i, hn, by omega, rfl⟩
 · rintro ⟨n, i, hn, hi, rfl⟩
   exact ⟨n, hn, i, by omega, rfl⟩
theorem spanL_snoc (l : Lw) (P : List Two) (x : Two) : spanL l (P ++ [x]) = max (spanL l P) (awayP l x) := by simp [spanL]
theorem spanL_nonneg (l : Lw) (P : List Two) : 0 ≤ spanL l P ∧ (∀ x ∈ P, awayP l x ≤ spanL l P) ∧ (0 < spanL l P → ∃ x ∈ P, awayP l x = spanL l P) := by
 have key : ∀ (r : List Two), r.reverse.reverse = r := List.reverse_reverse
 suffices H : ∀ r : List Two, 0 ≤ spanL l r.reverse ∧ (∀ x ∈ r.reverse, awayP l x ≤ spanL l r.reverse) ∧ (0 < spanL l r.reverse → ∃ x ∈ r.reverse, awayP l x = spanL l r.reverse) by
   have := H P.reverse
   rwa [key] at this
 intro r
 induction r with
 | nil => exact ⟨Int.le_refl _, fun x hx => by simp at hx, fun h => by simp [spanL] at h⟩
 | cons a r ih =>
   obtain ⟨h1, h2, h3⟩ := ih
   rw [List.reverse_cons, spanL_snoc]
   refine ⟨by omega, fun x hx => ?_, fun h => ?_⟩
   · rcases List.mem_append.1 hx with hx | hx
     · have := h2 x hx
       omega
     · simp only [List.mem_cons, List.not_mem_nil, or_false] at hx
       subst hx
       omega
   · by_cases ha : spanL l r.reverse < awayP l a
     · exact ⟨a, by simp, by omega⟩
     · obtain ⟨x, hx, e⟩ := h3 (by omega)
       exact ⟨x, List.mem_append_left _ hx, by omega⟩
theorem voices_at {R : List (List Snd)} {g : List Int} {n i : Nat} (h : i < g.length) : (voicesP R g n)[i]? = some (voiceP R n (g.getD i 0)) := by
 unfold voicesP
 rw [List.getElem?_map, List.getElem?_eq_getElem h, List.getD_eq_getElem?_getD, List.getElem?_eq_getElem h]
 rfl
theorem trem_one {l : Lw} {R : List (List Snd)} {g : List Int} {n : Nat} : keepsP l (l.first + l.step * (n : Int)) (voicesP R g n) = 1 ↔ ∀ i, i + 1 < g.length → awayP l (twoAt R g n i) ≤ l.span := by
 rw [keepsP_one, surelyL_iff]
 constructor
 · intro h i hi
   exact h i _ _ (voices_at (by omega)) (voices_at hi)
 · intro h i a b ha hb
   have hi := (List.getElem?_eq_some_iff.1 hb).1
   rw [show (voicesP R g n).length = g.length by simp [voicesP]] at hi
   rw [voices_at (by omega)] at ha
   rw [voices_at hi] at hb
   injection ha with ha
   injection hb with hb
   subst ha hb
   exact h i hi
theorem bad_none {l : Lw} {P : List Two} (h : ∀ x ∈ P, awayP l x ≤ l.span) : badL l P = none := by
 unfold badL
 rw [List.find?_eq_none]
 intro x hx
 have := h x hx
 simp only [decide_eq_true_eq]
 omega
theorem badL_snoc {l : Lw} {P : List Two} (x : Two) (h : badL l P = none) : badL l (P ++ [x]) = if l.span < awayP l x then some x else none := by
 unfold badL at *
 rw [List.find?_append, h]
 by_cases hx : l.span < awayP l x <;> simp [List.find?_cons, hx]
theorem badL_pre {l : Lw} {P Q : List Two} {x : Two} (h : badL l P = some x) (hp : P <+: Q) : badL l Q = some x := by
 obtain ⟨r, rfl⟩ := hp
 unfold badL at *
 rw [List.find?_append, h]
 rfl
theorem bad_some {l : Lw} {R : List (List Snd)} {g : List Int} {x : Two} (h : badL l (prsL R g) = some x) : ∃ k i : Nat, k < notesP R ∧ i + 1 < g.length ∧ x = twoAt R g k i ∧ l.span < awayP l x ∧
   (∀ n, n < k → ∀ j, j + 1 < g.length → awayP l (twoAt R g n j) ≤ l.span) ∧ ∀ j, j < i → awayP l (twoAt R g k j) ≤ l.span := by
 have key : ∀ (N : Nat) (k : Nat), (∀ n, n < k → ∀ j, j + 1 < g.length → awayP l (twoAt R g n j) ≤ l.span) → badL l (((List.range N).map (k + ·)).flatMap (prsN R g)) = some x → ∃ k' i : Nat, k' < k + N ∧ i + 1 < g.length ∧ x = twoAt R g k' i ∧ l.span < awayP l x ∧
     (∀ n, n < k' → ∀ j, j + 1 < g.length → awayP l (twoAt R g n j) ≤ l.span) ∧ ∀ j, j < i → awayP l (twoAt R g k' j) ≤ l.span := by
   intro N
   induction N with
   | zero => intro k _ h; simp [badL] at h
   | succ N ih =>
     intro k hk h
     rw [List.range_succ_eq_map, List.map_cons, List.flatMap_cons] at h
     by_cases hN : badL l (prsN R g k) = none
     · have h2 : badL l (((List.range N).map (k + 1 + ·)).flatMap (prsN R g)) = some x := by
         unfold badL at h hN ⊢
         rw [List.find?_append, Nat.add_zero, hN] at h
         rw [← h, List.map_map]
         simp only [Option.none_or]
         congr 2
         refine List.map_congr_left fun a _ => ?_
         simp only [Function.comp]
         omega
       obtain ⟨k', i, h3, h4⟩ := ih (k + 1) (fun n hn j hj => by
         by_cases e : n = k
         · subst e
           have h5 := (List.find?_eq_none.1 hN) (twoAt R g n j) (List.mem_map.2 ⟨j, List.mem_range.2 (by omega), rfl⟩)
           simp only [decide_eq_true_eq] at h5
           omega
         · exact hk n (by omega) j hj) h2
       exact ⟨k', i, by omega, h4⟩
     · obtain ⟨y, hy⟩ := Option.ne_none_iff_exists'.1 hN
       have hxy : y = x := by
         have := badL_pre hy (List.prefix_append _ (((List.range N).map Nat.succ).map (k + ·) |>.flatMap (prsN R g)))
         rw [Nat.add_zero] at h
         rw [this] at h
         injection h
       subst hxy
       unfold badL prsN at hy
       rw [List.find?_map] at hy
       cases hf : List.find? ((fun x => decide (l.span < awayP l x)) ∘ twoAt R g k) (List.range (g.length - 1)) with
       | none => rw [hf] at hy; cases hy
       | some i =>
         rw [hf] at hy
         injection hy with hy
         rw [List.find?_range_eq_some] at hf
         obtain ⟨h1, h2, h3⟩ := hf
         simp only [Function.comp, decide_eq_true_eq, List.mem_range] at h1 h2
         refine ⟨k, i, by omega, by omega, hy.symm, by rw [← hy]; exact h1, hk, fun j hj => ?_⟩
         have := h3 j hj
         simp only [Function.comp, Bool.not_eq_true', decide_eq_false_iff_not] at this
         omega
 have h' : badL l (((List.range (notesP R)).map (0 + ·)).flatMap (prsN R g)) = some x := by
   rw [← h]
   unfold prsL
   congr 2
   simp
 obtain ⟨k, i, h1, h2⟩ := key (notesP R) 0 (fun n hn => absurd hn (by omega)) h'
 exact ⟨k, i, by omega, h2⟩
theorem trem_span {l : Lw} {R : List (List Snd)} {g : List Int} (h : ∀ x ∈ prsL R g, awayP l x ≤ l.span) : ∀ u ∈ tremP l R g, u = 1 := fun u hu => by
 obtain ⟨n, hn⟩ := List.getElem?_of_mem hu
 have hl := (List.getElem?_eq_some_iff.1 hn).1
 rw [tremP_length] at hl
 rw [tremP_at hn]
 exact trem_one.2 fun i hi => h _ (mem_prsL.2 ⟨n, i, hl, hi, rfl⟩)
end Go.Proofs.Ytlahdenlmmlplaa
end

section
/-
 A region in which an iterator hands something out (calls its yield): at the wide fence, which is the plain word but for that call.
-/
namespace Go.Proofs.Ytlahdenlmmlplaa
set_option linter.unusedSimpArgs false
set_option linter.unusedVariables false
open Go.RowKit Go.Shelf
section
variable {P : Program} {ops : Array Oper} {Q : Exit → Act → World → Prop} {S : Array Bool → World → Prop} {nn : Nat}
theorem yieldsIf_in {S : World → Prop} {i : Nat} {o : Oper} {v : Value} {a : Act} (hi : ops[i]? = some o) (hy : YieldsIf P ops S o v a) {K : Act → World → Prop} {w : World} (hS : S w) (h : K (a.put o.dst v) w) : wpOpIn Fence.wide nn P ops Q i K a w := by
 unfold wpOpIn
 simp only [hi]
 rcases hy with ⟨hw, hv⟩ | ⟨hw, rfl⟩
 · simp only [hw, if_true]
   refine ⟨fun _ _ => trivial, ?_⟩
   rw [show Fence.wide.round = none from rfl, Oper.semAt_none, hv w hS]
   exact h
 · simp only [hw, Bool.false_eq_true, if_false]
   exact ⟨fun _ _ => trivial, h⟩
theorem wpOpIn_putIf {S : World → Prop} {j : Nat} {oi oj : Oper} {v : Value} (hj : ops[j]? = some oj) (hap : oi.apart ops oj = true)
   (hsi : ∀ cs b, oi.op ≠ .select cs b) (hsj : ∀ cs b, oj.op ≠ .select cs b)
   (hQ : ∀ c a w, Q (.panic c) (a.put oi.dst v) w → Q (.panic c) a w) {K : Act → World → Prop} {a : Act} {w : World}
   (hy : YieldsIf P ops S oi v a) (h : wpOpIn Fence.wide nn P ops Q j K (a.put oi.dst v) w) :
   wpOpIn Fence.wide nn P ops Q j (fun a' w' => YieldsIf P ops S oi v a' ∧ K (a'.put oi.dst v) w') a w := by
 obtain ⟨h1, h2, h3⟩ := Oper.apart_spec hap
 have keep : ∀ (a : Act), YieldsIf P ops S oi v a → ∀ u, YieldsIf P ops S oi v (a.put oj.dst u) := fun a hy u =>
   hy.of_same (execOp_put oi hsi a oj.dst u h3) (wanted_put oi a oj.dst u h3)
 have keepD : ∀ d, YieldsIf P ops S oi v { a with defers := d :: a.defers } := fun d => hy.of_same rfl rfl
 unfold wpOpIn at *
 simp only [hj] at *
 rw [wanted_put oj a oi.dst v h1] at h
 split
 · rename_i hw
   simp only [hw, if_true] at h
   unfold Oper.wpIn at *
   refine ⟨fun _ _ => trivial, ?_⟩
   have h := h.2
   rw [show Fence.wide.round = none from rfl, Oper.semAt_none, execOp_put oj hsj a oi.dst v h1] at h
   rw [show Fence.wide.round = none from rfl, Oper.semAt_none]
   generalize (execOp a.eval oj).run P w = r at *
   cases r with
   | ok x w' =>
     cases x <;> simp only [Oper.uponIn] at h ⊢
     case value u => exact ⟨keep a hy u, by rw [← Act.put_comm a v u h2]; exact h⟩
     case skip => exact ⟨keep a hy _, by rw [← Act.put_comm a v undef h2]; exact h⟩
     case defer d =>
       refine ⟨keep _ (keepD d) _, ?_⟩
       rw [← Act.put_comm _ v undef h2, ← Act.put_defers]
       exact h
     case enter f args =>
       refine ⟨h.1, CallsIn.mono h.2 fun e w'' he => ?_⟩
       cases e with
       | returned u => exact ⟨keep a hy u, by rw [← Act.put_comm a v u h2]; exact he⟩
       | panicked c => exact hQ _ _ _ he
       | outgrown => exact he
     case row row args => exact ⟨h.1, RowsIn.mono h.2 fun u w'' he => ⟨keep a hy u, by rw [← Act.put_comm a v u h2]; exact he⟩⟩
     case round l f tmps assign body =>
       refine ⟨h.1, RoundIn.mono h.2 fun e w'' he => ?_⟩
       cases e with
       | returned u => exact ⟨keep a hy u, by rw [← Act.put_comm a v u h2]; exact he⟩
       | panicked c => exact hQ _ _ _ he
       | outgrown => exact he
   | halt x w' =>
     cases x <;> simp only [Oper.uponIn] at h ⊢
     case panic u => exact hQ _ _ _ h
 · rename_i hw
   simp only [hw] at h
   exact ⟨fun _ _ => trivial, keep a hy _, by rw [← Act.put_comm a v undef h2]; exact h.2⟩
def wpAnySF (nn : Nat) (P : Program) (ops : Array Oper) (Q : Exit → Act → World → Prop) (S : Array Bool → World → Prop) : Nat → Array Bool → Act → World → Prop
 | 0, listed, a, w => Region.ready .any ops listed = [] ∧ Q .normal a w
 | fuel + 1, listed, a, w =>
   (Region.ready .any ops listed = [] → Q .normal a w) ∧
   ∀ i ∈ Region.ready .any ops listed, wpOpIn Fence.wide nn P ops Q i (fun a' w' => S (listed.setIfInBounds i true) w' ∧ wpAnySF nn P ops Q S fuel (listed.setIfInBounds i true) a' w') a w
theorem wpAnyIn_of_SF : ∀ (fuel : Nat) (listed : Array Bool) (a : Act) (w : World), wpAnySF nn P ops Q S fuel listed a w → wpAnyIn Fence.wide nn P .any ops Q fuel listed a w
 | 0, _, _, _, h => h
 | fuel + 1, _, _, _, h => ⟨h.1, fun i hi => wpOpIn_mono (fun a' w' h' => wpAnyIn_of_SF fuel _ a' w' h'.2) (h.2 i hi)⟩
theorem wpAnySF_more {S' : Array Bool → World → Prop} (hm : ∀ L w, S' L w → S L w) : ∀ (fuel : Nat) (listed : Array Bool) (a : Act) (w : World), wpAnySF nn P ops Q S' fuel listed a w → wpAnySF nn P ops Q S fuel listed a w
 | 0, _, _, _, h => h
 | fuel + 1, _, _, _, h => ⟨h.1, fun i hi => wpOpIn_mono (fun a' w' h' => ⟨hm _ _ h'.1, wpAnySF_more hm fuel _ a' w' h'.2⟩) (h.2 i hi)⟩
theorem wpAnySF_first {i : Nat} {oi : Oper} {v : Value} (hi : ops[i]? = some oi)
   (hsel : ∀ (j : Nat) (o : Oper) cs b, ops[j]? = some o → o.op ≠ .select cs b)
   (hQ : ∀ c a w, Q (.panic c) (a.put oi.dst v) w → Q (.panic c) a w) (hSi : ∀ L w, S (L.setIfInBounds i true) w ↔ S L w) :
   ∀ (fuel : Nat) (listed : Array Bool) (a : Act) (w : World),
     (∀ j oj, ops[j]? = some oj → j ≠ i → listed.getD j true = false → (∀ e ∈ oj.after, Region.binds .any e = true → e.on ≠ i) → oi.apart ops oj = true) →
     i ∈ Region.ready .any ops listed → YieldsIf P ops (fun w' => ∃ L, DC ops L ∧ L.getD i true = false ∧ S L w') oi v a → DC ops listed → S listed w →
     wpAnySF nn P ops Q S fuel (listed.setIfInBounds i true) (a.put oi.dst v) w → wpAnySF nn P ops Q S (fuel + 1) listed a w := by
 intro fuel
 induction fuel with
 | zero =>
   intro listed a w _ hr hy hD hS H
   refine ⟨fun h => (by rw [h] at hr; cases hr), fun j hj => ?_⟩
   by_cases hji : j = i
   · subst hji; exact yieldsIf_in hi hy ⟨listed, hD, (mem_ready.1 hr).1, hS⟩ ⟨(hSi _ _).2 hS, H⟩
   · have := ready_mono hj hji
     rw [H.1] at this
     cases this
 | succ fuel ih =>
   intro listed a w hfree hr hy hD hS H
   refine ⟨fun h => (by rw [h] at hr; cases hr), fun j hj => ?_⟩
   by_cases hji : j = i
   · subst hji; exact yieldsIf_in hi hy ⟨listed, hD, (mem_ready.1 hr).1, hS⟩ ⟨(hSi _ _).2 hS, H⟩
   · have h1 := H.2 j (ready_mono hj hji)
     obtain ⟨hjun, oj, hoj, hall⟩ := mem_ready.1 hj
     have hnot : ∀ e ∈ oj.after, Region.binds .any e = true → e.on ≠ i := fun e he hb heq => by
       have h1 := hall e he hb
       have h0 := (mem_ready.1 hr).1
       rw [heq] at h1
       rcases Nat.lt_or_ge i listed.size with h' | h'
       · simp [h'] at h0 h1; rw [h0] at h1; cases h1
       · simp [Array.getElem?_eq_none h'] at h1
     have h2 := wpOpIn_putIf hoj (hfree j oj hoj hji hjun hnot) (fun cs b => hsel i oi cs b hi) (fun cs b => hsel j oj cs b hoj) hQ hy h1
     have hfree' : ∀ k ok, ops[k]? = some ok → k ≠ i → (listed.setIfInBounds j true).getD k true = false →
         (∀ e ∈ ok.after, Region.binds .any e = true → e.on ≠ i) → oi.apart ops ok = true := fun k ok hk hki hun hno => by
       refine hfree k ok hk hki ?_ hno
       by_cases hjk : j = k
       · subst hjk; exact hjun
       · rw [getD_set_ne true hjk] at hun; exact hun
     refine wpOpIn_mono (fun a' w' h3 => ?_) h2
     have hS' : S (listed.setIfInBounds j true) w' := by
       have := h3.2.1
       rw [Array.setIfInBounds_comm _ _ (Ne.symm hji)] at this
       exact (hSi _ _).1 this
     refine ⟨hS', ih (listed.setIfInBounds j true) a' w' hfree' (ready_mono hr (Ne.symm hji)) h3.1 (hD.step hj) hS' ?_⟩
     rw [Array.setIfInBounds_comm _ _ hji]
     exact h3.2.2
def wpGF (nn : Nat) (P : Program) (ops : Array Oper) (Q : Exit → Act → World → Prop) (S : Array Bool → World → Prop) (fuel : Nat) (listed : Array Bool) (a : Act) (w : World) : Prop :=
 DC ops listed → S listed w → wpAnySF nn P ops Q S fuel listed a w
theorem wpGF_take {i : Nat} {oi : Oper} {v : Value} {fuel : Nat} {listed : Array Bool} {a : Act} {w : World} (hi : ops[i]? = some oi)
   (hs : (Region.noSelect ops && Region.free .any ops listed i && (Region.ready .any ops listed).contains i) = true)
   (hSi : ∀ L w, S (L.setIfInBounds i true) w ↔ S L w)
   (hQ : ∀ c a w, Q (.panic c) (a.put oi.dst v) w → Q (.panic c) a w) (hy : YieldsIf P ops (fun w' => ∃ L, DC ops L ∧ L.getD i true = false ∧ S L w') oi v a)
   (h : wpGF nn P ops Q S fuel (listed.setIfInBounds i true) (a.put oi.dst v) w) : wpGF nn P ops Q S (fuel + 1) listed a w := by
 intro hD hS
 simp only [Bool.and_eq_true] at hs
 obtain ⟨⟨h1, h2⟩, h3⟩ := hs
 have hr : i ∈ Region.ready .any ops listed := by simpa using h3
 exact wpAnySF_first hi (Region.noSelect_spec h1) hQ hSi fuel listed a w (Region.free_spec hi h2) hr hy hD hS (h (hD.step hr) ((hSi _ _).2 hS))
theorem wpGF_one {i : Nat} {o : Oper} {fuel : Nat} {listed : Array Bool} {a : Act} {w : World} (hr : Region.ready .any ops listed = [i]) (ho : ops[i]? = some o)
   (hw : Region.wanted o (yielded ops a.tmps) = true)
   (h : S listed w → ∀ K' : Act → World → Prop, Shut (∀ a w, S (listed.setIfInBounds i true) w → wpGF nn P ops Q S fuel (listed.setIfInBounds i true) a w → K' a w) → o.wpIn Fence.wide nn P a w K' Q) : wpGF nn P ops Q S (fuel + 1) listed a w := by
 intro hD hS
 refine ⟨fun h0 => (by rw [hr] at h0; cases h0), fun j hj => ?_⟩
 have hD' := hD.step hj
 rw [hr] at hj
 obtain rfl : j = i := by simpa using hj
 refine wpOpIn_step ho (fun K' hK => ?_)
 rw [if_pos hw]
 exact h hS K' (fun a w hS' hW => hK a w ⟨hS', hW hD' hS'⟩)
theorem wpGF_done {listed : Array Bool} {a : Act} {w : World} {fuel : Nat} (hr : Region.ready .any ops listed = []) (h : S listed w → Q .normal a w) : wpGF nn P ops Q S fuel listed a w := by
 intro _ hS
 cases fuel with
 | zero => exact ⟨hr, h hS⟩
 | succ fuel => exact ⟨fun _ => h hS, by rw [hr]; simp⟩
end
section
variable {df : List Deferred} {P : Program} {ops : Array Oper} {rest : List Oper} {op oi : Oper} {a : Act} {Q : Exit → Act → World → Prop} {w0 w : World} {ex : Nat → Prop} {L : List (Nat × BA)} {K : Act → World → Prop} {n t i fuel nn : Nat} {E : List (Nat × Value)} {v : Value} {S : Array Bool → World → Prop} {l l' : Array Bool}
theorem ow_yield {x : Operand} {xs : List Operand} {ts : Array TypeId} {lr : Nat} {vs : List Value} {R : Ending → World → Prop} (T : TmD df a n E) (ho : op.op = .call { callee := .value x, args := xs.toArray, argTypes := ts }) (hd : op.dst = some t) (hf : freshE E t = true) (hn : Nat.blt t n = true)
   (hx : a.eval x = .func (.yield lr) #[] #[]) (hv : EvL a xs vs) (hY : YieldAt Fence.wide 6 P lr vs.toArray w R) (h : ∀ e w', R e w' → ∃ v, e = .returned v ∧ ∀ a', TmD df a' n ((t, v) :: E) → K a' w') : op.wpIn Fence.wide 7 P a w K Q := by
 obtain ⟨fn, tmps, assign, body, hy, hR⟩ := hY
 have hrun : (execOp a.eval op).run P w = .ok (.round lr fn tmps assign body) w := by
   unfold execOp
   simp [ho, resolve, invoke, Deferred.ofValue, hx, hv.map, Sem.run_bind]
   exact hy
 refine ⟨fun _ _ => trivial, ?_⟩
 rw [show Fence.wide.round = none from rfl, Oper.semAt_none, hrun]
 refine ⟨fun h9 => by simp [Fence.wide] at h9, hR.mono fun e w' hr => ?_⟩
 obtain ⟨v, rfl, h2⟩ := h e w' hr
 exact (hd ▸ h2 _ (T.put hn hf v) : K (a.put op.dst v) w')
def MT : Array Bool → World → Prop := fun _ _ => True
theorem si_T : ∀ (B : Array Bool) W, MT (B.setIfInBounds i true) W ↔ MT B W := fun _ _ => Iff.rfl
theorem fg_startT (M : Mem w0 ex w L) (m : Nat) {id : Nat} (hm : P.follows .mixedOrders = true) (hn : ops.size = m) (hz : Array.replicate m false = pbits m 0)
   (h : ∀ w', Mem w0 ex w' L → wpGF 7 P ops Q MT m (pbits m 0) a w') : (Code.region id ops true).wp P Q a w := by
 subst hn
 refine (wpIn_wide (n := 7)).1 (wpIn_region_any hm (wpAnyIn_of_SF (S := MT) _ _ _ _ ?_))
 rw [hz]
 have hD : DC ops (pbits ops.size 0) := by rw [← hz]; exact DC.start
 exact h _ M.drew hD trivial
theorem fg_addG (s : Nat) (M : Mem w0 ex w L) (h : wpGF nn P ops Q (MA (MG s w0 ex L) S) fuel l a w) : wpGF nn P ops Q S fuel l a w := fun hD hS => wpAnySF_more (fun _ _ h => h.2) _ _ _ _ (h hD ⟨fun _ => M, hS⟩)
theorem fg_q (T : TmD df a n E) (hi : ops[i]? = some oi) (hs : (Region.noSelect ops && Region.free .any ops l i && (Region.ready .any ops l).contains i) = true) (hl : l.setIfInBounds i true = l')
   (hSi : ∀ L w, S (L.setIfInBounds i true) w ↔ S L w) (hQ : ∀ c a w, Q (.panic c) (a.put oi.dst v) w → Q (.panic c) a w)
   (hw : Region.wanted oi (yielded ops a.tmps) = true) (hd : oi.dst = some t) (hf : freshE E t = true) (hn : Nat.blt t n = true)
   (hr : ∀ L w', DC ops L → L.getD i true = false → S L w' → Runs P oi a v w') (h : ∀ a', TmD df a' n ((t, v) :: E) → wpGF nn P ops Q S fuel l' a' w) : wpGF nn P ops Q S (fuel + 1) l a w :=
 wpGF_take hi hs hSi hQ (.inl ⟨hw, fun w' hy => by obtain ⟨L, h1, h2, h3⟩ := hy; exact hr L w' h1 h2 h3⟩) (by rw [hl, hd]; exact h _ (T.put hn hf v))
theorem fgy (i b' : Nat) {m b : Nat} (h : ∀ K' : Act → World → Prop, Shut (∀ a w, S (pbits m b') w → wpGF nn P ops Q S fuel (pbits m b') a w → K' a w) → oi.wpIn Fence.wide nn P a w K' Q)
   (hr : Region.ready .any ops (pbits m b) = [i] := by kernel_rfl) (ho : ops[i]? = some oi := by rfl) (hl : (pbits m b).setIfInBounds i true = pbits m b' := by kernel_rfl) (hw : Region.wanted oi (yielded ops a.tmps) = true := by rfl) : wpGF nn P ops Q S (fuel + 1) (pbits m b) a w :=
 wpGF_one hr ho hw fun _ K' hK => by
   refine h K' ?_
   rw [← hl]
   exact hK
theorem fg_done (hr : Region.ready .any ops l = []) (h : Q .normal a w) : wpGF nn P ops Q S fuel l a w := wpGF_done hr fun _ => h
end
end Go.Proofs.Ytlahdenlmmlplaa
end

section
/-
 A range over a function that makes memory of its own between its calls of yield: what a round keeps is all that is cells, but for the caller's own blocks.
-/
namespace Go.Proofs.Ytlahdenlmmlplaa
set_option linter.unusedSimpArgs false
set_option linter.unusedVariables false
open Go.RowKit Go.Shelf
def KpC (eb : Nat → Prop) (W W' : World) : Prop := W'.os = W.os ∧ W'.tape = W.tape ∧ W'.output = W.output ∧ W.heap.size ≤ W'.heap.size ∧ ∀ b o, W.heap[b]? = some o → o.isCells = true → ¬ eb b → W'.heap[b]? = some o
theorem KpC.t {eb : Nat → Prop} {A B C : World} (h : KpC eb A B) (k : KpC eb B C) : KpC eb A C :=
 ⟨k.1.trans h.1, k.2.1.trans h.2.1, k.2.2.1.trans h.2.2.1, Nat.le_trans h.2.2.2.1 k.2.2.2.1, fun b o ho hc hx => k.2.2.2.2 b o (h.2.2.2.2 b o ho hc hx) hc hx⟩
theorem cell_isC {W : World} {a : Addr} {v : Value} (h : W.cell? a = some v) : ∃ o : Obj, W.heap[a.block]? = some o ∧ o.isCells = true := by
 unfold World.cell? at h
 cases ho : W.heap[a.block]? with
 | none => simp [ho] at h
 | some o => exact ⟨o, rfl, by cases o <;> simp_all [Obj.isCells]⟩
theorem KpC.cell {eb : Nat → Prop} {W W' : World} (h : KpC eb W W') {b o : Nat} {v : Value} (hc : W.cell? ⟨b, o, none⟩ = some v) (hx : ¬ eb b) : W'.cell? ⟨b, o, none⟩ = some v := by
 obtain ⟨ob, h1, h2⟩ := cell_isC hc
 rw [World.cell?_of_block (w := W) (a := ⟨b, o, none⟩) ((h.2.2.2.2 b ob h1 h2 hx).trans h1.symm)]
 exact hc
theorem KpC.bk {eb : Nat → Prop} {W W' : World} (h : KpC eb W W') {g : Nat} {c : Value} {cs : List Value} (hB : Bk W g (c :: cs).toArray) (hx : ¬ eb g) : Bk W' g (c :: cs).toArray := by
 have hc := hB.cell 0
 obtain ⟨ob, h1, h2⟩ := cell_isC (a := ⟨g, 0, none⟩) (v := c) (by simpa using hc)
 have e := (h.2.2.2.2 g ob h1 h2 hx).trans h1.symm
 exact ⟨Nat.lt_of_lt_of_le hB.lt h.2.2.2.1, fun o => (World.cell?_of_block (w := W) (a := ⟨g, o, none⟩) e).trans (hB.cell o), fun o => (World.frozen?_of_block (w := W) (a := ⟨g, o, none⟩) e).trans (hB.frozen o)⟩
section
variable {P : Program} {df : List Deferred} {a : Act} {w0 w : World} {ex : Nat → Prop} {n : Nat} {E : List (Nat × Value)}
theorem px_rangeC {α γ : Type} {g : Operand} {ps : Array Tmp} {assign body : Code} {Q : Exit → Act → World → Prop} (T : TmD df a n E)
   {gf : Nat} {lb : Array Value} (hg : a.eval g = .func (.func gf) #[] lb) (eg : ∀ args w, (callFunc gf args).run P w = .ok (.enter gf args) w)
   {encs : α → Array Value} {S Sp : List α → Prop} {N : Nat} (eb : Nat → Prop) (hseq : SeqStopsK Fence.wide 7 P gf lb encs (KpC eb) S Sp N w) (hps : ∀ x, (encs x).size = ps.size)
   (J : List α → List (Nat × BA) → Prop) (Jx : Code → List α → List (Nat × BA) → Prop)
   (EP : α → List (Nat × Value)) (EA : α → γ → List (Nat × Value)) (LB : α → γ → List (Nat × BA))
   (hf : ∀ pre L, J pre L → farOk w.heap.size L) (hfx : ∀ c pre L, Jx c pre L → farOk w.heap.size L)
   (heb : ∀ pre L, J pre L → ∀ p ∈ L, eb p.1)
   {L0 : List (Nat × BA)} (M : Mem w0 ex w L0) (hJ0 : J [] L0)
   (hEP : ∀ x, TmD [] { tmps := (ps.zip (encs x)).foldl (fun t (p, v) => t.setIfInBounds p v) a.tmps, defers := [] } n (EP x))
   (hLB : ∀ x c, ∀ p ∈ LB x c, p.2.isC = true)
   (hap : (∀ x c, LB x c = []) ∨ ∀ pre L, J pre L → ∀ p ∈ L, p.1 < w.heap.size)
   (hass : ∀ (l : Nat) (x : α) (W : World) (K : Act → World → Prop) (a1 : Act), TmD [] a1 n (EP x) → (∀ c a' W', TmD [] a' n (EA x c) → Mem W noEx W' (LB x c) → K a' W') → assign.wpIn (FW l) 6 P (Exit.then K (fun _ _ _ => False)) a1 W)
   (hbody : ∀ (l : Nat) (pre : List α) (x : α) (c : γ) (L : List (Nat × BA)) (a' : Act) (W : World), J pre L → w.heap.size ≤ W.heap.size → (∃ r, W.heap[l]? = some (.loop r)) → w.heap.size ≤ l → pre.length < N →
     Mem w0 ex W (LB x c ++ L) → (∀ p ∈ LB x c, ¬ inL L p.1) → ∀ (exb : Nat → Prop) (Wc : World), exb = inL L → Wc = W → TmD [] a' n (EA x c) → Mem W exb Wc L → body.wpIn (FW l) 6 P (rPost W exb J Jx (pre ++ [x])) a' Wc)
   (hdone : ∀ (D : Nat) (xs : List α) (L : List (Nat × BA)) (a' : Act) (W : World), S xs → J xs L → w.heap.size ≤ W.heap.size → TmD (dfD D :: df) a' n E → Mem w0 ex W ((D, dfA) :: L) → Q .normal a' W)
   (hstop : ∀ (D : Nat) (c : Code) (pre : List α) (L : List (Nat × BA)) (a' : Act) (W : World), Sp pre → Jx c pre L → w.heap.size ≤ W.heap.size → TmD (dfD D :: df) a' n E → Mem w0 ex W ((D, dfA) :: L) → c.wp P Q a' W) :
   (Code.rangeFunc g ps assign body).wp P Q a w := by
 have hz0 := M.size
 have addD : ∀ {D : Nat} {W : World} {L : List (Nat × BA)}, w.heap.size ≤ D → W.heap[D]? = some (.deferred (some [])) → farOk w.heap.size L → Mem w0 ex W L → Mem w0 ex W ((D, dfA) :: L) := fun {D W L} hD hk hL M => by
   refine M.add (by omega) ⟨_, hk, rfl⟩ (fun q hq e => ?_)
   rcases hL q hq with h | h
   · omega
   · have h2 := BA.isC_cells (M.blk q hq).2 h (e ▸ hk)
     simp [Obj.isCells] at h2
 have keeps : ∀ {L L'' : List (Nat × BA)} {pre : List α} {W W' : World}, J pre L → w.heap.size ≤ W.heap.size → Mem w0 ex W L → Mem W (inL L) W' L'' → KeepsFrom w.heap.size W W' ∧ KpC eb W W' := fun {L L'' pre W W'} hj hz M0 M => by
   refine ⟨⟨M.size, fun k o hk ho hc => (M.block k (Array.getElem?_eq_some_iff.1 ho).1 (fun hi => ?_)).trans ho⟩, M.os, M.tape, M.output, M.size, fun b o ho _ hx => (M.block b (Array.getElem?_eq_some_iff.1 ho).1 (fun hi => ?_)).trans ho⟩
   · obtain ⟨p, hp, rfl⟩ := List.mem_map.1 hi
     have h2 : p.2.isC = true := by
       rcases hf _ _ hj p hp with h | h
       · omega
       · exact h
     rw [BA.isC_cells (M0.blk p hp).2 h2 ho] at hc
     cases hc
   · obtain ⟨p, hp, rfl⟩ := List.mem_map.1 hi
     exact hx (heb _ _ hj p hp)
 refine (wpIn_wide (n := 8)).1 (wpIn_rangeFunc_ownH (α := α) rfl (by omega) hg trivial eg hseq
   (fun h k => KpC.t h k) (fun W l o o' hl h hc _ => ⟨rfl, rfl, rfl, by simp, fun b o1 ho1 hc1 _ => (World.putObj_heap_other (fun e => by subst e; rw [h] at ho1; injection ho1 with ho1; subst ho1; rw [hc] at hc1; cases hc1)).trans ho1⟩) (Below.refl _ _) hps
   (fun pre W => ∃ L, J pre L ∧ Mem w0 ex W L ∧ w.heap.size ≤ W.heap.size)
   (fun c pre W => ∃ L, Jx c pre L ∧ Mem w0 ex W L ∧ w.heap.size ≤ W.heap.size)
   (fun s W W' row hs hg hr => by
     obtain ⟨L, hj, M1, hz⟩ := hs
     exact ⟨L, hj, M1.far2 hg hr hz0 (hf _ _ hj), Nat.le_trans hz hg.size⟩)
   (fun c s W W' row hs hg hr => by
     obtain ⟨L, hj, M1, hz⟩ := hs
     exact ⟨L, hj, M1.far2 hg hr hz0 (hfx _ _ _ hj), Nat.le_trans hz hg.size⟩)
   ⟨L0, hJ0, M, Nat.le_refl _⟩
   (fun x a' W => ∃ c, TmD [] a' n (EA x c) ∧ Mem w0 ex W (LB x c) ∧ ∀ p ∈ LB x c, w.heap.size ≤ p.1)
   (fun x a' _ W W' row hs hg hr => by
     obtain ⟨c, T', M1, hl⟩ := hs
     exact ⟨c, T', M1.far2 hg hr hz0 (fun p hp => .inr (hLB _ _ p hp)), hl⟩)
   ?assign ?body ?done ?stop)
 case assign =>
   rintro l pre x W K ⟨L, hj, M1, hz⟩ hK
   refine hass l x W K _ (hEP x) fun c a' W' T' N1 => ?_
   have hb := N1.below
   refine hK a' W' ⟨hb.size, fun k o hk ho hc => (hb.block k (Array.getElem?_eq_some_iff.1 ho).1).trans ho⟩ ⟨N1.os, N1.tape, N1.output, hb.size, fun b o ho _ _ => (hb.block b (Array.getElem?_eq_some_iff.1 ho).1).trans ho⟩ ⟨L, hj, M1.call hb, Nat.le_trans hz hb.size⟩ ⟨c, T', ?_, fun p hp => ?_⟩
   · have h2 := M1.join N1
     exact h2.sub (List.sublist_append_left _ _)
   · rcases (N1.blk p hp).1 with h | h
     · omega
     · exact h.elim
 case body =>
   rintro l pre x a' W hl hrec ⟨L, hj, M1, hz⟩ ⟨c, T', M2, hl2⟩ hlt
   have M3 : Mem w0 ex W (LB x c ++ L) := by
     rcases hap with h | h
     · rw [h]; exact M1
     · refine ⟨M1.os, M1.tape, M1.output, M1.size, M1.block, fun p hp => ?_, ?_⟩
       · rcases List.mem_append.1 hp with h2 | h2
         · exact M2.blk p h2
         · exact M1.blk p h2
       · rw [List.map_append]
         refine List.nodup_append.2 ⟨M2.nd, M1.nd, ?_⟩
         intro i hi j hk e
         obtain ⟨p, hp, rfl⟩ := List.mem_map.1 hi
         obtain ⟨q, hq, rfl⟩ := List.mem_map.1 hk
         have := hl2 p hp
         have := h _ _ hj q hq
         omega
   have hnl : ∀ p ∈ LB x c, ¬ inL L p.1 := fun p hp hi => by
     have h2 := M3.nd
     rw [List.map_append] at h2
     have h3 := (List.nodup_append.1 h2).2.2 p.1 (List.mem_map.2 ⟨p, hp, rfl⟩) p.1 hi
     exact h3 rfl
   refine wpIn_mono (hbody l pre x c L a' W hj hz hrec hl hlt M3 hnl _ _ rfl rfl T' M1.rebase) fun e a2 W2 h => ?_
   cases e with
   | normal =>
     obtain ⟨L2, hj2, M4⟩ := h
     obtain ⟨k1, k2⟩ := keeps hj hz M1 M4
     exact ⟨k1, k2, L2, hj2, M1.back M4, Nat.le_trans hz M4.size⟩
   | ret =>
     obtain ⟨L2, hj2, M4⟩ := h
     obtain ⟨k1, k2⟩ := keeps hj hz M1 M4
     exact ⟨k1, L2, hj2, M1.back M4, Nat.le_trans hz M4.size⟩
   | exit id =>
     obtain ⟨L2, hj2, M4⟩ := h
     obtain ⟨k1, k2⟩ := keeps hj hz M1 M4
     exact ⟨k1, L2, hj2, M1.back M4, Nat.le_trans hz M4.size⟩
   | _ => exact h.elim
 case done =>
   rintro D xs W hD hS ⟨L, hj, M1, hz⟩ hK
   exact hdone D xs L _ W hS hj hz (T.marks D) (addD hD hK (hf _ _ hj) M1)
 case stop =>
   rintro D c pre W hD hSp ⟨L, hj, M1, hz⟩ hK
   exact wpIn_wide.2 (hstop D c pre L _ W hSp hj hz (T.marks D) (addD hD hK (hfx _ _ _ hj) M1))
end
end Go.Proofs.Ytlahdenlmmlplaa
end

section
/-
 voice: two tongues after two, note by note.
-/
namespace Go.Proofs.Ytlahdenlmmlplaa
set_option linter.unusedSimpArgs false
set_option linter.unusedVariables false
open Go.RowKit Go.Shelf
abbrev TwS (R : List (List Snd)) (g : List Int) := { x : Two // x ∈ prsL R g }
def twV (x : Two) : Value := .agg #[.int .i64 x.nt, .int .i64 x.row, .int .i64 x.lo.t0, .int .i64 x.lo.t1, .int .i64 x.lo.s0, .int .i64 x.lo.s1, .int .i64 x.hi.t0, .int .i64 x.hi.t1, .int .i64 x.hi.s0, .int .i64 x.hi.s1]
structure OpW (w : World) (n0 : Nat) (A : Option Addr) (LL : List LS) (G : Option Addr) (g : List Int) : Prop where
 a : Rd w n0 1 A LL.length (lsC LL)
 e : ∀ x ∈ LL, Rd w n0 4 x.2.1 x.1.length (sc x.1)
 g : Rd w n0 1 G g.length (ic g)
theorem grown_blw {w w' : World} (h : Below w.heap.size w w') : w.grownBy w' none := ⟨h.os, h.tape, h.output, h.size, fun k hk _ => h.block k hk⟩
theorem Rd.kpc {w w' : World} {B size n : Nat} {A : Option Addr} {xs : List Value} {eb : Nat → Prop} (h : Rd w B size A n xs) (hk : KpC eb w w') (hx : ∀ b o, A = some ⟨b, o, none⟩ → 0 < n → ¬ eb b) : Rd w' B size A n xs :=
 ⟨h.1, fun hn => by
   obtain ⟨b, o, h1, h2, h3⟩ := h.2 hn
   exact ⟨b, o, h1, h2, fun j u hu => hk.cell (h3 j u hu) (hx b o h1 hn)⟩⟩
theorem Rd.kpc0 {w w' : World} {B size n : Nat} {A : Option Addr} {xs : List Value} {eb : Nat → Prop} (h : Rd w B size A n xs) (hk : KpC eb w w') (hx : ∀ b, b < B → ¬ eb b) : Rd w' B size A n xs :=
 ⟨h.1, fun hn => by
   obtain ⟨b, o, h1, h2, h3⟩ := h.2 hn
   exact ⟨b, o, h1, h2, fun j u hu => hk.cell (h3 j u hu) (hx b h2)⟩⟩
theorem OpW.kpc {w w' : World} {n0 : Nat} {A : Option Addr} {LL : List LS} {G : Option Addr} {g : List Int} {eb : Nat → Prop} (h : OpW w n0 A LL G g) (hk : KpC eb w w') (hx : ∀ b, b < n0 → ¬ eb b) : OpW w' n0 A LL G g :=
 ⟨h.a.kpc0 hk hx, fun x hx2 => (h.e x hx2).kpc0 hk hx, h.g.kpc0 hk hx⟩
theorem OpW.below {w w' : World} {n0 : Nat} {A : Option Addr} {LL : List LS} {G : Option Addr} {g : List Int} (h : OpW w n0 A LL G g) (hk : Below w.heap.size w w') (hn : n0 ≤ w.heap.size) : OpW w' n0 A LL G g :=
 ⟨h.a.below (hk.mono hn), fun x hx2 => (h.e x hx2).below (hk.mono hn), h.g.below (hk.mono hn)⟩
def RdN (w : World) (n1 size : Nat) (A : Option Addr) (n : Nat) (xs : List Value) : Prop := Rd w w.heap.size size A n xs ∧ ∀ b o, A = some ⟨b, o, none⟩ → 0 < n → n1 ≤ b
theorem RdN.kpc {w w' : World} {n1 size n : Nat} {A : Option Addr} {xs : List Value} {eb : Nat → Prop} (h : RdN w n1 size A n xs) (hk : KpC eb w w') (hx : ∀ b, eb b → b < n1) : RdN w' n1 size A n xs :=
 ⟨(h.1.kpc hk fun b o ha hn he => by have := h.2 b o ha hn; have := hx b he; omega).more hk.2.2.2.1, h.2⟩
theorem Sp.mine {I : List (Nat × BA)} {A : Option Addr} {n size b o : Nat} {xs : List Value} (S : ∀ (w : World) (ex : Nat → Prop), Sp w ex I A n size b o xs) {w0 w : World} {ex : Nat → Prop} (M : Mem w0 ex w I) (hs : 0 < size) (hn : 0 < n) : inL I b := by
 refine Classical.byContradiction fun hb => ?_
 have M2 : Mem w0 (fun _ => True) w I := ⟨M.os, M.tape, M.output, M.size, fun b _ h => absurd trivial h, fun p hp => ⟨.inr trivial, (M.blk p hp).2⟩, M.nd⟩
 have hlt := (S w0 (fun _ => True)).lt w I M2 (List.Sublist.refl _) hn
 have hxs : 0 < xs.length := by rw [(S w0 ex).len]; exact Nat.mul_pos hn hs
 have hg := grownBy_putObj' w b (.deferred (some []))
 have M3 : Mem w0 (fun _ => True) (w.putObj b (.deferred (some []))) I :=
   ⟨hg.os.trans M.os, hg.tape.trans M.tape, hg.output.trans M.output, Nat.le_trans M.size hg.size, fun b _ h => absurd trivial h,
     fun p hp => ⟨.inr trivial, BA.same (M.blk p hp).2 hg.size (hg.block _ (BA.lt (M.blk p hp).2) (fun e => hb (List.mem_map.2 ⟨p, hp, by injection e⟩)))⟩, M.nd⟩
 have hc := (S w0 (fun _ => True)).cell _ I M3 (List.Sublist.refl _) 0 xs[0] (List.getElem?_eq_getElem hxs)
 obtain ⟨ob, h1, h2⟩ := cell_isC hc
 simp only [World.putObj] at h1
 rw [Array.getElem?_setIfInBounds_self_of_lt hlt] at h1
 injection h1 with h1
 subst h1
 cases h2
theorem Sp.from {I : List (Nat × BA)} {A : Option Addr} {n size b o : Nat} {xs : List Value} (S : ∀ (w : World) (ex : Nat → Prop), Sp w ex I A n size b o xs) {w0 w : World} (M : Mem w0 noEx w I) (hs : 0 < size) : ∀ b o, A = some ⟨b, o, none⟩ → 0 < n → w0.heap.size ≤ b := fun b' o' ha hn => by
 have h1 := (S w0 noEx).at0 hn
 rw [ha] at h1
 injection h1 with h1
 injection h1 with h1 _ _
 subst h1
 obtain ⟨p, hp, rfl⟩ := List.mem_map.1 (Sp.mine S M hs hn)
 rcases (M.blk p hp).1 with h | h
 · exact h
 · exact h.elim
theorem RdN.of {I L : List (Nat × BA)} {A : Option Addr} {n size b o n1 : Nat} {xs : List Value} {w w' : World} (S : ∀ (w : World) (ex : Nat → Prop), Sp w ex I A n size b o xs) (M : Mem w noEx w' L) (hI : I.Sublist L) (hs : 0 < size) (h1 : n1 ≤ w.heap.size) : RdN w' n1 size A n xs :=
 ⟨(S w noEx).rd M hI, fun b o ha hn => Nat.le_trans h1 (Sp.from S (M.sub hI) hs b o ha hn)⟩
theorem two_at {R : List (List Snd)} {g : List Int} {k m : Nat} {r : Int} {x y : Snd} (hr : g[m]? = some r) (hx : (voicesP R g k)[m]? = some x) (hy : (voicesP R g k)[m + 1]? = some y) : (⟨(k : Int), r, x, y⟩ : Two) = twoAt R g k m := by
 have h1 := (List.getElem?_eq_some_iff.1 hr).1
 have h2 := (List.getElem?_eq_some_iff.1 hy).1
 rw [show (voicesP R g k).length = g.length by simp [voicesP]] at h2
 rw [voices_at h1] at hx
 rw [voices_at h2] at hy
 injection hx with hx
 injection hy with hy
 have e : g.getD m 0 = r := by rw [List.getD_eq_getElem?_getD, hr]; rfl
 unfold twoAt
 rw [← hx, ← hy, e]
theorem pre_lt {R : List (List Snd)} {g : List Int} {k m : Nat} {pre : List (TwS R g)} (hp : pre.map (·.1) = prsQ R g k m) (hk : k < notesP R) (hm : m + 1 < g.length) : pre.length < (prsL R g).length := by
 have h1 := (prsQ_pre (R := R) (g := g) (m := m + 1) hk).length_le
 have h2 := congrArg List.length hp
 rw [prsQ_step hm, List.length_append] at h1
 rw [List.length_map] at h2
 simp only [List.length_cons, List.length_nil] at h1
 omega
theorem pre_snoc {R : List (List Snd)} {g : List Int} {k m : Nat} {pre : List (TwS R g)} {x : TwS R g} (hp : pre.map (·.1) = prsQ R g k m) (hx : x.1 = twoAt R g k m) (hm : m + 1 < g.length) : (pre ++ [x]).map (·.1) = prsQ R g k (m + 1) := by
 rw [List.map_append, hp, prsQ_step hm, List.map_cons, List.map_nil, hx]
set_option maxHeartbeats 4000000 in
theorem pairs1_in (lr b1 n0 n1 : Nat) (eb : Nat → Prop) (l : Lw) (A : Option Addr) (c : Nat) (LL : List LS) (G : Option Addr) (d : Nat) (g : List Int) (J Jx : List (TwS (rowsOf LL) g) → World → Prop) (w : World) (h01 : n0 ≤ n1) (hn1 : n1 ≤ w.heap.size) (h0 : ∀ b, b < n0 → ¬ eb b) (heb : ∀ b, eb b → b < n1) (hx1 : ¬ eb b1) (hgL : ∀ r ∈ g, 0 ≤ r ∧ r < LL.length) (hN6 : notesP (rowsOf LL) ≤ 6) (nL : LL.length ≤ 1000000) (nE : ∀ x ∈ LL, x.1.length ≤ 1000000) (nG : g.length ≤ 1000000) (hNL : ∀ x ∈ LL, x.1.length = notesP (rowsOf LL)) (gS : SGood l (rowsOf LL)) (gR : ∀ r ∈ g, 0 ≤ r ∧ r < (rowsOf LL).length) (hJ : AbidesFrom w.heap.size J)
   (hY : ∀ pre x W1, J pre W1 → pre.length < (prsL (rowsOf LL) g).length → YieldAt Fence.wide 6 Try.prog lr #[twV x.1] W1 fun e W' =>
     (e = .returned (.bool true) ∧ J (pre ++ [x]) W' ∧ KpC eb W1 W') ∨ (e = .returned (.bool false) ∧ Jx (pre ++ [x]) W'))
   (q1 : Bk w b1 #[.int .i64 l.first, .int .i64 l.step, .int .i64 l.span, .int .i64 l.press, .slice A LL.length c, .slice G g.length d]) (ho : OpW w n0 A LL G g) (hJ0 : J [] w) :
   Calls Try.prog 105 #[.func (.yield lr) #[] #[], .pointer (some ⟨b1, 0, none⟩)] w fun e W' => (∃ v, e = .returned v) ∧ ((∃ xs : List (TwS (rowsOf LL) g), xs.map (·.1) = prsL (rowsOf LL) g ∧ J xs W') ∨ (∃ pre : List (TwS (rowsOf LL) g), pre.map (·.1) <+: prsL (rowsOf LL) g ∧ Jx pre W')) := by
 have hw0 := Nat.le_trans h01 hn1
 have hA := ho.a.more hw0
 have hE : ElsS w LL := fun x hx => (ho.e x hx).more hw0
 have hG := ho.g.more hw0
 obtain ⟨bA, oA, SA⟩ := Sp.old hA
 obtain ⟨bG, oG, SG⟩ := Sp.old hG
 refine px_enter noEx Try.func105 rfl 42 rfl [.func (.yield lr) #[] #[], .pointer (some ⟨b1, 0, none⟩)] rfl rfl (Mem.init w _) ?_
 intro ac wc T M
 refine wp_seq ?_
 refine wp_region_lit ?_
 refine lq (v := (.pointer (some ⟨b1, 0, none⟩))) T (rn_fieldAddr (off := 0) rfl (T.ev 1 rfl) (fun _ _ _ => by kernel_rfl)) ?_; clear T ac; intro ac T
 refine lq T (rn_rowO (Mem.old M q1 (fun h => h)) rfl (T.ev 0 rfl) rfl) ?_; clear T ac; intro ac T
 refine l_w rfl ?_; intro K hK
 refine ow_call (first := []) (cap := []) T rfl rfl rfl rfl evf (.cons (T.ev 0 rfl) .nil) Try.func54 rfl rfl ?_
 refine Calls.mono (notes_any l A c LL _ (SA.rd M (List.nil_sublist _)) (fun x hx => M.rd (hE x hx) (Nat.le_refl _)) (by omega) nE) ?_
 clear T
 rintro e wc ⟨rfl, hb⟩
 intro ac T
 replace M := M.call hb; clear hb
 refine sh_out hK _ _ ?_; clear hK K
 refine lq T (rn_move rfl evc) ?_; clear T ac; intro ac T
 refine wpList_nil ?_
 replace T := T.pick [0, 1, 4, 5] rfl
 refine nm_then ?_
 refine wp_block ?_
 refine wp_loop_n (fun mz ac wc => ∃ (w : World) (k : Nat) (pre : List (TwS (rowsOf LL) g)), mz = notesP (rowsOf LL) - k ∧ (k ≤ notesP (rowsOf LL)) ∧ (pre.map (·.1) = prsQ (rowsOf LL) g k 0) ∧ (Bk w b1 #[.int .i64 l.first, .int .i64 l.step, .int .i64 l.span, .int .i64 l.press, .slice A LL.length c, .slice G g.length d]) ∧ (OpW w n0 A LL G g) ∧ (n1 ≤ w.heap.size) ∧ (J pre w) ∧ Tm ac 42 [(0, .func (.yield lr) #[] #[]), (1, .pointer (some ⟨b1, 0, none⟩)), (8, .int .i64 ((notesP (rowsOf LL) : Nat) : Int)), (9, .int .i64 (k : Int))] ∧ Mem w noEx wc []) ?_ ?_
 ·exact ⟨_, w, 0, [], rfl, (Nat.zero_le _), (by simp [prsQ]), q1, ho, hn1, hJ0, T.pick [2, 3, 1, 0] rfl, M.mask [] rfl⟩
 clear T M
 rintro mz ac wc ⟨w, k, pre, hmm1, hk, hp, q1, ho, hn1, hj, T, M⟩
 have hw0 := Nat.le_trans h01 hn1
 have hA := ho.a.more hw0
 have hE : ElsS w LL := fun x hx => (ho.e x hx).more hw0
 have hG := ho.g.more hw0
 obtain ⟨bA, oA, SA⟩ := Sp.old hA
 obtain ⟨bG, oG, SG⟩ := Sp.old hG
 refine wp_seq ?_
 refine wp_region_lit ?_
 refine lq T (rn_lss rfl (T.ev 3 rfl) (T.ev 2 rfl)) ?_; clear T ac; intro ac T
 refine wpList_nil ?_
 refine nm_then ?_
 refine wp_seq ?_
 refine wp_if (T.ev 0 rfl) ?_ ?_
 ·intro h1
  refine wp_skip ?_
  refine nm_then ?_
  refine wp_seq ?_
  refine wp_block ?_
  refine wp_seq ?_
  refine wp_region_lit ?_
  refine lq T (rn_move rfl (T.ev 4 rfl)) ?_; clear T ac; intro ac T
  refine lq T (rn_assign rfl (T.ev 0 rfl)) ?_; clear T ac; intro ac T
  refine wpList_nil ?_
  replace T := T.pick [0, 3, 4, 5, 6] rfl
  refine nm_then ?_
  refine wp_seq ?_
  refine wp_region_lit ?_
  refine lq T (rn_rowO (Mem.old M q1 (fun h => h)) rfl (T.ev 2 rfl) rfl) ?_; clear T ac; intro ac T
  refine lq T (rn_move rfl (T.ev 1 rfl)) ?_; clear T ac; intro ac T
  refine l_w rfl ?_; intro K hK
  refine ow_call (first := []) (cap := []) T rfl rfl rfl rfl evf (.cons (T.ev 1 rfl) (.cons (T.ev 0 rfl) .nil)) Try.func57 rfl rfl ?_
  refine Calls.mono (voices_any l A c LL G d g k _ (SA.rd M (List.nil_sublist _)) (fun x hx => M.rd (hE x hx) (Nat.le_refl _)) (by omega) nE (SG.rd M (List.nil_sublist _)) (by omega) hgL (by intro x hx; rw [hNL x hx]; omega)) ?_
  clear T
  rintro e wc ⟨Au2, cu2, Iu2, rfl, SVu2, N⟩
  intro ac T
  obtain ⟨bu2, ou2, SVu2⟩ := SVu2
  obtain ⟨lvu2, hlvu2⟩ : ∃ q, q = voicesP (rowsOf LL) g k := ⟨_, rfl⟩
  rw [← hlvu2] at SVu2
  have Su2 := SVu2 w noEx
  have nvu2 : lvu2.length = g.length := by rw [hlvu2]; simp [voicesP]
  have gvu2 : ∀ z ∈ lvu2, z.good := by rw [hlvu2]; exact voicesP_good gS gR (by omega)
  replace M := (M.join N).swapI
  clear N
  replace M : Mem w noEx wc (Iu2) := M
  rw [← hlvu2] at T
  refine sh_out hK _ _ ?_; clear hK K
  refine lq T (rn_assign rfl (T.ev 0 rfl)) ?_; clear T ac; intro ac T
  refine wpList_nil ?_
  replace T := T.pick [0, 4, 5, 6, 7, 8] rfl
  refine nm_then ?_
  refine wp_seq ?_
  refine wp_region_lit ?_
  refine lq T (rn_assign rfl evc) ?_; clear T ac; intro ac T
  refine wpList_nil ?_
  refine nm_then ?_
  refine wp_block ?_
  have hv := RdN.of SVu2 M (List.Sublist.refl _) (by omega) hn1
  have hj := hJ _ _ _ none hj (grown_blw M.below) (fun r e => by cases e)
  have q1 := M.old q1 (fun h => h)
  have ho := ho.below M.below hw0
  have hn1 := Nat.le_trans hn1 M.size
  clear M
  obtain ⟨w, hwe⟩ : ∃ q : World, q = wc := ⟨_, rfl⟩
  have M : Mem w noEx wc [] := by rw [hwe]; exact Mem.init wc _
  rw [← hwe] at hv hj q1 ho hn1
  clear hwe
  refine wp_loop_n (fun mz ac wc => ∃ (w : World) (m : Nat) (pre : List (TwS (rowsOf LL) g)), mz = g.length - m ∧ (m ≤ g.length) ∧ (pre.map (·.1) = prsQ (rowsOf LL) g k m) ∧ (Bk w b1 #[.int .i64 l.first, .int .i64 l.step, .int .i64 l.span, .int .i64 l.press, .slice A LL.length c, .slice G g.length d]) ∧ (OpW w n0 A LL G g) ∧ (n1 ≤ w.heap.size) ∧ (J pre w) ∧ (RdN w n1 4 Au2 lvu2.length (sc lvu2)) ∧ Tm ac 42 [(0, .func (.yield lr) #[] #[]), (1, .pointer (some ⟨b1, 0, none⟩)), (3, .int .i64 (k : Int)), (4, .slice Au2 lvu2.length cu2), (5, .int .i64 (m : Int)), (8, .int .i64 ((notesP (rowsOf LL) : Nat) : Int)), (9, .int .i64 (k : Int))] ∧ Mem w noEx wc []) ?_ ?_
  ·exact ⟨_, w, 0, pre, rfl, (Nat.zero_le _), hp, q1, ho, hn1, hj, hv, T.pick [3, 4, 2, 1, 0, 5, 6] rfl, M.mask [] rfl⟩
  clear T M
  rintro mz ac wc ⟨w, m, pre, hmm2, hm, hp, q1, ho, hn1, hj, hv, T, M⟩
  have hw0 := Nat.le_trans h01 hn1
  have hA := ho.a.more hw0
  have hE : ElsS w LL := fun x hx => (ho.e x hx).more hw0
  have hG := ho.g.more hw0
  obtain ⟨bA, oA, SA⟩ := Sp.old hA
  obtain ⟨bG, oG, SG⟩ := Sp.old hG
  obtain ⟨bV, oV, SV⟩ := Sp.old hv.1
  refine wp_seq ?_
  refine wp_seq ?_
  refine wp_region_lit ?_
  refine lq T (rn_move rfl (T.ev 4 rfl)) ?_; clear T ac; intro ac T
  refine lq T (rn_add rfl (T.ev 0 rfl) evc (by omega)) ?_; clear T ac; intro ac T
  refine lq T (rn_move rfl (T.ev 5 rfl)) ?_; clear T ac; intro ac T
  refine lq T (rn_lenS rfl Try.underlying38 (T.ev 0 rfl)) ?_; clear T ac; intro ac T
  refine lq T (rn_lss rfl (T.ev 2 rfl) (T.ev 0 rfl)) ?_; clear T ac; intro ac T
  refine wpList_nil ?_
  replace T := T.pick [0, 5, 6, 7, 8, 9, 10, 11] rfl
  refine nm_then ?_
  refine wp_if (T.ev 0 rfl) ?_ ?_
  ·intro h2
   obtain ⟨r, hkr, -⟩ := ic_next (l := g) (k := m) (by omega)
   obtain ⟨x, hkx, -⟩ := sc_next (l := lvu2) (k := m) (by omega)
   obtain ⟨m1, hm1⟩ : ∃ q : Nat, (m : Int) + 1 = (q : Int) := ⟨m + 1, by omega⟩
   obtain ⟨y, hky, -⟩ := sc_next (l := lvu2) (k := m1) (by omega)
   refine wp_skip ?_
   refine nm_then ?_
   refine wp_seq ?_
   refine wp_block ?_
   refine wp_seq ?_
   refine fg_startT M 19 (by kernel_rfl) rfl (by kernel_rfl) ?_
   clear M; intro wc M
   refine fg_addG 17 M ?_
   refine fg_q (T := T) (i := 0) rfl (by kernel_rfl) (by kernel_rfl : (pbits 19 0).setIfInBounds 0 true = pbits 19 1) (si_and (si_G rfl) si_T) (fun _ _ _ h => h) rfl rfl rfl rfl (fun _ _ _ _ _ => (rn_move rfl (T.ev 1 rfl))) ?_; clear T ac; intro ac T
   refine fg_q (T := T) (i := 1) rfl (by kernel_rfl) (by kernel_rfl : (pbits 19 1).setIfInBounds 1 true = pbits 19 3) (si_and (si_G rfl) si_T) (fun _ _ _ h => h) rfl rfl rfl rfl (fun _ _ _ _ _ => (rn_move rfl (T.ev 4 rfl))) ?_; clear T ac; intro ac T
   refine fg_q (v := (.pointer (some ⟨b1, 5, none⟩))) (T := T) (i := 2) rfl (by kernel_rfl) (by kernel_rfl : (pbits 19 3).setIfInBounds 2 true = pbits 19 7) (si_and (si_G rfl) si_T) (fun _ _ _ h => h) rfl rfl rfl rfl (fun _ _ _ _ _ => (rn_fieldAddr (off := 5) rfl (T.ev 4 rfl) (fun _ _ _ => by kernel_rfl))) ?_; clear T ac; intro ac T
   refine fg_q (T := T) (i := 3) rfl (by kernel_rfl) (by kernel_rfl : (pbits 19 7).setIfInBounds 3 true = pbits 19 15) (si_and (si_G rfl) si_T) (fun _ _ _ h => h) rfl rfl rfl rfl (fun B w' hD hl hS => (rn_one (Mem.old (show Mem w noEx w' _ from ((MA.lft hS) (hD.wait (i := 16) (m := 17) (by kernel_rfl) (hD.wait (i := 6) (m := 16) (by kernel_rfl) (hD.wait (i := 5) (m := 6) (by kernel_rfl) (hD.wait (i := 3) (m := 5) (by kernel_rfl) hl)))))) q1 (fun h => h)) rfl (T.ev 0 rfl) rfl)) ?_; clear T ac; intro ac T
   refine fg_q (T := T) (i := 4) rfl (by kernel_rfl) (by kernel_rfl : (pbits 19 15).setIfInBounds 4 true = pbits 19 31) (si_and (si_G rfl) si_T) (fun _ _ _ h => h) rfl rfl rfl rfl (fun _ _ _ _ _ => (rn_move rfl (T.ev 9 rfl))) ?_; clear T ac; intro ac T
   refine fg_q (T := T) (i := 5) rfl (by kernel_rfl) (by kernel_rfl : (pbits 19 31).setIfInBounds 5 true = pbits 19 63) (si_and (si_G rfl) si_T) (fun _ _ _ h => h) rfl rfl rfl rfl (fun _ _ _ _ _ => (rn_indexAddr (size := 1) m rfl (T.ev 1 rfl) (T.ev 0 rfl) ⟨_, Try.underlying22, by kernel_rfl⟩ rfl (by omega) (SG.at0 (by omega)))) ?_; clear T ac; intro ac T
   refine fg_q (T := T) (i := 6) rfl (by kernel_rfl) (by kernel_rfl : (pbits 19 63).setIfInBounds 6 true = pbits 19 127) (si_and (si_G rfl) si_T) (fun _ _ _ h => h) rfl rfl rfl rfl (fun B w' hD hl hS => (rn_cell (Sp.ic0 SG (show Mem w noEx w' _ from ((MA.lft hS) (hD.wait (i := 16) (m := 17) (by kernel_rfl) (hD.wait (i := 6) (m := 16) (by kernel_rfl) hl)))) (List.nil_sublist _) hkr) rfl (T.ev 0 rfl))) ?_; clear T ac; intro ac T
   refine fg_q (T := T) (i := 7) rfl (by kernel_rfl) (by kernel_rfl : (pbits 19 127).setIfInBounds 7 true = pbits 19 255) (si_and (si_G rfl) si_T) (fun _ _ _ h => h) rfl rfl rfl rfl (fun _ _ _ _ _ => (rn_move rfl (T.ev 11 rfl))) ?_; clear T ac; intro ac T
   refine fg_q (T := T) (i := 8) rfl (by kernel_rfl) (by kernel_rfl : (pbits 19 255).setIfInBounds 8 true = pbits 19 511) (si_and (si_G rfl) si_T) (fun _ _ _ h => h) rfl rfl rfl rfl (fun _ _ _ _ _ => (rn_move rfl (T.ev 13 rfl))) ?_; clear T ac; intro ac T
   refine fg_q (T := T) (i := 9) rfl (by kernel_rfl) (by kernel_rfl : (pbits 19 511).setIfInBounds 9 true = pbits 19 1023) (si_and (si_G rfl) si_T) (fun _ _ _ h => h) rfl rfl rfl rfl (fun _ _ _ _ _ => (rn_indexAddr (size := 4) m rfl (T.ev 1 rfl) (T.ev 0 rfl) ⟨_, Try.underlying38, by kernel_rfl⟩ rfl (by omega) (SV.at0 (by omega)))) ?_; clear T ac; intro ac T
   refine fg_q (v := (.agg #[.int .i64 x.t0, .int .i64 x.t1, .int .i64 x.s0, .int .i64 x.s1])) (T := T) (i := 10) rfl (by kernel_rfl) (by kernel_rfl : (pbits 19 1023).setIfInBounds 10 true = pbits 19 2047) (si_and (si_G rfl) si_T) (fun _ _ _ h => h) rfl rfl rfl rfl (fun B w' hD hl hS => (rn_rowat (Sp.scR4 SV (show Mem w noEx w' _ from ((MA.lft hS) (hD.wait (i := 16) (m := 17) (by kernel_rfl) (hD.wait (i := 10) (m := 16) (by kernel_rfl) hl)))) (List.nil_sublist _) hkx) rfl (T.ev 0 rfl) rfl)) ?_; clear T ac; intro ac T
   refine fg_q (T := T) (i := 11) rfl (by kernel_rfl) (by kernel_rfl : (pbits 19 2047).setIfInBounds 11 true = pbits 19 4095) (si_and (si_G rfl) si_T) (fun _ _ _ h => h) rfl rfl rfl rfl (fun _ _ _ _ _ => (rn_move rfl (T.ev 15 rfl))) ?_; clear T ac; intro ac T
   refine fg_q (T := T) (i := 12) rfl (by kernel_rfl) (by kernel_rfl : (pbits 19 4095).setIfInBounds 12 true = pbits 19 8191) (si_and (si_G rfl) si_T) (fun _ _ _ h => h) rfl rfl rfl rfl (fun _ _ _ _ _ => (rn_move rfl (T.ev 17 rfl))) ?_; clear T ac; intro ac T
   refine fg_q (T := T) (i := 13) rfl (by kernel_rfl) (by kernel_rfl : (pbits 19 8191).setIfInBounds 13 true = pbits 19 16383) (si_and (si_G rfl) si_T) (fun _ _ _ h => h) rfl rfl rfl rfl (fun _ _ _ _ _ => (rn_add rfl (T.ev 0 rfl) evc (by omega))) ?_; clear T ac; intro ac T
   refine fg_q (T := T) (i := 14) rfl (by kernel_rfl) (by kernel_rfl : (pbits 19 16383).setIfInBounds 14 true = pbits 19 32767) (si_and (si_G rfl) si_T) (fun _ _ _ h => h) rfl rfl rfl rfl (fun _ _ _ _ _ => (rn_indexAddr (size := 4) m1 rfl (T.ev 2 rfl) (T.ev 0 rfl) ⟨_, Try.underlying38, by kernel_rfl⟩ hm1 (by omega) (SV.at0 (by omega)))) ?_; clear T ac; intro ac T
   refine fg_q (v := (.agg #[.int .i64 y.t0, .int .i64 y.t1, .int .i64 y.s0, .int .i64 y.s1])) (T := T) (i := 15) rfl (by kernel_rfl) (by kernel_rfl : (pbits 19 32767).setIfInBounds 15 true = pbits 19 65535) (si_and (si_G rfl) si_T) (fun _ _ _ h => h) rfl rfl rfl rfl (fun B w' hD hl hS => (rn_rowat (Sp.scR4 SV (show Mem w noEx w' _ from ((MA.lft hS) (hD.wait (i := 16) (m := 17) (by kernel_rfl) (hD.wait (i := 15) (m := 16) (by kernel_rfl) hl)))) (List.nil_sublist _) hky) rfl (T.ev 0 rfl) rfl)) ?_; clear T ac; intro ac T
   refine fg_q (v := (.agg #[.int .i64 (k : Int), .int .i64 r, .int .i64 x.t0, .int .i64 x.t1, .int .i64 x.s0, .int .i64 x.s1, .int .i64 y.t0, .int .i64 y.t1, .int .i64 y.s0, .int .i64 y.s1])) (T := T) (i := 16) rfl (by kernel_rfl) (by kernel_rfl : (pbits 19 65535).setIfInBounds 16 true = pbits 19 131071) (si_and (si_G rfl) si_T) (fun _ _ _ h => h) rfl rfl rfl rfl (fun _ _ _ _ _ => (rn_build rfl (.cons (T.ev 14 rfl) (.cons (T.ev 9 rfl) (.cons (T.ev 5 rfl) (.cons (T.ev 0 rfl) .nil)))) (fun _ => by kernel_rfl))) ?_; clear T ac; intro ac T
   refine fgy 17 262143 ?_; intro K hK
   have hj := hJ _ _ _ none hj (grown_blw M.below) (fun r e => by cases e)
   have q1 := M.old q1 (fun h => h)
   have ho := ho.below M.below hw0
   have hn1 := Nat.le_trans hn1 M.size
   have hv : RdN _ n1 4 Au2 lvu2.length (sc lvu2) := ⟨SV.rd M (List.nil_sublist _), hv.2⟩
   have ht : (⟨(k : Int), r, x, y⟩ : Two) = twoAt (rowsOf LL) g k m := two_at hkr (by rw [← hlvu2]; exact hkx) (by rw [← hlvu2, show m + 1 = m1 by omega]; exact hky)
   have hX : (⟨(k : Int), r, x, y⟩ : Two) ∈ prsL (rowsOf LL) g := mem_prsL.2 ⟨k, m, by omega, by omega, ht⟩
   have hlen := pre_lt hp (by omega) (show m + 1 < g.length by omega)
   have hp := pre_snoc (x := ⟨_, hX⟩) hp ht (by omega)
   refine ow_yield T rfl rfl rfl rfl (T.ev 16 rfl) (.cons (T.ev 0 rfl) .nil) (hY pre ⟨_, hX⟩ _ hj hlen) ?_
   clear T M
   rintro e wc (⟨rfl, hj, hkp⟩ | ⟨rfl, hjx⟩)
   ·refine ⟨_, rfl, ?_⟩
    intro ac T
    have q1 := hkp.bk q1 hx1
    have ho := ho.kpc hkp (fun b hb => h0 b hb)
    have hv := hv.kpc hkp heb
    have hn1 := Nat.le_trans hn1 hkp.2.2.2.1
    obtain ⟨w, hwe⟩ : ∃ q : World, q = wc := ⟨_, rfl⟩
    have M : Mem w noEx wc [] := by rw [hwe]; exact Mem.init wc _
    rw [← hwe] at hv hj q1 ho hn1
    clear hwe
    obtain ⟨pre, hpe⟩ : ∃ q, q = pre ++ [⟨_, hX⟩] := ⟨_, rfl⟩
    rw [← hpe] at hp hj
    clear hpe
    refine sh_out hK _ _ (MA.mk (fun h => (no_of (by kernel_rfl) h).elim) trivial) ?_; clear hK K
    refine fg_q (v := (.bool false)) (T := T) (i := 18) rfl (by kernel_rfl) (by kernel_rfl : (pbits 19 262143).setIfInBounds 18 true = pbits 19 524287) (si_and (si_G rfl) si_T) (fun _ _ _ h => h) rfl rfl rfl rfl (fun _ _ _ _ _ => (rn_neqof (rn_not rfl (T.ev 0 rfl)) (by simp))) ?_; clear T ac; intro ac T
    refine fg_done (by kernel_rfl) ?_
    replace T := T.pick [0, 20, 21, 22, 23, 24, 25, 26] rfl
    refine nm_then ?_
    refine wp_cond_false (T.ev 0 rfl) ?_
    refine wp_skip ?_
    refine nm_blk ?_
    refine nm_then ?_
    refine wp_region_lit ?_
    refine lq T (rn_move rfl (T.ev 5 rfl)) ?_; clear T ac; intro ac T
    refine lq T (rn_add rfl (T.ev 0 rfl) evc (by omega)) ?_; clear T ac; intro ac T
    refine l_q (v := (.int .i64 ((m : Int) + 1))) (T.pick [0, 1, 2, 3, 4, 5, 6, 8, 9] rfl) rfl rfl rfl rfl (rn_assign rfl (T.ev 0 rfl)) ?_; clear T ac; intro ac T
    refine wpList_nil ?_
    replace T := T.pick [0, 4, 5, 6, 7, 8, 9] rfl
    refine nm_then ?_
    exact ⟨_, by omega, w, m + 1, pre, rfl, (by omega), hp, q1, ho, hn1, hj, hv, T.pick [1, 2, 3, 4, 0, 5, 6] rfl, M.mask [] rfl⟩
   refine ⟨_, rfl, ?_⟩
   intro ac T
   have M : Mem wc noEx wc [] := Mem.init wc _
   clear hj q1 ho hn1 hv
   refine sh_out hK _ _ (MA.mk (fun h => (no_of (by kernel_rfl) h).elim) trivial) ?_; clear hK K
   refine fg_q (v := (.bool true)) (T := T) (i := 18) rfl (by kernel_rfl) (by kernel_rfl : (pbits 19 262143).setIfInBounds 18 true = pbits 19 524287) (si_and (si_G rfl) si_T) (fun _ _ _ h => h) rfl rfl rfl rfl (fun _ _ _ _ _ => (rn_neqof (rn_not rfl (T.ev 0 rfl)) (by simp))) ?_; clear T ac; intro ac T
   refine fg_done (by kernel_rfl) ?_
   replace T := T.pick [0, 20, 21, 22, 23, 24, 25, 26] rfl
   refine nm_then ?_
   refine wp_cond_true (T.ev 0 rfl) ?_
   refine wp_ret ?_
   refine rt_blk ?_
   refine rt_then ?_
   refine rt_then ?_
   refine rt_blk ?_
   refine rt_blk ?_
   refine rt_then ?_
   refine rt_then ?_
   refine rt_blk ?_
   refine rt_0 T rfl ?_
   exact ⟨⟨_, rfl⟩, .inr ⟨_, hp ▸ prsQ_pre (by omega), hjx⟩⟩
  intro h2
  refine wp_exit ?_
  refine ex_then ?_
  refine ex_then ?_
  refine ex_hit ?_
  refine nm_blk ?_
  refine nm_then ?_
  refine wp_region_lit ?_
  refine lq T (rn_add rfl (T.ev 7 rfl) evc (by omega)) ?_; clear T ac; intro ac T
  refine l_q (v := (.int .i64 ((k : Int) + 1))) (T.pick [0, 1, 2, 3, 4, 5, 6, 7] rfl) rfl rfl rfl rfl (rn_move rfl (T.ev 0 rfl)) ?_; clear T ac; intro ac T
  refine wpList_nil ?_
  replace T := T.pick [0, 3, 4, 8] rfl
  refine nm_then ?_
  exact ⟨_, by omega, w, k + 1, pre, rfl, (by omega), (by rw [hp]; exact prsQ_row (by omega)), q1, ho, hn1, hj, T.pick [1, 2, 3, 0] rfl, M.mask [] rfl⟩
 intro h1
 refine wp_exit ?_
 refine ex_then ?_
 refine ex_then ?_
 refine ex_hit ?_
 refine nm_0 T rfl ?_
 exact ⟨⟨_, rfl⟩, .inl ⟨pre, hp.trans (prsQ_end (by omega)), hJ _ _ _ none hj (grown_blw M.below) (fun r e => by cases e)⟩⟩
end Go.Proofs.Ytlahdenlmmlplaa
end

section
/-
 Ways out of functions whose results lie in cells of one value each.
-/
namespace Go.Proofs.Ytlahdenlmmlplaa
set_option linter.unusedSimpArgs false
set_option linter.unusedVariables false
open Go.RowKit
section
variable {P : Program} {fn : Func} {R : Ending → World → Prop} {a : Act} {w0 w : World} {ex : Nat → Prop} {L : List (Nat × BA)} {n : Nat} {E : List (Nat × Value)}
theorem rt_ccc {t t' t2 : Tmp} {ty ty' ty2 : TypeId} {g g' g2 : Nat} {v v' v2 : Value} [OneTy P ty] [OneTy P ty'] [OneTy P ty2] (M : Mem w0 ex w L) (T : Tm a n E) (hr : fn.results = #[.cell t ty, .cell t' ty', .cell t2 ty2])
   (hx : a.eval (.tmp t) = .pointer (some ⟨g, 0, none⟩)) (hx' : a.eval (.tmp t') = .pointer (some ⟨g', 0, none⟩)) (hx2 : a.eval (.tmp t2) = .pointer (some ⟨g2, 0, none⟩)) (hm : (g, BA.cells [v]) ∈ L) (hm' : (g', BA.cells [v']) ∈ L) (hm2 : (g2, BA.cells [v2]) ∈ L)
   (h : R (.returned (.tuple #[v, v', v2])) w) : bodyPost P fn R .ret a w := by
 refine ⟨T.defers, .tuple #[v, v', v2], ?_, h⟩
 have hl := run_load_one (P := P) (ty := ty) (o := 0) (M.get hm) (cs := [v]) rfl
 have hl' := run_load_one (P := P) (ty := ty') (o := 0) (M.get hm') (cs := [v']) rfl
 have hl2 := run_load_one (P := P) (ty := ty2) (o := 0) (M.get hm2) (cs := [v2]) rfl
 have e : a.tmps[t]?.getD undef = .pointer (some ⟨g, 0, none⟩) := by simpa [Act.eval] using hx
 have e' : a.tmps[t']?.getD undef = .pointer (some ⟨g', 0, none⟩) := by simpa [Act.eval] using hx'
 have e2 : a.tmps[t2]?.getD undef = .pointer (some ⟨g2, 0, none⟩) := by simpa [Act.eval] using hx2
 simp [results, hr, e, e', e2, asAddr, hl, hl', hl2, Sem.run_bind]
end
end Go.Proofs.Ytlahdenlmmlplaa
end

section
/-
 voice: the least span, and the first note that does not always keep the law, walked.
-/
namespace Go.Proofs.Ytlahdenlmmlplaa
set_option linter.unusedSimpArgs false
set_option linter.unusedVariables false
open Go.RowKit Go.Shelf
theorem Mem.ge {w0 w : World} {L : List (Nat × BA)} {g : Nat} {p : BA} (M : Mem w0 noEx w L) (h : (g, p) ∈ L) : w0.heap.size ≤ g := by
 rcases (M.blk _ h).1 with h | h
 · exact h
 · exact h.elim
theorem pairs_stops (b1 n0 n1 : Nat) (eb : Nat → Prop) (l : Lw) (A : Option Addr) (c : Nat) (LL : List LS) (G : Option Addr) (d : Nat) (g : List Int) (w : World) (h01 : n0 ≤ n1) (hn1 : n1 ≤ w.heap.size) (h0 : ∀ b, b < n0 → ¬ eb b) (heb : ∀ b, eb b → b < n1) (hx1 : ¬ eb b1) (hgL : ∀ r ∈ g, 0 ≤ r ∧ r < LL.length) (hN6 : notesP (rowsOf LL) ≤ 6) (nL : LL.length ≤ 1000000) (nE : ∀ x ∈ LL, x.1.length ≤ 1000000) (nG : g.length ≤ 1000000) (hNL : ∀ x ∈ LL, x.1.length = notesP (rowsOf LL)) (gS : SGood l (rowsOf LL)) (gR : ∀ r ∈ g, 0 ≤ r ∧ r < (rowsOf LL).length)
   (q1 : Bk w b1 #[.int .i64 l.first, .int .i64 l.step, .int .i64 l.span, .int .i64 l.press, .slice A LL.length c, .slice G g.length d]) (ho : OpW w n0 A LL G g) :
   SeqStopsK (α := TwS (rowsOf LL) g) Fence.wide 7 Try.prog 105 #[.pointer (some ⟨b1, 0, none⟩)] (fun x => #[twV x.1]) (KpC eb) (fun xs => xs.map (·.1) = prsL (rowsOf LL) g) (fun pre => pre.map (·.1) <+: prsL (rowsOf LL) g) (prsL (rowsOf LL) g).length w :=
 fun lr J Jx W hW hJ _ hY hJ0 => callsIn_wide.2 (pairs1_in lr b1 n0 n1 eb l A c LL G d g J Jx W h01 (Nat.le_trans hn1 hW.size) h0 heb hx1 hgL hN6 nL nE nG hNL gS gR hJ hY (q1.below hW) (ho.below hW (Nat.le_trans h01 hn1)) hJ0)
theorem two_good {l : Lw} {R : List (List Snd)} {g : List Int} {x : Two} (gS : SGood l R) (gR : ∀ r ∈ g, 0 ≤ r ∧ r < R.length) (hx : x ∈ prsL R g) : (x.lo.good ∧ x.hi.good) ∧ (0 ≤ x.nt ∧ x.nt ≤ 6) ∧ 0 ≤ l.first + l.step * x.nt ∧ l.first + l.step * x.nt ≤ 30 := by
 obtain ⟨n, i, hn, hi, rfl⟩ := mem_prsL.1 hx
 have h6 := gS.notes
 have hd := gS.dues n hn
 simp only [dueO, decide_eq_true_eq] at hd
 have hv := voicesP_good (n := n) gS gR hn
 refine ⟨⟨hv _ (List.mem_of_getElem? (voices_at (by omega))), hv _ (List.mem_of_getElem? (voices_at hi))⟩, ⟨by show (0 : Int) ≤ (n : Int); omega, by show (n : Int) ≤ 6; omega⟩, hd⟩
theorem away_bd {l : Lw} {x : Two} (hp : 0 ≤ l.press ∧ l.press ≤ 3) (h : (x.lo.good ∧ x.hi.good)) (hd : 0 ≤ l.first + l.step * x.nt ∧ l.first + l.step * x.nt ≤ 30) : 0 ≤ awayP l x ∧ awayP l x ≤ 3000 := by
 have key : ∀ (L : List (Int × Int)) (due n : Int), (∀ y ∈ L, -1000 ≤ y.1 ∧ y.1 ≤ 1000 ∧ -1000 ≤ y.2 ∧ y.2 ≤ 1000) → 0 ≤ due ∧ due ≤ 30 → 0 ≤ n ∧ n ≤ 3000 → 0 ≤ offL due L n ∧ offL due L n ≤ 3000 := by
   intro L
   induction L with
   | nil => intro due n _ _ hn; exact hn
   | cons y r ih =>
     intro due n hy hd hn
     have := hy y List.mem_cons_self
     exact ih due _ (fun z hz => hy z (List.mem_cons_of_mem _ hz)) hd (by omega)
 exact key _ _ _ (fun y hy => by have := beatsL_bd (l := l) hp h.1 h.2 y hy; omega) hd (by omega)
def spanE (l : Lw) (R : List (List Snd)) (g : List Int) : Int × Int := if checkR l R g = 0 then (spanL l (prsL R g), 0) else (0, checkR l R g)
def badV : Option Two → (Int × Int) × Int
 | some x => ((x.nt, x.row), 0)
 | none => ((0, 0), 11)
def badE (l : Lw) (R : List (List Snd)) (g : List Int) : (Int × Int) × Int := if checkR l R g = 0 then badV (badL l (prsL R g)) else ((0, 0), checkR l R g)
theorem span_bd {l : Lw} {R : List (List Snd)} {g : List Int} (gS : SGood l R) (gR : ∀ r ∈ g, 0 ≤ r ∧ r < R.length) {P : List Two} (hP : ∀ x ∈ P, x ∈ prsL R g) : 0 ≤ spanL l P ∧ spanL l P ≤ 3000 := by
 obtain ⟨h1, -, h3⟩ := spanL_nonneg l P
 refine ⟨h1, ?_⟩
 by_cases h : 0 < spanL l P
 · obtain ⟨x, hx, e⟩ := h3 h
   obtain ⟨g1, g2, g3⟩ := two_good gS gR (hP x hx)
   have hlw := gS.law
   obtain ⟨_, _, _, hpr⟩ := hlw
   have := away_bd (l := l) (x := x) (by omega) g1 g3
   omega
 · omega
theorem opairs_any (l : Lw) (A : Option Addr) (c : Nat) (LL : List LS) (G : Option Addr) (d : Nat) (g : List Int)  (w : World)  :
   Calls Try.prog 81 #[.agg #[.int .i64 l.first, .int .i64 l.step, .int .i64 l.span, .int .i64 l.press, .slice A LL.length c, .slice G g.length d]] w fun e w' => ∃ g9, e = .returned (.func (.func 105) #[] #[.pointer (some ⟨g9, 0, none⟩)]) ∧ Mem w noEx w' [(g9, .cells [.int .i64 l.first, .int .i64 l.step, .int .i64 l.span, .int .i64 l.press, .slice A LL.length c, .slice G g.length d])] := by
 refine px_enter noEx Try.func81 rfl 4 rfl [.agg #[.int .i64 l.first, .int .i64 l.step, .int .i64 l.span, .int .i64 l.press, .slice A LL.length c, .slice G g.length d]] rfl rfl (Mem.init w _) ?_
 intro ac wc T M
 refine wp_seq ?_
 refine wp_region_lit ?_
 refine l_w rfl ?_; intro K hK
 refine ow_bx M T rfl rfl rfl rfl (T.ev 0 rfl) rfl ?_; clear M T; intro g1 wc ac M T
 refine sh_out hK _ _ ?_; clear hK K
 refine lq T (rn_assign rfl evc) ?_; clear T ac; intro ac T
 refine wpList_nil ?_
 replace T := T.pick [1] rfl
 refine nm_then ?_
 refine wp_seq ?_
 refine wp_region_lit ?_
 refine lq (v := (.func (.func 105) #[] #[.pointer (some ⟨g1, 0, none⟩)])) T (rn_makeFunc rfl .nil (.cons (T.ev 0 rfl) .nil)) ?_; clear T ac; intro ac T
 refine lq T (rn_assign rfl (T.ev 0 rfl)) ?_; clear T ac; intro ac T
 refine wpList_nil ?_
 replace T := T.pick [0] rfl
 refine nm_then ?_
 refine wp_ret ?_
 refine rt_1 T rfl (T.ev 0 rfl) ?_
 exact ⟨g1, rfl, M⟩
theorem away_any (l : Lw) (A : Option Addr) (c : Nat) (LL : List LS) (G : Option Addr) (d : Nat) (g : List Int) (x : Two) (w : World) (hp : 0 ≤ l.press ∧ l.press ≤ 3) (hf : -1000 ≤ l.first ∧ l.first ≤ 1000) (hs : -1000 ≤ l.step ∧ l.step ≤ 1000) (hn : -1000 ≤ x.nt ∧ x.nt ≤ 1000) (hd : 0 ≤ l.first + l.step * x.nt ∧ l.first + l.step * x.nt ≤ 30) (gl : x.lo.good) (gh : x.hi.good) :
   Calls Try.prog 82 #[.agg #[.int .i64 l.first, .int .i64 l.step, .int .i64 l.span, .int .i64 l.press, .slice A LL.length c, .slice G g.length d], .agg #[.int .i64 x.nt, .int .i64 x.row, .int .i64 x.lo.t0, .int .i64 x.lo.t1, .int .i64 x.lo.s0, .int .i64 x.lo.s1, .int .i64 x.hi.t0, .int .i64 x.hi.t1, .int .i64 x.hi.s0, .int .i64 x.hi.s1]] w fun e w' => e = .returned (.int .i64 (awayP l x)) ∧ Below w.heap.size w w' := by
 refine px_enter noEx Try.func82 rfl 19 rfl [.agg #[.int .i64 l.first, .int .i64 l.step, .int .i64 l.span, .int .i64 l.press, .slice A LL.length c, .slice G g.length d], .agg #[.int .i64 x.nt, .int .i64 x.row, .int .i64 x.lo.t0, .int .i64 x.lo.t1, .int .i64 x.lo.s0, .int .i64 x.lo.s1, .int .i64 x.hi.t0, .int .i64 x.hi.t1, .int .i64 x.hi.s0, .int .i64 x.hi.s1]] rfl rfl (Mem.init w _) ?_
 intro ac wc T M
 refine wp_seq ?_
 refine wp_region_lit ?_
 refine l_w rfl ?_; intro K hK
 refine ow_bx M T rfl rfl rfl rfl (T.ev 0 rfl) rfl ?_; clear M T; intro g1 wc ac M T
 refine sh_out hK _ _ ?_; clear hK K
 refine l_w rfl ?_; intro K hK
 refine ow_bx M T rfl rfl rfl rfl (T.ev 2 rfl) rfl ?_; clear M T; intro g2 wc ac M T
 refine sh_out hK _ _ ?_; clear hK K
 refine lq T (rn_assign rfl evc) ?_; clear T ac; intro ac T
 refine wpList_nil ?_
 replace T := T.pick [1, 2] rfl
 refine nm_then ?_
 refine wp_seq ?_
 refine g_start2 M (M.mask [true, true] rfl) 15 (by kernel_rfl) rfl (by kernel_rfl) ?_
 clear M; intro wc M
 refine gq (v := (.pointer (some ⟨g1, 0, none⟩))) T 0 1 rfl (fun _ _ _ _ _ => (rn_fieldAddr (off := 0) rfl (T.ev 1 rfl) (fun _ _ _ => by kernel_rfl))) ?_; clear T ac; intro ac T
 refine gq (v := (.pointer (some ⟨g1, 0, none⟩))) T 1 3 rfl (fun _ _ _ _ _ => (rn_fieldAddr (off := 0) rfl (T.ev 0 rfl) (fun _ _ _ => by kernel_rfl))) ?_; clear T ac; intro ac T
 refine gq T 2 7 rfl (fun B w' hD hl hS => (rn_rowO (Mem.nth (show Mem w noEx w' _ from hS) 1 rfl) rfl (T.ev 0 rfl) rfl)) ?_; clear T ac; intro ac T
 refine gq (v := (.pointer (some ⟨g1, 0, none⟩))) T 3 15 rfl (fun _ _ _ _ _ => (rn_fieldAddr (off := 0) rfl (T.ev 4 rfl) (fun _ _ _ => by kernel_rfl))) ?_; clear T ac; intro ac T
 refine gq (v := (.pointer (some ⟨g1, 0, none⟩))) T 4 31 rfl (fun _ _ _ _ _ => (rn_fieldAddr (off := 0) rfl (T.ev 0 rfl) (fun _ _ _ => by kernel_rfl))) ?_; clear T ac; intro ac T
 refine gq T 5 63 rfl (fun B w' hD hl hS => (rn_rowO (Mem.nth (show Mem w noEx w' _ from hS) 1 rfl) rfl (T.ev 0 rfl) rfl)) ?_; clear T ac; intro ac T
 refine gq (v := (.pointer (some ⟨g2, 0, none⟩))) T 6 127 rfl (fun _ _ _ _ _ => (rn_fieldAddr (off := 0) rfl (T.ev 6 rfl) (fun _ _ _ => by kernel_rfl))) ?_; clear T ac; intro ac T
 refine gq T 7 255 rfl (fun B w' hD hl hS => (rn_one (Mem.nth (show Mem w noEx w' _ from hS) 0 rfl) rfl (T.ev 0 rfl) rfl)) ?_; clear T ac; intro ac T
 refine gq (v := (.pointer (some ⟨g2, 2, none⟩))) T 9 767 rfl (fun _ _ _ _ _ => (rn_fieldAddr (off := 2) rfl (T.ev 8 rfl) (fun _ _ _ => by kernel_rfl))) ?_; clear T ac; intro ac T
 refine gq T 10 1791 rfl (fun B w' hD hl hS => (rn_rowO (Mem.nth (show Mem w noEx w' _ from hS) 0 rfl) rfl (T.ev 0 rfl) rfl)) ?_; clear T ac; intro ac T
 refine gq (v := (.pointer (some ⟨g2, 6, none⟩))) T 11 3839 rfl (fun _ _ _ _ _ => (rn_fieldAddr (off := 6) rfl (T.ev 10 rfl) (fun _ _ _ => by kernel_rfl))) ?_; clear T ac; intro ac T
 refine gq T 12 7935 rfl (fun B w' hD hl hS => (rn_rowO (Mem.nth (show Mem w noEx w' _ from hS) 0 rfl) rfl (T.ev 0 rfl) rfl)) ?_; clear T ac; intro ac T
 refine gw 8 8191 ?_; intro K hK
 refine ow_call (first := []) (cap := []) T rfl rfl rfl rfl evf (.cons (T.ev 6 rfl) (.cons (T.ev 4 rfl) .nil)) Try.func56 rfl rfl ?_
 refine Calls.mono (vdue_any l x.nt _ (by (try dsimp only); omega) (by (try dsimp only); omega) (by (try dsimp only); omega)) ?_
 clear T
 rintro e wc ⟨rfl, hb⟩
 intro ac T
 replace M := M.call hb; clear hb
 refine sh_out hK _ _ (M.mask [true, true] rfl) ?_; clear hK K
 refine gw 13 16383 ?_; intro K hK
 refine ow_call (first := []) (cap := []) T rfl rfl rfl rfl evf (.cons (T.ev 10 rfl) (.cons (T.ev 0 rfl) (.cons (T.ev 3 rfl) (.cons (T.ev 1 rfl) .nil)))) Try.func91 rfl rfl ?_
 refine Calls.mono (off_any l (l.first + l.step * x.nt) x.lo x.hi _ (by (try dsimp only); omega) (by (try dsimp only); omega) gl gh) ?_
 clear T
 rintro e wc ⟨rfl, hb⟩
 intro ac T
 replace M := M.call hb; clear hb
 refine sh_out hK _ _ (M.mask [true, true] rfl) ?_; clear hK K
 refine gq T 14 32767 rfl (fun _ _ _ _ _ => (rn_assign rfl (T.ev 0 rfl))) ?_; clear T ac; intro ac T
 refine g_done (by kernel_rfl) ?_
 replace T := T.pick [0] rfl
 replace M := M.mask [false, false] rfl
 refine nm_then ?_
 refine wp_ret ?_
 refine rt_1 T rfl (T.ev 0 rfl) ?_
 exact ⟨rfl, M.below⟩
set_option maxHeartbeats 4000000 in
theorem Span_any (l : Lw) (A : Option Addr) (c : Nat) (LL : List LS) (G : Option Addr) (d : Nat) (g : List Int)  (w : World) (hA : Rd w w.heap.size 1 A LL.length (lsC LL)) (hE : ElsS w LL) (nL : LL.length ≤ 1000000) (nE : ∀ x ∈ LL, x.1.length ≤ 1000000) (hG : Rd w w.heap.size 1 G g.length (ic g)) (nG : g.length ≤ 1000000)  :
   Calls Try.prog 45 #[.agg #[.int .i64 l.first, .int .i64 l.step, .int .i64 l.span, .int .i64 l.press, .slice A LL.length c], .slice G g.length d] w fun e w' => e = .returned (.tuple #[.int .i64 ((spanE l (rowsOf LL) g).1), .int .i64 ((spanE l (rowsOf LL) g).2)]) ∧ Below w.heap.size w w' := by
 obtain ⟨bA, oA, SA⟩ := Sp.old hA
 obtain ⟨bG, oG, SG⟩ := Sp.old hG
 refine px_enterM noEx Try.func45 rfl 28 rfl [.agg #[.int .i64 l.first, .int .i64 l.step, .int .i64 l.span, .int .i64 l.press, .slice A LL.length c], .slice G g.length d] rfl rfl (Mem.init w _) ?_
 intro ac wc T M
 refine wp_seq ?_
 refine wp_region_lit ?_
 refine l_w rfl ?_; intro K hK
 refine ow_bx M T rfl rfl rfl rfl (T.ev 0 rfl) rfl ?_; clear M T; intro g1 wc ac M T
 refine sh_out hK _ _ ?_; clear hK K
 refine lq T (rn_assign rfl evc) ?_; clear T ac; intro ac T
 refine lq T (rn_assign rfl evc) ?_; clear T ac; intro ac T
 refine wpList_nil ?_
 replace T := T.pick [2, 4] rfl
 refine nm_then ?_
 refine wp_seq ?_
 refine wp_seq ?_
 refine wp_region_lit ?_
 refine lq T (rn_rowO (Mem.nth M 0 rfl) rfl (T.ev 0 rfl) rfl) ?_; clear T ac; intro ac T
 refine lq T (rn_move rfl (T.ev 2 rfl)) ?_; clear T ac; intro ac T
 refine l_w rfl ?_; intro K hK
 refine ow_call (first := []) (cap := []) T rfl rfl rfl rfl evf (.cons (T.ev 1 rfl) (.cons (T.ev 0 rfl) .nil)) Try.func53 rfl rfl ?_
 refine Calls.mono (checkRegister_any l A c LL G d g _ (SA.rd M (List.nil_sublist _)) (fun x hx => M.rd (hE x hx) (Nat.le_refl _)) (by omega) nE (SG.rd M (List.nil_sublist _)) (by omega)) ?_
 clear T
 rintro e wc ⟨rfl, hb⟩
 intro ac T
 replace M := M.call hb; clear hb
 refine sh_out hK _ _ ?_; clear hK K
 refine lq T (rn_assign rfl (T.ev 0 rfl)) ?_; clear T ac; intro ac T
 refine wpList_nil ?_
 replace T := T.pick [0, 4, 5] rfl
 refine nm_then ?_
 refine wp_seq ?_
 refine wp_region_lit ?_
 refine lq T (rn_move rfl (T.ev 0 rfl)) ?_; clear T ac; intro ac T
 refine lq T (rn_neq rfl (T.ev 0 rfl) evc) ?_; clear T ac; intro ac T
 refine wpList_nil ?_
 replace T := T.pick [0, 2, 3, 4] rfl
 refine nm_then ?_
 refine wp_ifn (T.ev 0 rfl) ?_ ?_
 ·intro h1
  refine wp_seq ?_
  refine wp_region_lit ?_
  refine lq T (rn_move rfl (T.ev 1 rfl)) ?_; clear T ac; intro ac T
  refine lq T (rn_assign rfl evc) ?_; clear T ac; intro ac T
  refine lq T (rn_assign rfl (T.ev 1 rfl)) ?_; clear T ac; intro ac T
  refine wpList_nil ?_
  replace T := T.pick [0, 1] rfl
  replace M := M.mask [false] rfl
  refine nm_then ?_
  refine wp_ret ?_
  refine rt_then ?_
  refine rtM (L := []) [] T (M.perm [] rfl rfl) ?_; clear T M; intro wc ac T M
  refine rt_2 T rfl (T.ev 1 rfl) (T.ev 0 rfl) ?_
  have e9 : spanE l (rowsOf LL) g = (0, checkR l (rowsOf LL) g) := by unfold spanE; rw [if_neg (by simpa using h1)]
  rw [e9]
  exact ⟨rfl, M.below⟩
 intro h1
 obtain ⟨gS, gR⟩ := checkR_good (l := l) (R := rowsOf LL) (g := g) (by simpa using h1)
 have hgL : ∀ r ∈ g, 0 ≤ r ∧ r < LL.length := fun r hr => by have := gR r hr; rw [show (rowsOf LL).length = LL.length by simp] at this; exact this
 have hNL : ∀ x ∈ LL, x.1.length = notesP (rowsOf LL) := fun x hx => (gS.rows x.1 (List.mem_map.2 ⟨x, hx, rfl⟩)).2.1
 have hN6 := gS.notes
 have ⟨gl1, gl2, gl3, gl4⟩ := gS.law
 refine wp_skip ?_
 refine nm_then ?_
 refine wp_seq ?_
 refine wp_region_lit ?_
 refine lq T (rn_rowO (Mem.nth M 0 rfl) rfl (T.ev 2 rfl) rfl) ?_; clear T ac; intro ac T
 refine lq T (rn_move rfl (T.ev 4 rfl)) ?_; clear T ac; intro ac T
 refine lq (v := (.agg #[.int .i64 l.first, .int .i64 l.step, .int .i64 l.span, .int .i64 l.press, .slice A LL.length c, .slice G g.length d])) T (rn_build rfl (.cons (T.ev 1 rfl) (.cons (T.ev 0 rfl) .nil)) (fun _ => by kernel_rfl)) ?_; clear T ac; intro ac T
 refine l_w rfl ?_; intro K hK
 refine ow_al M T rfl rfl rfl rfl ?_; clear M T; intro g2 wc ac M T
 refine sh_out hK _ _ ?_; clear hK K
 refine l_w rfl ?_; intro K hK
 refine ow_stO M T rfl rfl (T.ev 0 rfl) (T.ev 1 rfl) rfl .head rfl (by simp) rfl (by kernel_rfl) ?_; clear M T; intro wc ac M T
 refine sh_out hK _ _ ?_; clear hK K
 refine wpList_nil ?_
 replace T := T.pick [0] rfl
 replace M := M.mask [true, false] rfl
 refine nm_then ?_
 refine wp_seq ?_
 refine wp_region_lit ?_
 refine l_w rfl ?_; intro K hK
 refine ow_al M T rfl rfl rfl rfl ?_; clear M T; intro g3 wc ac M T
 refine sh_out hK _ _ ?_; clear hK K
 refine l_w rfl ?_; intro K hK
 refine ow_stO M T rfl rfl (T.ev 0 rfl) evc rfl .head rfl (by simp) rfl (by kernel_rfl) ?_; clear M T; intro wc ac M T
 refine sh_out hK _ _ ?_; clear hK K
 refine wpList_nil ?_
 refine nm_then ?_
 refine wp_seq ?_
 refine wp_seq ?_
 refine wp_region_lit ?_
 refine lq T (rn_rowO (Mem.nth M 1 rfl) rfl (T.ev 1 rfl) rfl) ?_; clear T ac; intro ac T
 refine l_w rfl ?_; intro K hK
 refine ow_call (first := []) (cap := []) T rfl rfl rfl rfl evf (.cons (T.ev 0 rfl) .nil) Try.func81 rfl rfl ?_
 refine Calls.mono (opairs_any l A c LL G d g _) ?_
 clear T
 rintro e wc ⟨gu2, rfl, N⟩
 intro ac T
 replace M := M.join N; clear N
 replace M := M.mask [true, true, true] rfl
 refine sh_out hK _ _ ?_; clear hK K
 refine wpList_nil ?_
 replace T := T.pick [0, 2, 3] rfl
 refine nm_then ?_
 refine wp_block ?_
 have q1 := M.nth 0 rfl
 have ho : OpW wc w.heap.size A LL G g := OpW.below ⟨hA, hE, hG⟩ M.below (Nat.le_refl _)
 have hge_g3 := M.ge (nthE_mem (i := 1) rfl)
 have hlu_g3 := M.lt (nthE_mem (i := 1) rfl)
 have hge_g2 := M.ge (nthE_mem (i := 2) rfl)
 have hlu_g2 := M.lt (nthE_mem (i := 2) rfl)
 have hndg := M.nd
 simp only [List.map_cons, List.map_nil, List.nodup_cons, List.mem_cons, List.not_mem_nil, or_false, not_or] at hndg
 have hks : ∀ b, b ∈ ([g3, g2] : List Nat) → w.heap.size ≤ b ∧ b < wc.heap.size ∧ b ≠ gu2 := by
   intro b hb
   simp only [List.mem_cons, List.not_mem_nil, or_false] at hb
   rcases hb with rfl | rfl
   · exact ⟨hge_g3, hlu_g3, fun e9 => by subst e9; simp_all⟩
   · exact ⟨hge_g2, hlu_g2, fun e9 => by subst e9; simp_all⟩
 replace T := T.pick [2, 1, 0] rfl
 have hlt_g3 := M.lt (nthE_mem (i := 1) rfl)
 have hlt_g2 := M.lt (nthE_mem (i := 2) rfl)
 replace M := M.mask [false, true, true] rfl
 refine px_rangeC (α := TwS (rowsOf LL) g) (γ := Nat) (n := 28) T (T.ev 2 rfl) (enters_of Try.func105 (by kernel_rfl) rfl) (fun b => b ∈ [g3, g2]) (pairs_stops gu2 w.heap.size wc.heap.size _ l A c LL G d g _ M.size (Nat.le_refl _) (fun b h9 h8 => by have := (hks b h8).1; omega) (fun b h8 => (hks b h8).2.1) (fun h8 => (hks _ h8).2.2 rfl) hgL hN6 nL nE nG hNL gS gR q1 ho) (fun _ => rfl) (fun (pre : List (TwS (rowsOf LL) g)) (Lx : List (Nat × BA)) => Lx = [(g3, .cells [.int .i64 (spanL l (pre.map (·.1)))]), (g2, .cells [.int .i64 l.first, .int .i64 l.step, .int .i64 l.span, .int .i64 l.press, .slice A LL.length c, .slice G g.length d])]) (fun _ _ _ => False)
   (fun x => [(21, .agg #[.int .i64 x.1.nt, .int .i64 x.1.row, .int .i64 x.1.lo.t0, .int .i64 x.1.lo.t1, .int .i64 x.1.lo.s0, .int .i64 x.1.lo.s1, .int .i64 x.1.hi.t0, .int .i64 x.1.hi.t1, .int .i64 x.1.hi.s0, .int .i64 x.1.hi.s1]), (7, .pointer (some ⟨g2, 0, none⟩)), (8, .pointer (some ⟨g3, 0, none⟩)), (20, .func (.func 105) #[] #[.pointer (some ⟨gu2, 0, none⟩)])]) (fun x g4 => [(9, .pointer (some ⟨g4, 0, none⟩)), (7, .pointer (some ⟨g2, 0, none⟩)), (8, .pointer (some ⟨g3, 0, none⟩))]) (fun x g4 => [(g4, .cells [.int .i64 x.1.nt, .int .i64 x.1.row, .int .i64 x.1.lo.t0, .int .i64 x.1.lo.t1, .int .i64 x.1.lo.s0, .int .i64 x.1.lo.s1, .int .i64 x.1.hi.t0, .int .i64 x.1.hi.t1, .int .i64 x.1.hi.s0, .int .i64 x.1.hi.s1])]) ?_ ?_ ?_ M ?_ ?_ ?_ ?_ ?_ ?_ ?_ ?_
 ·rintro pre Lx rfl p hp
  rcases List.mem_cons.1 hp with rfl | hp
  · exact .inr rfl
  rcases List.mem_cons.1 hp with rfl | hp
  · exact .inr rfl
  cases hp
 ·rintro c pre Lx h
  exact h.elim
 ·rintro pre Lx rfl p hp
  exact List.mem_map.2 ⟨p, hp, rfl⟩
 ·exact rfl
 ·exact fun x => T.round1 _ rfl rfl
 ·intro x c p hp
  rcases List.mem_cons.1 hp with rfl | hp
  · rfl
  cases hp
 ·refine .inr ?_
  rintro pre Lx rfl p hp
  rcases List.mem_cons.1 hp with rfl | hp
  · exact hlt_g3
  rcases List.mem_cons.1 hp with rfl | hp
  · exact hlt_g2
  cases hp
 ·intro lp x wc K1 ac T hK1
  have M := Mem.init wc noEx
  refine ri_lit (fun _ _ h => h) rfl ?_
  refine l_w rfl ?_; intro K hK
  refine ow_al M T rfl rfl rfl rfl ?_; clear M T; intro g4 wc ac M T
  refine sh_out hK _ _ ?_; clear hK K
  refine l_w rfl ?_; intro K hK
  refine ow_stO M T rfl rfl (T.ev 0 rfl) (T.ev 1 rfl) rfl .head rfl (by simp) rfl (by kernel_rfl) ?_; clear M T; intro wc ac M T
  refine sh_out hK _ _ ?_; clear hK K
  refine wpList_nil ?_
  replace T := T.pick [0, 2, 3] rfl
  refine nm_then ?_
  exact hK1 g4 _ _ (T.pick [0, 1, 2] rfl) (M.mask [true] rfl)
 ·rintro lp pre x g4 Lx ac w hj hz hrec hlr hlt M0 hnl9 exb wc hexb hwc T M
  have hnx9 : ¬ exb g4 := by rw [hexb]; exact hnl9 _ List.mem_cons_self
  cases hj
  replace T : TmD [] ac 28 [(9, .pointer (some ⟨g4, 0, none⟩)), (7, .pointer (some ⟨g2, 0, none⟩)), (8, .pointer (some ⟨g3, 0, none⟩))] := T
  replace M : Mem w exb wc [(g3, .cells [.int .i64 (spanL l (pre.map (·.1)))]), (g2, .cells [.int .i64 l.first, .int .i64 l.step, .int .i64 l.span, .int .i64 l.press, .slice A LL.length c, .slice G g.length d])] := M
  obtain ⟨hxg, hxn, hxd⟩ := two_good gS gR x.2
  have hsb := span_bd (l := l) gS gR (P := pre.map (·.1)) (fun y hy => by obtain ⟨z, _, rfl⟩ := List.mem_map.1 hy; exact z.2)
  have hab := away_bd (l := l) (x := x.1) (by omega) hxg hxd
  refine wpIn_block ?_
  refine gi_start2 (fun _ _ h => h) rfl M (M.perm [1] rfl rfl) 6 (by kernel_rfl) rfl (by kernel_rfl) ?_
  clear M; intro wc M
  refine g_addG 5 M ?_
  refine gq T 0 1 rfl (fun B w' hD hl hS => (rn_one (Mem.nth (show Mem w exb w' _ from ((MA.lft hS) (hD.wait (i := 0) (m := 5) (by kernel_rfl) hl))) 0 rfl) rfl (T.ev 2 rfl) rfl)) ?_; clear T ac; intro ac T
  refine gq T 1 3 rfl (fun B w' hD hl hS => (rn_rowO (Mem.nth (show Mem w exb w' _ from ((MA.lft hS) (hD.wait (i := 1) (m := 5) (by kernel_rfl) hl))) 1 rfl) rfl (T.ev 2 rfl) rfl)) ?_; clear T ac; intro ac T
  refine gq T 2 7 rfl (fun B w' hD hl hS => (rn_rowO (Mem.old (show Mem w exb w' _ from ((MA.lft hS) (hD.wait (i := 2) (m := 5) (by kernel_rfl) hl))) (Mem.nth M0 0 rfl) hnx9) rfl (T.ev 2 rfl) rfl)) ?_; clear T ac; intro ac T
  refine gw 3 15 ?_; intro K hK
  refine ow_call (first := []) (cap := []) T rfl rfl rfl rfl evf (.cons (T.ev 1 rfl) (.cons (T.ev 0 rfl) .nil)) Try.func82 rfl rfl ?_
  refine Calls.mono (away_any l A c LL G d g x.1 _ (by omega) (by omega) (by omega) (by omega) hxd hxg.1 hxg.2) ?_
  clear T
  rintro e wc ⟨rfl, hb⟩
  intro ac T
  replace M := M.call hb; clear hb
  refine sh_out hK _ _ (MA.mk (fun _ => M.mask [true, true] rfl) (M.mask [false, true] rfl)) ?_; clear hK K
  refine gq T 4 31 rfl (fun _ _ _ _ _ => (rn_max2 rfl (T.ev 3 rfl) (T.ev 0 rfl))) ?_; clear T ac; intro ac T
  refine gw 5 63 ?_; intro K hK
  refine ow_stO M T rfl rfl (T.ev 7 rfl) (T.ev 0 rfl) rfl .head rfl (by simp) rfl (by kernel_rfl) ?_; clear M T; intro wc ac M T
  refine sh_out hK _ _ (MA.mk (fun h => (no_of (by kernel_rfl) h).elim) (M.mask [false, true] rfl)) ?_; clear hK K
  refine g_done (by kernel_rfl) ?_
  replace T := T.pick [6, 7] rfl
  refine nm_blk ?_
  have e9 : (max (spanL l (pre.map (·.1))) (awayP l x.1)) = spanL l ((pre ++ [x]).map (·.1)) := by rw [List.map_append]; exact (spanL_snoc l _ x.1).symm
  rw [e9] at M
  clear e9
  refine rp_nm (L := [(g3, .cells [.int .i64 (spanL l ((pre ++ [x]).map (·.1)))]), (g2, .cells [.int .i64 l.first, .int .i64 l.step, .int .i64 l.span, .int .i64 l.press, .slice A LL.length c, .slice G g.length d])]) ?_ (M.mask [true, true] rfl)
  exact rfl
 ·rintro D1 pre Lx ac wc hSd hj hz T M
  cases hj
  replace T : TmD ((([D1] : List Nat)).map dfD) ac 28 [(7, .pointer (some ⟨g2, 0, none⟩)), (8, .pointer (some ⟨g3, 0, none⟩)), (20, .func (.func 105) #[] #[.pointer (some ⟨gu2, 0, none⟩)])] := T
  have hSd : pre.map (·.1) = _ := hSd
  rw [hSd] at M
  replace T := T.pick [1] rfl
  replace M := M.mask [true, true, false] rfl
  refine nm_blk ?_
  refine nm_then ?_
  refine wp_seq ?_
  refine wp_region_lit ?_
  refine lq T (rn_one (Mem.nth M 1 rfl) rfl (T.ev 0 rfl) rfl) ?_; clear T ac; intro ac T
  refine lq T (rn_assign rfl (T.ev 0 rfl)) ?_; clear T ac; intro ac T
  refine lq T (rn_assign rfl evc) ?_; clear T ac; intro ac T
  refine wpList_nil ?_
  replace T := T.pick [0, 1] rfl
  replace M := M.mask [true, false] rfl
  refine nm_then ?_
  refine wp_ret ?_
  refine rtM (L := []) (([D1] : List Nat)) T (M.perm [0] rfl rfl) ?_; clear T M; intro wc ac T M
  refine rt_2 T rfl (T.ev 1 rfl) (T.ev 0 rfl) ?_
  have e9 : spanE l (rowsOf LL) g = (spanL l (prsL (rowsOf LL) g), 0) := by unfold spanE; rw [if_pos (by simpa using h1)]
  rw [e9]
  exact ⟨rfl, M.below⟩
 ·intro D c pre Lx ac wc hS h
  exact h.elim
set_option maxHeartbeats 4000000 in
theorem Bad_any (l : Lw) (A : Option Addr) (c : Nat) (LL : List LS) (G : Option Addr) (d : Nat) (g : List Int)  (w : World) (hA : Rd w w.heap.size 1 A LL.length (lsC LL)) (hE : ElsS w LL) (nL : LL.length ≤ 1000000) (nE : ∀ x ∈ LL, x.1.length ≤ 1000000) (hG : Rd w w.heap.size 1 G g.length (ic g)) (nG : g.length ≤ 1000000)  :
   Calls Try.prog 46 #[.agg #[.int .i64 l.first, .int .i64 l.step, .int .i64 l.span, .int .i64 l.press, .slice A LL.length c], .slice G g.length d] w fun e w' => e = .returned (.tuple #[.int .i64 ((badE l (rowsOf LL) g).1.1), .int .i64 ((badE l (rowsOf LL) g).1.2), .int .i64 ((badE l (rowsOf LL) g).2)]) ∧ Below w.heap.size w w' := by
 obtain ⟨bA, oA, SA⟩ := Sp.old hA
 obtain ⟨bG, oG, SG⟩ := Sp.old hG
 refine px_enterM noEx Try.func46 rfl 34 rfl [.agg #[.int .i64 l.first, .int .i64 l.step, .int .i64 l.span, .int .i64 l.press, .slice A LL.length c], .slice G g.length d] rfl rfl (Mem.init w _) ?_
 intro ac wc T M
 refine wp_seq ?_
 refine wp_region_lit ?_
 refine l_w rfl ?_; intro K hK
 refine ow_bx M T rfl rfl rfl rfl (T.ev 0 rfl) rfl ?_; clear M T; intro g1 wc ac M T
 refine sh_out hK _ _ ?_; clear hK K
 refine l_w rfl ?_; intro K hK
 refine ow_al M T rfl rfl rfl rfl ?_; clear M T; intro g2 wc ac M T
 refine sh_out hK _ _ ?_; clear hK K
 refine l_w rfl ?_; intro K hK
 refine ow_al M T rfl rfl rfl rfl ?_; clear M T; intro g3 wc ac M T
 refine sh_out hK _ _ ?_; clear hK K
 refine l_w rfl ?_; intro K hK
 refine ow_al M T rfl rfl rfl rfl ?_; clear M T; intro g4 wc ac M T
 refine sh_out hK _ _ ?_; clear hK K
 refine wpList_nil ?_
 replace T := T.pick [0, 1, 2, 3, 5] rfl
 refine nm_then ?_
 refine wp_seq ?_
 refine wp_seq ?_
 refine wp_region_lit ?_
 refine lq T (rn_rowO (Mem.nth M 3 rfl) rfl (T.ev 3 rfl) rfl) ?_; clear T ac; intro ac T
 refine lq T (rn_move rfl (T.ev 5 rfl)) ?_; clear T ac; intro ac T
 refine l_w rfl ?_; intro K hK
 refine ow_call (first := []) (cap := []) T rfl rfl rfl rfl evf (.cons (T.ev 1 rfl) (.cons (T.ev 0 rfl) .nil)) Try.func53 rfl rfl ?_
 refine Calls.mono (checkRegister_any l A c LL G d g _ (SA.rd M (List.nil_sublist _)) (fun x hx => M.rd (hE x hx) (Nat.le_refl _)) (by omega) nE (SG.rd M (List.nil_sublist _)) (by omega)) ?_
 clear T
 rintro e wc ⟨rfl, hb⟩
 intro ac T
 replace M := M.call hb; clear hb
 refine sh_out hK _ _ ?_; clear hK K
 refine lq T (rn_assign rfl (T.ev 0 rfl)) ?_; clear T ac; intro ac T
 refine wpList_nil ?_
 replace T := T.pick [0, 4, 5, 6, 7, 8] rfl
 refine nm_then ?_
 refine wp_seq ?_
 refine wp_region_lit ?_
 refine lq T (rn_move rfl (T.ev 0 rfl)) ?_; clear T ac; intro ac T
 refine lq T (rn_neq rfl (T.ev 0 rfl) evc) ?_; clear T ac; intro ac T
 refine wpList_nil ?_
 replace T := T.pick [0, 2, 3, 4, 5, 6, 7] rfl
 refine nm_then ?_
 refine wp_ifn (T.ev 0 rfl) ?_ ?_
 ·intro h1
  refine wp_seq ?_
  refine wp_region_lit ?_
  refine lq T (rn_move rfl (T.ev 1 rfl)) ?_; clear T ac; intro ac T
  refine l_w rfl ?_; intro K hK
  refine ow_stO M T rfl rfl (T.ev 5 rfl) evc rfl (.tail (.tail .head)) rfl (by simp) rfl (by kernel_rfl) ?_; clear M T; intro wc ac M T
  refine sh_out hK _ _ ?_; clear hK K
  refine l_w rfl ?_; intro K hK
  refine ow_stO M T rfl rfl (T.ev 4 rfl) evc rfl (.tail .head) rfl (by simp) rfl (by kernel_rfl) ?_; clear M T; intro wc ac M T
  refine sh_out hK _ _ ?_; clear hK K
  refine l_w rfl ?_; intro K hK
  refine ow_stO M T rfl rfl (T.ev 3 rfl) (T.ev 0 rfl) rfl .head rfl (by simp) rfl (by kernel_rfl) ?_; clear M T; intro wc ac M T
  refine sh_out hK _ _ ?_; clear hK K
  refine wpList_nil ?_
  replace T := T.pick [3, 4, 5] rfl
  replace M := M.mask [true, true, true, false] rfl
  refine nm_then ?_
  refine wp_ret ?_
  refine rt_then ?_
  refine rtM (L := [(g4, .cells [.int .i64 (checkR l (rowsOf LL) g)]), (g3, .cells [.int .i64 0]), (g2, .cells [.int .i64 0])]) [] T (M.perm [0, 1, 2] rfl rfl) ?_; clear T M; intro wc ac T M
  refine rt_ccc M T rfl (T.ev 2 rfl) (T.ev 1 rfl) (T.ev 0 rfl) (nthE_mem (i := 2) rfl) (nthE_mem (i := 1) rfl) (nthE_mem (i := 0) rfl) ?_
  have e9 : badE l (rowsOf LL) g = ((0, 0), checkR l (rowsOf LL) g) := by unfold badE; rw [if_neg (by simpa using h1)]
  rw [e9]
  exact ⟨rfl, M.below⟩
 intro h1
 obtain ⟨gS, gR⟩ := checkR_good (l := l) (R := rowsOf LL) (g := g) (by simpa using h1)
 have hgL : ∀ r ∈ g, 0 ≤ r ∧ r < LL.length := fun r hr => by have := gR r hr; rw [show (rowsOf LL).length = LL.length by simp] at this; exact this
 have hNL : ∀ x ∈ LL, x.1.length = notesP (rowsOf LL) := fun x hx => (gS.rows x.1 (List.mem_map.2 ⟨x, hx, rfl⟩)).2.1
 have hN6 := gS.notes
 have ⟨gl1, gl2, gl3, gl4⟩ := gS.law
 refine wp_skip ?_
 refine nm_then ?_
 refine wp_seq ?_
 refine wp_region_lit ?_
 refine lq T (rn_rowO (Mem.nth M 3 rfl) rfl (T.ev 5 rfl) rfl) ?_; clear T ac; intro ac T
 refine lq T (rn_move rfl (T.ev 7 rfl)) ?_; clear T ac; intro ac T
 refine lq (v := (.agg #[.int .i64 l.first, .int .i64 l.step, .int .i64 l.span, .int .i64 l.press, .slice A LL.length c, .slice G g.length d])) T (rn_build rfl (.cons (T.ev 1 rfl) (.cons (T.ev 0 rfl) .nil)) (fun _ => by kernel_rfl)) ?_; clear T ac; intro ac T
 refine l_w rfl ?_; intro K hK
 refine ow_al M T rfl rfl rfl rfl ?_; clear M T; intro g5 wc ac M T
 refine sh_out hK _ _ ?_; clear hK K
 refine l_w rfl ?_; intro K hK
 refine ow_stO M T rfl rfl (T.ev 0 rfl) (T.ev 1 rfl) rfl .head rfl (by simp) rfl (by kernel_rfl) ?_; clear M T; intro wc ac M T
 refine sh_out hK _ _ ?_; clear hK K
 refine wpList_nil ?_
 replace T := T.pick [0, 6, 7, 8] rfl
 replace M := M.mask [true, true, true, true, false] rfl
 refine nm_then ?_
 refine wp_seq ?_
 refine wp_seq ?_
 refine wp_region_lit ?_
 refine lq T (rn_rowO (Mem.nth M 0 rfl) rfl (T.ev 0 rfl) rfl) ?_; clear T ac; intro ac T
 refine l_w rfl ?_; intro K hK
 refine ow_call (first := []) (cap := []) T rfl rfl rfl rfl evf (.cons (T.ev 0 rfl) .nil) Try.func81 rfl rfl ?_
 refine Calls.mono (opairs_any l A c LL G d g _) ?_
 clear T
 rintro e wc ⟨gu2, rfl, N⟩
 intro ac T
 replace M := M.join N; clear N
 replace M := M.mask [true, true, true, true, true] rfl
 refine sh_out hK _ _ ?_; clear hK K
 refine wpList_nil ?_
 replace T := T.pick [0, 2, 3, 4, 5] rfl
 refine nm_then ?_
 refine wp_block ?_
 have q1 := M.nth 0 rfl
 have ho : OpW wc w.heap.size A LL G g := OpW.below ⟨hA, hE, hG⟩ M.below (Nat.le_refl _)
 have hge_g5 := M.ge (nthE_mem (i := 1) rfl)
 have hlu_g5 := M.lt (nthE_mem (i := 1) rfl)
 have hge_g4 := M.ge (nthE_mem (i := 2) rfl)
 have hlu_g4 := M.lt (nthE_mem (i := 2) rfl)
 have hge_g3 := M.ge (nthE_mem (i := 3) rfl)
 have hlu_g3 := M.lt (nthE_mem (i := 3) rfl)
 have hge_g2 := M.ge (nthE_mem (i := 4) rfl)
 have hlu_g2 := M.lt (nthE_mem (i := 4) rfl)
 have hndg := M.nd
 simp only [List.map_cons, List.map_nil, List.nodup_cons, List.mem_cons, List.not_mem_nil, or_false, not_or] at hndg
 have hks : ∀ b, b ∈ ([g5, g4, g3, g2] : List Nat) → w.heap.size ≤ b ∧ b < wc.heap.size ∧ b ≠ gu2 := by
   intro b hb
   simp only [List.mem_cons, List.not_mem_nil, or_false] at hb
   rcases hb with rfl | rfl | rfl | rfl
   · exact ⟨hge_g5, hlu_g5, fun e9 => by subst e9; simp_all⟩
   · exact ⟨hge_g4, hlu_g4, fun e9 => by subst e9; simp_all⟩
   · exact ⟨hge_g3, hlu_g3, fun e9 => by subst e9; simp_all⟩
   · exact ⟨hge_g2, hlu_g2, fun e9 => by subst e9; simp_all⟩
 replace T := T.pick [4, 3, 2, 1, 0] rfl
 have hlt_g5 := M.lt (nthE_mem (i := 1) rfl)
 have hlt_g4 := M.lt (nthE_mem (i := 2) rfl)
 have hlt_g3 := M.lt (nthE_mem (i := 3) rfl)
 have hlt_g2 := M.lt (nthE_mem (i := 4) rfl)
 replace M := M.mask [false, true, true, true, true] rfl
 refine px_rangeC (α := TwS (rowsOf LL) g) (γ := Nat) (n := 34) T (T.ev 4 rfl) (enters_of Try.func105 (by kernel_rfl) rfl) (fun b => b ∈ [g5, g4, g3, g2]) (pairs_stops gu2 w.heap.size wc.heap.size _ l A c LL G d g _ M.size (Nat.le_refl _) (fun b h9 h8 => by have := (hks b h8).1; omega) (fun b h8 => (hks b h8).2.1) (fun h8 => (hks _ h8).2.2 rfl) hgL hN6 nL nE nG hNL gS gR q1 ho) (fun _ => rfl) (fun (pre : List (TwS (rowsOf LL) g)) (Lx : List (Nat × BA)) => (badL l (pre.map (·.1)) = none) ∧ Lx = [(g5, .cells [.int .i64 l.first, .int .i64 l.step, .int .i64 l.span, .int .i64 l.press, .slice A LL.length c, .slice G g.length d]), (g4, .cells [.int .i64 0]), (g3, .cells [.int .i64 0]), (g2, .cells [.int .i64 0])]) (fun c9 pre Lx => c9 = .ret ∧ ∃ y, badL l (pre.map (·.1)) = some y ∧ Lx = [(g4, .cells [.int .i64 0]), (g3, .cells [.int .i64 y.row]), (g2, .cells [.int .i64 y.nt])])
   (fun x => [(21, .agg #[.int .i64 x.1.nt, .int .i64 x.1.row, .int .i64 x.1.lo.t0, .int .i64 x.1.lo.t1, .int .i64 x.1.lo.s0, .int .i64 x.1.lo.s1, .int .i64 x.1.hi.t0, .int .i64 x.1.hi.t1, .int .i64 x.1.hi.s0, .int .i64 x.1.hi.s1]), (4, .pointer (some ⟨g2, 0, none⟩)), (5, .pointer (some ⟨g3, 0, none⟩)), (6, .pointer (some ⟨g4, 0, none⟩)), (8, .pointer (some ⟨g5, 0, none⟩)), (20, .func (.func 105) #[] #[.pointer (some ⟨gu2, 0, none⟩)])]) (fun x g6 => [(9, .pointer (some ⟨g6, 0, none⟩)), (4, .pointer (some ⟨g2, 0, none⟩)), (5, .pointer (some ⟨g3, 0, none⟩)), (6, .pointer (some ⟨g4, 0, none⟩)), (8, .pointer (some ⟨g5, 0, none⟩))]) (fun x g6 => [(g6, .cells [.int .i64 x.1.nt, .int .i64 x.1.row, .int .i64 x.1.lo.t0, .int .i64 x.1.lo.t1, .int .i64 x.1.lo.s0, .int .i64 x.1.lo.s1, .int .i64 x.1.hi.t0, .int .i64 x.1.hi.t1, .int .i64 x.1.hi.s0, .int .i64 x.1.hi.s1])]) ?_ ?_ ?_ M ?_ ?_ ?_ ?_ ?_ ?_ ?_ ?_
 ·rintro pre Lx ⟨hb, rfl⟩ p hp
  rcases List.mem_cons.1 hp with rfl | hp
  · exact .inr rfl
  rcases List.mem_cons.1 hp with rfl | hp
  · exact .inr rfl
  rcases List.mem_cons.1 hp with rfl | hp
  · exact .inr rfl
  rcases List.mem_cons.1 hp with rfl | hp
  · exact .inr rfl
  cases hp
 ·rintro c9 pre Lx ⟨rfl, y, -, rfl⟩ p hp
  simp only [List.mem_cons, List.not_mem_nil, or_false] at hp
  rcases hp with rfl | rfl | rfl <;> exact .inr rfl
 ·rintro pre Lx ⟨hb, rfl⟩ p hp
  exact List.mem_map.2 ⟨p, hp, rfl⟩
 ·exact ⟨rfl, rfl⟩
 ·exact fun x => T.round1 _ rfl rfl
 ·intro x c p hp
  rcases List.mem_cons.1 hp with rfl | hp
  · rfl
  cases hp
 ·refine .inr ?_
  rintro pre Lx ⟨hb, rfl⟩ p hp
  rcases List.mem_cons.1 hp with rfl | hp
  · exact hlt_g5
  rcases List.mem_cons.1 hp with rfl | hp
  · exact hlt_g4
  rcases List.mem_cons.1 hp with rfl | hp
  · exact hlt_g3
  rcases List.mem_cons.1 hp with rfl | hp
  · exact hlt_g2
  cases hp
 ·intro lp x wc K1 ac T hK1
  have M := Mem.init wc noEx
  refine ri_lit (fun _ _ h => h) rfl ?_
  refine l_w rfl ?_; intro K hK
  refine ow_al M T rfl rfl rfl rfl ?_; clear M T; intro g6 wc ac M T
  refine sh_out hK _ _ ?_; clear hK K
  refine l_w rfl ?_; intro K hK
  refine ow_stO M T rfl rfl (T.ev 0 rfl) (T.ev 1 rfl) rfl .head rfl (by simp) rfl (by kernel_rfl) ?_; clear M T; intro wc ac M T
  refine sh_out hK _ _ ?_; clear hK K
  refine wpList_nil ?_
  replace T := T.pick [0, 2, 3, 4, 5] rfl
  refine nm_then ?_
  exact hK1 g6 _ _ (T.pick [0, 1, 2, 3, 4] rfl) (M.mask [true] rfl)
 ·rintro lp pre x g6 Lx ac w hj hz hrec hlr hlt M0 hnl9 exb wc hexb hwc T M
  have hnx9 : ¬ exb g6 := by rw [hexb]; exact hnl9 _ List.mem_cons_self
  obtain ⟨hb, rfl⟩ := hj
  replace T : TmD [] ac 34 [(9, .pointer (some ⟨g6, 0, none⟩)), (4, .pointer (some ⟨g2, 0, none⟩)), (5, .pointer (some ⟨g3, 0, none⟩)), (6, .pointer (some ⟨g4, 0, none⟩)), (8, .pointer (some ⟨g5, 0, none⟩))] := T
  replace M : Mem w exb wc [(g5, .cells [.int .i64 l.first, .int .i64 l.step, .int .i64 l.span, .int .i64 l.press, .slice A LL.length c, .slice G g.length d]), (g4, .cells [.int .i64 0]), (g3, .cells [.int .i64 0]), (g2, .cells [.int .i64 0])] := M
  obtain ⟨hxg, hxn, hxd⟩ := two_good gS gR x.2
  have hab := away_bd (l := l) (x := x.1) (by omega) hxg hxd
  refine wpIn_block ?_
  refine wpIn_seq ?_
  refine gi_start2 (fun _ _ h => h) rfl M (M.mask [true, true, true, true] rfl) 8 (by kernel_rfl) rfl (by kernel_rfl) ?_
  clear M; intro wc M
  refine gq T 0 1 rfl (fun B w' hD hl hS => (rn_rowO (Mem.nth (show Mem w exb w' _ from hS) 0 rfl) rfl (T.ev 4 rfl) rfl)) ?_; clear T ac; intro ac T
  refine gq T 1 3 rfl (fun B w' hD hl hS => (rn_rowO (Mem.old (show Mem w exb w' _ from hS) (Mem.nth M0 0 rfl) hnx9) rfl (T.ev 1 rfl) rfl)) ?_; clear T ac; intro ac T
  refine gq (v := (.pointer (some ⟨g5, 0, none⟩))) T 3 11 rfl (fun _ _ _ _ _ => (rn_fieldAddr (off := 0) rfl (T.ev 6 rfl) (fun _ _ _ => by kernel_rfl))) ?_; clear T ac; intro ac T
  refine gq (v := (.pointer (some ⟨g5, 0, none⟩))) T 4 27 rfl (fun _ _ _ _ _ => (rn_fieldAddr (off := 0) rfl (T.ev 0 rfl) (fun _ _ _ => by kernel_rfl))) ?_; clear T ac; intro ac T
  refine gq (v := (.pointer (some ⟨g5, 2, none⟩))) T 5 59 rfl (fun _ _ _ _ _ => (rn_fieldAddr (off := 2) rfl (T.ev 0 rfl) (fun _ _ _ => by kernel_rfl))) ?_; clear T ac; intro ac T
  refine gq T 6 123 rfl (fun B w' hD hl hS => (rn_one (Mem.nth (show Mem w exb w' _ from hS) 0 rfl) rfl (T.ev 0 rfl) rfl)) ?_; clear T ac; intro ac T
  refine gw 2 127 ?_; intro K hK
  refine ow_call (first := []) (cap := []) T rfl rfl rfl rfl evf (.cons (T.ev 5 rfl) (.cons (T.ev 4 rfl) .nil)) Try.func82 rfl rfl ?_
  refine Calls.mono (away_any l A c LL G d g x.1 _ (by omega) (by omega) (by omega) (by omega) hxd hxg.1 hxg.2) ?_
  clear T
  rintro e wc ⟨rfl, hb⟩
  intro ac T
  replace M := M.call hb; clear hb
  refine sh_out hK _ _ (M.mask [true, true, true, true] rfl) ?_; clear hK K
  refine gq T 7 255 rfl (fun _ _ _ _ _ => (rn_gtr rfl (T.ev 0 rfl) (T.ev 1 rfl))) ?_; clear T ac; intro ac T
  refine g_done (by kernel_rfl) ?_
  replace T := T.pick [0, 8, 9, 10, 11, 12] rfl
  refine nm_then ?_
  refine wi_if (T.ev 0 rfl) ?_ ?_
  ·intro h2
   refine wpIn_seq ?_
   refine gi_start2 (fun _ _ h => h) rfl M (M.perm [0] rfl rfl) 7 (by kernel_rfl) rfl (by kernel_rfl) ?_
   clear M; intro wc M
   refine g_addG 4 M ?_
   refine g_addG 5 (M.perm [0, 1, 2] rfl rfl) ?_
   refine g_addG 6 (M.perm [0, 1] rfl rfl) ?_
   refine gq (v := (.pointer (some ⟨g6, 0, none⟩))) T 0 1 rfl (fun _ _ _ _ _ => (rn_fieldAddr (off := 0) rfl (T.ev 1 rfl) (fun _ _ _ => by kernel_rfl))) ?_; clear T ac; intro ac T
   refine gq T 1 3 rfl (fun B w' hD hl hS => (rn_one (Mem.old (show Mem w exb w' _ from ((MA.lft hS) (hD.wait (i := 1) (m := 6) (by kernel_rfl) hl))) (Mem.nth M0 0 rfl) hnx9) rfl (T.ev 0 rfl) rfl)) ?_; clear T ac; intro ac T
   refine gq (v := (.pointer (some ⟨g6, 1, none⟩))) T 2 7 rfl (fun _ _ _ _ _ => (rn_fieldAddr (off := 1) rfl (T.ev 3 rfl) (fun _ _ _ => by kernel_rfl))) ?_; clear T ac; intro ac T
   refine gq T 3 15 rfl (fun B w' hD hl hS => (rn_one (Mem.old (show Mem w exb w' _ from ((MA.lft hS) (hD.wait (i := 3) (m := 6) (by kernel_rfl) hl))) (Mem.nth M0 0 rfl) hnx9) rfl (T.ev 0 rfl) rfl)) ?_; clear T ac; intro ac T
   refine gw 4 31 ?_; intro K hK
   refine ow_stO M T rfl rfl (T.ev 6 rfl) (T.ev 2 rfl) rfl (.tail (.tail (.tail .head))) rfl (by simp) rfl (by kernel_rfl) ?_; clear M T; intro wc ac M T
   refine sh_out hK _ _ (MA.mk (fun _ => M.mask [true, true, false, false] rfl) (MA.mk (fun _ => M.mask [true, true, true, false] rfl) (MA.mk (fun h => (no_of (by kernel_rfl) h).elim) (M.mask [true, false, false, false] rfl)))) ?_; clear hK K
   refine gw 5 63 ?_; intro K hK
   refine ow_stO M T rfl rfl (T.ev 7 rfl) (T.ev 0 rfl) rfl (.tail (.tail .head)) rfl (by simp) rfl (by kernel_rfl) ?_; clear M T; intro wc ac M T
   refine sh_out hK _ _ (MA.mk (fun _ => M.mask [true, true, false, false] rfl) (MA.mk (fun h => (no_of (by kernel_rfl) h).elim) (MA.mk (fun h => (no_of (by kernel_rfl) h).elim) (M.mask [true, false, false, false] rfl)))) ?_; clear hK K
   refine gw 6 127 ?_; intro K hK
   refine ow_stO M T rfl rfl (T.ev 8 rfl) evc rfl (.tail .head) rfl (by simp) rfl (by kernel_rfl) ?_; clear M T; intro wc ac M T
   refine sh_out hK _ _ (MA.mk (fun h => (no_of (by kernel_rfl) h).elim) (MA.mk (fun h => (no_of (by kernel_rfl) h).elim) (MA.mk (fun h => (no_of (by kernel_rfl) h).elim) (M.mask [true, false, false, false] rfl)))) ?_; clear hK K
   refine g_done (by kernel_rfl) ?_
   replace T := T.pick [6, 7, 8] rfl
   replace M := M.mask [false, true, true, true] rfl
   refine nm_then ?_
   refine wpIn_ret ?_
   refine rt_blk ?_
   refine rp_ret (L := [(g4, .cells [.int .i64 0]), (g3, .cells [.int .i64 x.1.row]), (g2, .cells [.int .i64 x.1.nt])]) ⟨rfl, x.1, ?_, rfl⟩ (M.perm [0, 1, 2] rfl rfl)
   rw [List.map_append]
   exact (badL_snoc x.1 hb).trans (if_pos (by omega))
  intro h2
  refine wpIn_skip ?_
  refine nm_blk ?_
  refine rp_nm (L := [(g5, .cells [.int .i64 l.first, .int .i64 l.step, .int .i64 l.span, .int .i64 l.press, .slice A LL.length c, .slice G g.length d]), (g4, .cells [.int .i64 0]), (g3, .cells [.int .i64 0]), (g2, .cells [.int .i64 0])]) ?_ (M.mask [true, true, true, true] rfl)
  exact ⟨((congrArg (badL l) List.map_append).trans ((badL_snoc x.1 hb).trans (if_neg (by omega)))), rfl⟩
 ·rintro D1 pre Lx ac wc hSd hj hz T M
  obtain ⟨hb, rfl⟩ := hj
  replace T : TmD ((([D1] : List Nat)).map dfD) ac 34 [(4, .pointer (some ⟨g2, 0, none⟩)), (5, .pointer (some ⟨g3, 0, none⟩)), (6, .pointer (some ⟨g4, 0, none⟩)), (8, .pointer (some ⟨g5, 0, none⟩)), (20, .func (.func 105) #[] #[.pointer (some ⟨gu2, 0, none⟩)])] := T
  have hSd : pre.map (·.1) = _ := hSd
  rw [hSd] at hb
  replace T := T.pick [0, 1, 2] rfl
  replace M := M.mask [true, false, true, true, true] rfl
  refine nm_blk ?_
  refine nm_then ?_
  refine wp_seq ?_
  refine wp_region_lit ?_
  refine l_w rfl ?_; intro K hK
  refine ow_stO M T rfl rfl (T.ev 0 rfl) evc rfl (.tail (.tail (.tail .head))) rfl (by simp) rfl (by kernel_rfl) ?_; clear M T; intro wc ac M T
  refine sh_out hK _ _ ?_; clear hK K
  refine l_w rfl ?_; intro K hK
  refine ow_stO M T rfl rfl (T.ev 1 rfl) evc rfl (.tail (.tail .head)) rfl (by simp) rfl (by kernel_rfl) ?_; clear M T; intro wc ac M T
  refine sh_out hK _ _ ?_; clear hK K
  refine l_w rfl ?_; intro K hK
  refine ow_stO M T rfl rfl (T.ev 2 rfl) evc rfl (.tail .head) rfl (by simp) rfl (by kernel_rfl) ?_; clear M T; intro wc ac M T
  refine sh_out hK _ _ ?_; clear hK K
  refine wpList_nil ?_
  refine nm_then ?_
  refine wp_ret ?_
  refine rtM (L := [(g4, .cells [.int .i64 11]), (g3, .cells [.int .i64 0]), (g2, .cells [.int .i64 0])]) (([D1] : List Nat)) T (M.perm [1, 2, 3, 0] rfl rfl) ?_; clear T M; intro wc ac T M
  refine rt_ccc M T rfl (T.ev 0 rfl) (T.ev 1 rfl) (T.ev 2 rfl) (nthE_mem (i := 2) rfl) (nthE_mem (i := 1) rfl) (nthE_mem (i := 0) rfl) ?_
  have e9 : badE l (rowsOf LL) g = ((0, 0), 11) := by unfold badE; rw [if_pos (by simpa using h1), hb]; rfl
  rw [e9]
  exact ⟨rfl, M.below⟩
 ·rintro D1 c9 pre Lx ac wc hSp ⟨rfl, y, hby, rfl⟩ hz T M
  replace T : TmD ((([D1] : List Nat)).map dfD) ac 34 [(4, .pointer (some ⟨g2, 0, none⟩)), (5, .pointer (some ⟨g3, 0, none⟩)), (6, .pointer (some ⟨g4, 0, none⟩)), (8, .pointer (some ⟨g5, 0, none⟩)), (20, .func (.func 105) #[] #[.pointer (some ⟨gu2, 0, none⟩)])] := T
  replace M : Mem w noEx wc [(D1, dfA), (g4, .cells [.int .i64 0]), (g3, .cells [.int .i64 y.row]), (g2, .cells [.int .i64 y.nt])] := M
  refine wp_ret ?_
  refine rt_blk ?_
  refine rt_then ?_
  refine rtM (L := [(g4, .cells [.int .i64 0]), (g3, .cells [.int .i64 y.row]), (g2, .cells [.int .i64 y.nt])]) (([D1] : List Nat)) T (M.perm [1, 2, 3, 0] rfl rfl) ?_; clear T M; intro wc ac T M
  refine rt_ccc M T rfl (T.ev 0 rfl) (T.ev 1 rfl) (T.ev 2 rfl) (nthE_mem (i := 2) rfl) (nthE_mem (i := 1) rfl) (nthE_mem (i := 0) rfl) ?_
  have e9 : badE l (rowsOf LL) g = ((y.nt, y.row), 0) := by unfold badE; rw [if_pos (by simpa using h1), badL_pre hby hSp]; rfl
  rw [e9]
  exact ⟨rfl, M.below⟩
end Go.Proofs.Ytlahdenlmmlplaa
end

section
/-
 reed: After.
-/
namespace Go.Proofs.Ytlahdenlmmlplaa
set_option linter.unusedSimpArgs false
set_option linter.unusedVariables false
open Go.RowKit
def St.tongue (s : St) : Array Value := #[.int .i64 s.p0, .int .i64 s.p1, .int .i64 s.t0, .int .i64 s.t1, .int .i64 s.r0, .int .i64 s.r1]
def tongue0 : Array Value := #[.int .i64 0, .int .i64 0, .int .i64 0, .int .i64 0, .int .i64 0, .int .i64 0]
def afterC (j : Jb) (l : List Int) : Array Value := if checkStrokesJ j l = 0 then (j.st.after l).tongue else tongue0
end Go.Proofs.Ytlahdenlmmlplaa
end

section
/-
 reed: Passes and Worst.
-/
namespace Go.Proofs.Ytlahdenlmmlplaa
set_option linter.unusedSimpArgs false
set_option linter.unusedVariables false
open Go.RowKit
def passesT (j : Jb) : Int × Int := if checkJ j = 0 then (passesJ j j.p0 j.p1, 0) else (0, checkJ j)
def wstep (p0 p1 : Int) (out : Int) (s : Int × Int) : Int := if (if out < -(p0 + s.1) then -(p0 + s.1) else out) < p1 + s.2 then p1 + s.2 else if out < -(p0 + s.1) then -(p0 + s.1) else out
def worstF (p0 p1 : Int) (sh : List (Int × Int)) : Int := (if sh = [] then [(0, 0)] else sh).foldl (wstep p0 p1) 0
def worstT (j : Jb) (l : List Int) : Int × Int := if checkStrokesJ j l = 0 then (worstF (j.st.after l).p0 (j.st.after l).p1 j.sh, 0) else (0, checkStrokesJ j l)
end Go.Proofs.Ytlahdenlmmlplaa
end

section
/-
 reed: Window.
-/
namespace Go.Proofs.Ytlahdenlmmlplaa
set_option linter.unusedSimpArgs false
set_option linter.unusedVariables false
open Go.RowKit
def windowJ (j : Jb) : (Int × Int) × Int := if checkJ j = 0 then (if (winS j).2 < (winS j).1 then ((0, 0), 11) else (winS j, 0)) else ((0, 0), checkJ j)
end Go.Proofs.Ytlahdenlmmlplaa
end

section
/-
 Plain laws: windows, deviations, and verdicts.
-/
namespace Go.Proofs.Ytlahdenlmmlplaa
set_option linter.unusedSimpArgs false
set_option linter.unusedVariables false
def shx (sh : List (Int × Int)) : List (Int × Int) := if sh = [] then [(0, 0)] else sh
end Go.Proofs.Ytlahdenlmmlplaa
end

section
/-
 ref1: shifts, windows, what passes, what is heard.
-/
namespace Go.Proofs.Ytlahdenlmmlplaa
set_option linter.unusedSimpArgs false
set_option linter.unusedVariables false
open Go.RowKit
def ShPost (j : Jb) (A : Option Addr) (w : World) (e : Ending) (w' : World) : Prop := ∃ A' c' I, e = .returned (.slice A' (shx j.sh).length c') ∧ ((A' = A ∧ I = [] ∧ shx j.sh = j.sh) ∨ ∃ g, A' = some ⟨g, 0, none⟩ ∧ I = [(g, .cells (rc (shx j.sh)))]) ∧ Mem w noEx w' I
theorem Sp.shx {w : World} {ex : Nat → Prop} {A A' : Option Addr} {j : Jb} {b o : Nat} {I : List (Nat × BA)} (S : Sp w ex [] A j.sh.length 2 b o (rc j.sh)) (h : (A' = A ∧ I = [] ∧ shx j.sh = j.sh) ∨ ∃ g, A' = some ⟨g, 0, none⟩ ∧ I = [(g, .cells (rc (shx j.sh)))]) :
   ∃ b' o', Sp w ex I A' (shx j.sh).length 2 b' o' (rc (shx j.sh)) := by
 rcases h with ⟨rfl, rfl, e⟩ | ⟨g, rfl, rfl⟩
 · rw [e]; exact ⟨b, o, S⟩
 · exact ⟨g, 0, Sp.cells (rc_length _)⟩
def wF (wi : Int) (l : List (Int × Int)) (x : Int × Int) : Int × Int := l.foldl (fun x s => (max x.1 (-wi - s.1), min x.2 (wi - s.2))) x
def rwin (j : Jb) : Int × Int := wF j.wi (shx j.sh) (-j.wi - ((shx j.sh)[0]?.getD (0, 0)).1, j.wi - ((shx j.sh)[0]?.getD (0, 0)).2)
def windowR (j : Jb) : (Int × Int) × Int := if checkJ j = 0 then (if (rwin j).2 < (rwin j).1 then ((0, 0), 11) else (rwin j, 0)) else ((0, 0), checkJ j)
def canAt (j : Jb) (p : Int) : Bool := (shx j.sh).all fun s => decide (-j.wi ≤ p + s.2) && decide (p + s.1 ≤ j.wi)
def anyN (f : Int → Bool) : Nat → Int → Bool
 | 0, _ => false
 | n + 1, p => f p || anyN f n (p + 1)
def rpass (j : Jb) (p0 p1 : Int) : Int := if hasB (rwin j).1 (rwin j).2 p0 p1 = true then 1 else if anyN (canAt j) (p1 + 1 - p0).toNat p0 = true then 3 else 2
end Go.Proofs.Ytlahdenlmmlplaa
end

section
/-
 kit: whether ranges and jobs are the same; reed.Hear.
-/
namespace Go.Proofs.Ytlahdenlmmlplaa
set_option linter.unusedSimpArgs false
set_option linter.unusedVariables false
open Go.RowKit
theorem eqT40 {x y : Operand} {a0 a1 b0 b1 : Int} {w : World} : (do eqGuard .eql 40 x y (.agg #[.int .i64 a0, .int .i64 a1]) (.agg #[.int .i64 b0, .int .i64 b1]); binOp .eql 40 (.agg #[.int .i64 a0, .int .i64 a1]) (.agg #[.int .i64 b0, .int .i64 b1]) : Sem Value).run Try.prog w = .ok (.bool ((decide (a0 = b0) && decide (a1 = b1)))) w := by
 go_simp
 (repeat' split) <;> simp_all
theorem same_start {α : Type} [DecidableEq α] (l r : List α) : decide (l = r) = (decide ((l.length : Int) = (r.length : Int)) && decide (l.drop 0 = r.drop 0)) := by
 by_cases h : l = r
 · subst h; simp
 · simp [h]
theorem same_next {x y x' y' : Int} {l r : List (Int × Int)} : decide ((x, y) :: l = (x', y') :: r) = ((decide (x = x') && decide (y = y')) && decide (l = r)) := by
 by_cases h1 : x = x' <;> by_cases h2 : y = y' <;> simp [h1, h2]
theorem sameRanges_any (A D : Option Addr) (n m c d : Nat) (l r : List (Int × Int)) (w : World) (hr : Rd w w.heap.size 2 A n (rc l)) (hs : Rd w w.heap.size 2 D m (rc r)) (hn : n ≤ 9223372036854775807) (hm : m ≤ 9223372036854775807) :
   Calls Try.prog 26 #[.slice A n c, .slice D m d] w fun e w' => e = .returned (.bool (decide (l = r))) ∧ Below w.heap.size w w' := by
 have hl := hr.len2
 have hl2 := hs.len2
 obtain ⟨bJ, oJ, SJ⟩ := Sp.old hr
 obtain ⟨bI, oI, SI⟩ := Sp.old hs
 refine px_enter noEx Try.func26 rfl 31 rfl [.slice A n c, .slice D m d] rfl rfl (Mem.init w _) ?_
 intro ac wc T M
 refine wp_seq ?_
 refine wp_region_lit ?_
 refine lq T (rn_assign rfl evc) ?_; clear T ac; intro ac T
 refine wpList_nil ?_
 replace T := T.pick [1, 2] rfl
 refine nm_then ?_
 refine wp_seq ?_
 refine wp_region_lit ?_
 refine lq T (rn_move rfl (T.ev 0 rfl)) ?_; clear T ac; intro ac T
 refine lq T (rn_lenS rfl Try.underlying50 (T.ev 0 rfl)) ?_; clear T ac; intro ac T
 refine lq T (rn_move rfl (T.ev 3 rfl)) ?_; clear T ac; intro ac T
 refine lq T (rn_lenS rfl Try.underlying50 (T.ev 0 rfl)) ?_; clear T ac; intro ac T
 refine lq T (rn_eql rfl (T.ev 2 rfl) (T.ev 0 rfl)) ?_; clear T ac; intro ac T
 refine lq T (rn_assign rfl (T.ev 0 rfl)) ?_; clear T ac; intro ac T
 refine wpList_nil ?_
 replace T := T.pick [0, 6, 7] rfl
 refine nm_then ?_
 refine wp_seq ?_
 refine wp_seq ?_
 refine wp_region_lit ?_
 refine lq T (rn_assign rfl evc) ?_; clear T ac; intro ac T
 refine wpList_nil ?_
 refine nm_then ?_
 refine wp_block ?_
 refine wp_loop_n (fun mz ac wc => ∃ (k : Nat) (b : Bool), mz = n - k ∧ (k ≤ n) ∧ (b = true → n = m) ∧ (decide (l = r) = (b && decide (l.drop k = r.drop k))) ∧ Tm ac 31 [(0, .slice A n c), (1, .slice D m d), (5, .bool b), (6, .int .i64 (k : Int))] ∧ Mem w noEx wc []) ?_ ?_
 ·exact ⟨_, 0, _, rfl, (by omega), (fun h => by have := of_decide_eq_true h; omega), (by rw [same_start l r, hl, hl2]), T.pick [2, 3, 1, 0] rfl, M.mask [] rfl⟩
 clear T M
 rintro mz ac wc ⟨k, b, hmm1, hk, hb, H, T, M⟩
 refine wp_seq ?_
 refine cut_seq (fun ac wc => Tm ac 31 [(0, .slice A n c), (1, .slice D m d), (5, .bool b), (6, .int .i64 (k : Int)), (18, .bool (b && (decide ((k : Int) < ((n : Nat) : Int)))))] ∧ Mem w noEx wc []) ?_ ?_
 ·refine wp_region_lit ?_
  refine lq T (rn_move rfl (T.ev 2 rfl)) ?_; clear T ac; intro ac T
  refine lq T (rn_move rfl (T.ev 0 rfl)) ?_; clear T ac; intro ac T
  rcases Bool.eq_false_or_eq_true b with h1 | h1
  ·refine lw T (wanted_yes rfl rfl (T.ev 0 rfl) h1) (rn_move rfl (T.ev 5 rfl)) ?_; clear T ac; intro ac T
   refine lw T (wanted_yes rfl rfl (T.ev 1 rfl) h1) (rn_move rfl (T.ev 3 rfl)) ?_; clear T ac; intro ac T
   refine lw T (wanted_yes rfl rfl (T.ev 2 rfl) h1) (rn_lenS rfl Try.underlying50 (T.ev 0 rfl)) ?_; clear T ac; intro ac T
   refine lw T (wanted_yes rfl rfl (T.ev 3 rfl) h1) (rn_lss rfl (T.ev 2 rfl) (T.ev 0 rfl)) ?_; clear T ac; intro ac T
   refine lq T (rn_pick1 rfl (T.ev 4 rfl) h1 (T.ev 0 rfl)) ?_; clear T ac; intro ac T
   refine wpList_nil ?_
   replace T := T.pick [0, 1, 2, 3, 4, 7, 8, 9, 10] rfl
   exact ⟨(T.pick (E' := [(0, .slice A n c), (1, .slice D m d), (5, .bool b), (6, .int .i64 (k : Int)), (18, .bool (decide ((k : Int) < ((n : Nat) : Int))))]) [5, 6, 7, 8, 0] rfl).as (by (try rw [show b = true from h1]); (try rfl)), M.mask [] rfl⟩
  refine lp T (wanted_no rfl rfl (T.ev 0 rfl) h1) ?_; clear T ac; intro ac T
  refine lp T (wanted_no rfl rfl (T.ev 1 rfl) h1) ?_; clear T ac; intro ac T
  refine lp T (wanted_no rfl rfl (T.ev 2 rfl) h1) ?_; clear T ac; intro ac T
  refine lp T (wanted_no rfl rfl (T.ev 3 rfl) h1) ?_; clear T ac; intro ac T
  refine lq T (rn_pick0 rfl (T.ev 4 rfl) h1 evc) ?_; clear T ac; intro ac T
  refine wpList_nil ?_
  replace T := T.pick [0, 1, 2, 3, 4, 7, 8, 9, 10] rfl
  exact ⟨(T.pick (E' := [(0, .slice A n c), (1, .slice D m d), (5, .bool b), (6, .int .i64 (k : Int)), (18, .bool false)]) [5, 6, 7, 8, 0] rfl).as (by (try rw [show b = false from h1]); (try rfl)), M.mask [] rfl⟩
 clear T M
 rintro ac wc ⟨T, M⟩
 refine wp_cond_split (T.ev 4 rfl) ?_ ?_
 ·intro h2
  (try have h2' := h2; try simp only [Bool.and_eq_true, Bool.or_eq_true, Bool.not_eq_true', Bool.and_eq_false_imp, Bool.or_eq_false_iff, decide_eq_true_eq, decide_eq_false_iff_not] at h2')
  have h1 : b = true ∧ (k : Int) < (n : Int) := by simpa using h2
  have hnm := hb h1.1
  obtain ⟨x0, x1, hk1, hd⟩ := rc_next (l := l) (k := k) (by omega)
  obtain ⟨y0, y1, hk2, hd2⟩ := rc_next (l := r) (k := k) (by omega)
  rw [hd, hd2, h1.1, Bool.true_and, same_next] at H
  refine wp_skip ?_
  refine nm_then ?_
  refine wp_seq ?_
  refine wp_block ?_
  refine g_start2 M (M.mask [] rfl) 10 (by kernel_rfl) rfl (by kernel_rfl) ?_
  clear M; intro wc M
  refine gq T 0 1 rfl (fun _ _ _ _ _ => (rn_move rfl (T.ev 0 rfl))) ?_; clear T ac; intro ac T
  refine gq T 1 3 rfl (fun _ _ _ _ _ => (rn_move rfl (T.ev 4 rfl))) ?_; clear T ac; intro ac T
  refine gq T 2 7 rfl (fun _ _ _ _ _ => (rn_indexAddr (size := 2) k rfl (T.ev 1 rfl) (T.ev 0 rfl) ⟨_, Try.underlying50, by kernel_rfl⟩ rfl (by omega) (SJ.at0 (by omega)))) ?_; clear T ac; intro ac T
  refine gq (v := (.agg #[.int .i64 x0, .int .i64 x1])) T 3 15 rfl (fun B w' hD hl hS => (rn_rowat (Sp.rcR SJ (show Mem w noEx w' _ from hS) (List.nil_sublist _) hk1) rfl (T.ev 0 rfl) rfl)) ?_; clear T ac; intro ac T
  refine gq T 4 31 rfl (fun _ _ _ _ _ => (rn_move rfl (T.ev 5 rfl))) ?_; clear T ac; intro ac T
  refine gq T 5 63 rfl (fun _ _ _ _ _ => (rn_move rfl (T.ev 8 rfl))) ?_; clear T ac; intro ac T
  refine gq T 6 127 rfl (fun _ _ _ _ _ => (rn_indexAddr (size := 2) k rfl (T.ev 1 rfl) (T.ev 0 rfl) ⟨_, Try.underlying50, by kernel_rfl⟩ rfl (by omega) (SI.at0 (by omega)))) ?_; clear T ac; intro ac T
  refine gq (v := (.agg #[.int .i64 y0, .int .i64 y1])) T 7 255 rfl (fun B w' hD hl hS => (rn_rowat (Sp.rcR SI (show Mem w noEx w' _ from hS) (List.nil_sublist _) hk2) rfl (T.ev 0 rfl) rfl)) ?_; clear T ac; intro ac T
  refine gq (v := (.bool ((decide (x0 = y0)) && (decide (x1 = y1))))) T 8 511 rfl (fun _ _ _ _ _ => (rn_bin rfl (T.ev 4 rfl) (T.ev 0 rfl) eqT40)) ?_; clear T ac; intro ac T
  refine g_q (v := (.bool ((decide (x0 = y0)) && (decide (x1 = y1))))) (T := T.pick [0, 1, 2, 3, 4, 5, 6, 7, 8, 9, 10, 12, 13] rfl) (i := 9) rfl (by kernel_rfl) (by kernel_rfl : (pbits 10 511).setIfInBounds 9 true = pbits 10 1023) si_U (fun _ _ _ h => h) rfl rfl rfl rfl (fun _ _ _ _ _ => (rn_assign rfl (T.ev 0 rfl))) ?_; clear T ac; intro ac T
  refine g_done (by kernel_rfl) ?_
  replace T := T.pick [0, 10, 11, 12] rfl
  refine nm_blk ?_
  refine nm_then ?_
  refine wp_region_lit ?_
  refine lq T (rn_move rfl (T.ev 3 rfl)) ?_; clear T ac; intro ac T
  refine lq T (rn_add rfl (T.ev 0 rfl) evc (by omega)) ?_; clear T ac; intro ac T
  refine l_q (v := (.int .i64 ((k : Int) + 1))) (T.pick [0, 1, 2, 3, 4] rfl) rfl rfl rfl rfl (rn_assign rfl (T.ev 0 rfl)) ?_; clear T ac; intro ac T
  refine wpList_nil ?_
  replace T := T.pick [0, 3, 4, 5] rfl
  refine nm_then ?_
  exact ⟨_, by omega, k + 1, _, rfl, (by omega), (fun _ => hnm), H, T.pick [2, 3, 1, 0] rfl, M.mask [] rfl⟩
 intro h2
 (try have h2' := h2; try simp only [Bool.and_eq_true, Bool.or_eq_true, Bool.not_eq_true', Bool.and_eq_false_imp, Bool.or_eq_false_iff, decide_eq_true_eq, decide_eq_false_iff_not] at h2')
 refine wp_exit ?_
 refine ex_then ?_
 refine ex_then ?_
 refine ex_hit ?_
 refine nm_then ?_
 refine wp_seq ?_
 refine wp_region_lit ?_
 refine lq T (rn_move rfl (T.ev 2 rfl)) ?_; clear T ac; intro ac T
 refine lq T (rn_assign rfl (T.ev 0 rfl)) ?_; clear T ac; intro ac T
 refine wpList_nil ?_
 replace T := T.pick [0] rfl
 refine nm_then ?_
 refine wp_ret ?_
 refine rt_1 T rfl (T.ev 0 rfl) ?_
 refine ⟨ret_bool ?_, M.below⟩
 rw [H]
 rcases Bool.eq_false_or_eq_true b with hb1 | hb1
 · have hnm := hb hb1
   have : ¬ ((k : Int) < (n : Int)) := by intro hc; simp [hb1, hc] at h2
   rw [List.drop_of_length_le (by omega), List.drop_of_length_le (by omega)]
   simp [hb1]
 · simp [hb1]
theorem sameRanges_same (A D : Option Addr) (n m c d : Nat) (l : List (Int × Int)) (w : World) (hr : Rd w w.heap.size 2 A n (rc l)) (hs : Rd w w.heap.size 2 D m (rc l)) (hn : n ≤ 9223372036854775807) (hm : m ≤ 9223372036854775807) :
   Calls Try.prog 26 #[.slice A n c, .slice D m d] w fun e w' => e = .returned (.bool true) ∧ Below w.heap.size w w' := by
 have := sameRanges_any A D n m c d l l w hr hs hn hm
 simpa using this
def hearT (j : Jb) (r : Int) : (Int × Int) × Int := if checkJ j = 0 then (if withinB r (j.p0 - j.me) (j.p1 + j.me) = true then (meetL (j.p0, j.p1) [(r - j.me, r + j.me)], 0) else ((0, 0), 9)) else ((0, 0), checkJ j)
end Go.Proofs.Ytlahdenlmmlplaa
end

section
/-
 reed: a game begins.
-/
namespace Go.Proofs.Ytlahdenlmmlplaa
set_option linter.unusedSimpArgs false
set_option linter.unusedVariables false
open Go.RowKit
abbrev gmA (j : Jb) (A : Option Addr) (c : Nat) (s0 s1 : Int) (bg bx : Nat) : List Value := [.int .i64 j.p0, .int .i64 j.p1, .int .i64 j.t0, .int .i64 j.t1, .int .i64 j.r0, .int .i64 j.r1, .int .i64 j.u0, .int .i64 j.u1, .int .i64 j.d0, .int .i64 j.d1, .int .i64 j.a0, .int .i64 j.a1, .int .i64 j.b0, .int .i64 j.b1, .int .i64 j.le, .slice A j.sh.length c, .int .i64 j.wi, .int .i64 j.me, .int .i64 s0, .int .i64 s1, .func (.func 126) #[] #[.pointer (some ⟨bg, 0, none⟩), .pointer (some ⟨bx, 0, none⟩)]]
def PlayPost (j : Jb) (A : Option Addr) (c : Nat) (s0 s1 : Int) (ok : Value → Value → Prop) (w : World) (e : Ending) (w' : World) : Prop :=
 ∃ bg bx bm, e = .returned (.agg (gmA j A c s0 s1 bg bx).toArray) ∧ Mem w noEx w' [(bx, .cells [.map (some bm)]), (bm, .any (memoQ Try.prog 173 ok)), (bg, .cells (gmA j A c s0 s1 bg bx))]
theorem play_any (ok : Value → Value → Prop) (j : Jb) (A : Option Addr) (c : Nat) (w : World) (hj : j.ok) (hr : Rd w w.heap.size 2 A j.sh.length (rc j.sh)) :
   Calls Try.prog 116 #[jobV j A c] w (PlayPost j A c (winS j).1 (winS j).2 ok w) := by
 have HR := Lib.hid hr
 have HJ := Lib.hid hj
 clear hr hj
 go_enter Try.func116, Try.ntmps116
 refine start noEx ?_
 intro wc M
 go_wp2_with (first | (refine m_ld1 M rfl rfl rfl (by (repeat' (first | exact List.mem_cons_self | refine List.mem_cons_of_mem _ ?_))) (by rfl) ?_) | (refine m_ldr M rfl rfl rfl (by (repeat' (first | exact List.mem_cons_self | refine List.mem_cons_of_mem _ ?_))) (by (try simp only [List.take_succ_cons, List.take_zero, List.take_nil, List.drop_succ_cons, List.drop_zero, List.drop_nil, List.cons_append, List.nil_append, List.append_nil, List.length_cons, List.length_nil, Nat.reduceAdd, Nat.zero_add, Nat.add_zero]); rfl) (by rfl) ?_) | (refine m_st M rfl rfl rfl (by first | exact (rfl : _ = Value.agg _) | exact (rfl : _ = Value.int _ _) | exact (rfl : _ = Value.bool _) | exact (rfl : _ = Value.slice _ _ _) | exact (rfl : _ = Value.pointer _) | exact (rfl : _ = Value.map _) | exact (rfl : _ = Value.func _ _ _) | exact (rfl : _ = Value.string _)) (by rfl) (by (repeat (first | exact Upd.head | apply Upd.tail))) (by (try simp only [List.take_succ_cons, List.take_zero, List.take_nil, List.drop_succ_cons, List.drop_zero, List.drop_nil, List.cons_append, List.nil_append, List.append_nil, List.length_cons, List.length_nil, Nat.reduceAdd, Nat.zero_add, Nat.add_zero]); rfl) (by simp) (by simp [Value.oneCell']) (by kernel_rfl) ?_; clear M; (try clear wc); intro wc M) | (refine m_al M rfl rfl ?_; clear M; (try clear wc); intro g wc M) | (refine m_bx M rfl rfl (by first | exact (rfl : _ = Value.agg _) | exact (rfl : _ = Value.int _ _) | exact (rfl : _ = Value.bool _) | exact (rfl : _ = Value.slice _ _ _) | exact (rfl : _ = Value.pointer _) | exact (rfl : _ = Value.map _) | exact (rfl : _ = Value.func _ _ _) | exact (rfl : _ = Value.string _)) (by rfl) ?_; clear M; (try clear wc); intro g wc M) | (go_at_call 110; ((with_reducible refine (windows_any j _ _ _ HJ.out ?_).mono ?_); (exact M.rd HR.out (Nat.le_refl _)); rintro e wc ⟨rfl, hb⟩; replace M := M.call hb; clear hb)) | (refine mm ok Try.underlying177 M rfl rfl ?_; clear M; (try clear wc); intro g wc M))
 refine ret_M (t := 2) (ty := 168) M rfl rfl rfl (by (repeat' (first | exact List.mem_cons_self | refine List.mem_cons_of_mem _ ?_))) (by rfl) ?_
 rename_i g5 g4 wq g3 g2 g1 g0
 exact ⟨g1, g, g0, rfl, M.sub (by (repeat (first | exact List.Sublist.slnil | apply List.Sublist.cons_cons | apply List.Sublist.cons)))⟩
end Go.Proofs.Ytlahdenlmmlplaa
end

section
/-
 reed: what can be known when a meter has been read, one after the other.
-/
namespace Go.Proofs.Ytlahdenlmmlplaa
set_option linter.unusedSimpArgs false
set_option linter.unusedVariables false
open Go.RowKit Go.Shelf
attribute [local go_sem] Oper.semAt_some
def rdg (p0 p1 m : Int) (k : Nat) : Int × Int := mstep (p0, p1) (p0 - m + k - m, p0 - m + k + m)
def rdN (p0 p1 m : Int) : Nat := (p1 + m - (p0 - m) + 1).toNat
def rdgs (p0 p1 m : Int) : List (Int × Int) := (List.range (rdN p0 p1 m)).map (rdg p0 p1 m)
theorem rdgs_length (p0 p1 m : Int) : (rdgs p0 p1 m).length = rdN p0 p1 m := by simp [rdgs]
theorem rdgs_take (p0 p1 m : Int) (k : Nat) (h : k < rdN p0 p1 m) : (rdgs p0 p1 m).take (k + 1) = (rdgs p0 p1 m).take k ++ [rdg p0 p1 m k] := by
 rw [List.take_succ_eq_append_getElem (by rw [rdgs_length]; exact h)]
 simp [rdgs]
theorem rdg_bd {p0 p1 m B : Int} {k : Nat} (h : k < rdN p0 p1 m) (h0 : -B ≤ p0 ∧ p0 ≤ B) (h1 : -B ≤ p1 ∧ p1 ≤ B) (hm : 0 ≤ m) : (-B ≤ (rdg p0 p1 m k).1 ∧ (rdg p0 p1 m k).1 ≤ B) ∧ (-B ≤ (rdg p0 p1 m k).2 ∧ (rdg p0 p1 m k).2 ≤ B) := by
 unfold rdN at h
 unfold rdg mstep
 refine ⟨?_, ?_⟩
 · dsimp only; split <;> omega
 · dsimp only; split <;> omega
abbrev Rg (B : Int) := { x : Int × Int // (-B ≤ x.1 ∧ x.1 ≤ B) ∧ (-B ≤ x.2 ∧ x.2 ≤ B) }
def Kp (n0 bm : Nat) (W W' : World) : Prop := W.heap.size ≤ W'.heap.size ∧ ∀ b, b < n0 → b ≠ bm → W'.heap[b]? = W.heap[b]?
theorem Kp.t {n0 bm : Nat} {A B C : World} (h : Kp n0 bm A B) (k : Kp n0 bm B C) : Kp n0 bm A C := ⟨Nat.le_trans h.1 k.1, fun b hb hx => (k.2 b hb hx).trans (h.2 b hb hx)⟩
theorem Kp.bk {n0 bm g : Nat} {W W' : World} {cs : Array Value} (h : Kp n0 bm W W') (hB : Bk W g cs) (hg : g < n0) (hx : g ≠ bm) : Bk W' g cs :=
 ⟨Nat.lt_of_lt_of_le hB.lt h.1, fun o => (World.cell?_of_block (w := W) (a := ⟨g, o, none⟩) (h.2 g hg hx)).trans (hB.cell o), fun o => (World.frozen?_of_block (w := W) (a := ⟨g, o, none⟩) (h.2 g hg hx)).trans (hB.frozen o)⟩
theorem grown_of_below {w w' : World} (h : Below w.heap.size w w') : w.grownBy w' none := ⟨h.os, h.tape, h.output, h.size, fun k hk _ => h.block k hk⟩
theorem meet_one (p0 p1 m : Int) (k c g : Nat) (w : World) (hr : Rd w w.heap.size 2 (some ⟨g, 0, none⟩) 1 (rc [(p0 - m + (k : Int) - m, p0 - m + (k : Int) + m)])) :
   Calls Try.prog 111 #[R2 p0 p1, .slice (some ⟨g, 0, none⟩) 1 c] w fun e w' => e = .returned (R2 (rdg p0 p1 m k).1 (rdg p0 p1 m k).2) ∧ Below w.heap.size w w' :=
 meet_any p0 p1 _ 1 c [(p0 - m + (k : Int) - m, p0 - m + (k : Int) + m)] w hr (by omega)
theorem readings1_in (n : Nat) (hn : 2 ≤ n) (l b1 b2 n0 bm : Nat) (p0 p1 m B : Int) (hB0 : 0 ≤ B) (hB1 : B ≤ 100000) (h0 : -B ≤ p0 ∧ p0 ≤ B) (h1 : -B ≤ p1 ∧ p1 ≤ B) (hm0 : 0 ≤ m) (hm1 : m ≤ 100) (hb1 : b1 < n0) (hb2 : b2 < n0) (hx1 : b1 ≠ bm) (hx2 : b2 ≠ bm)
   (J Jx : List (Rg B) → World → Prop) (W : World) (hJ : AbidesFrom W.heap.size J)
   (hY : ∀ pre x W1, J pre W1 → pre.length < rdN p0 p1 m → YieldAt Fence.wide (n - 1) Try.prog l #[R2 x.1.1 x.1.2] W1 fun e W' =>
     (e = .returned (.bool true) ∧ J (pre ++ [x]) W' ∧ Kp n0 bm W1 W') ∨ (e = .returned (.bool false) ∧ Jx (pre ++ [x]) W'))
   (q1 : Bk W b1 #[.int .i64 p0, .int .i64 p1]) (q2 : Bk W b2 #[.int .i64 m]) (hJ0 : J [] W) :
   CallsIn Fence.wide n Try.prog 130 #[.func (.yield l) #[] #[], .pointer (some ⟨b1, 0, none⟩), .pointer (some ⟨b2, 0, none⟩)] W fun e W' => (∃ v, e = .returned v) ∧
     ((∃ xs : List (Rg B), xs.map (·.1) = rdgs p0 p1 m ∧ J xs W') ∨ (∃ pre : List (Rg B), pre.map (·.1) <+: rdgs p0 p1 m ∧ Jx pre W')) := by
 refine callsIn_of_wp Try.func130 rfl trivial ?_ rfl
 simp only [Try.ntmps130, List.size_toArray, List.length_cons, List.length_nil, Nat.reduceAdd, Nat.reduceSub, Array.replicate_succ, Array.replicate_zero, List.push_toArray, List.append_toArray, List.nil_append, List.cons_append]
 have c1 := q1.cell
 have c2 := q2.cell
 have hn1 : 1 ≤ n := by omega
 gi_wp2
 gi_loopw [4] (fun v wr => ∃ (k : Nat) (pre : List (Rg B)), k ≤ rdN p0 p1 m ∧ v = .int .i64 (p0 - m + (k : Int)) ∧ Hid (pre.map (·.1) = (rdgs p0 p1 m).take k) ∧ Bk wr b1 #[.int .i64 p0, .int .i64 p1] ∧ Bk wr b2 #[.int .i64 m] ∧ W.heap.size ≤ wr.heap.size ∧ J pre wr) (fun v _ => (p1 + m + 1 - intOf v).toNat)
 case atStart => exact ⟨0, [], Nat.zero_le _, by simp, by (show _ = _; simp), q1, q2, Nat.le_refl _, hJ0⟩
 case round =>
   clear c1 c2
   obtain ⟨k, pre, hk, rfl, hpre, r1, r2, hz, hj⟩ := hrel
   have c1 := r1.cell
   have c2 := r2.cell
   have z1 := r1.lt
   have z2 := r2.lt
   by_cases hlt : k < rdN p0 p1 m
   · have hle : p0 - m + (k : Int) ≤ p1 + m := by unfold rdN at hlt; omega
     have HX := Lib.hid (rdg_bd hlt h0 h1 hm0)
     have HT := Lib.hid (rdgs_take p0 p1 m k hlt)
     have hm2 := Lib.hid hlt
     clear hlt
     have hlen : pre.length < rdN p0 p1 m := by
       have h2 := congrArg List.length hpre.out
       rw [List.length_map, List.length_take, rdgs_length] at h2
       have h3 := hm2.out
       omega
     gi_wp2_with (first | (refine ⟨trivial, ?_⟩; gi_at_call 111; refine (callsIn_wide.2 (meet_one p0 p1 m k _ _ _ ?_)).mono ?_; (exact Rd.new _ _ _ _ _ _ rfl (by simp [rc])); rintro e w1 ⟨rfl, hb⟩; have r3 := (r1.alloc _).below hb; have r4 := (r2.alloc _).below hb; have hz3 : W.heap.size ≤ w1.heap.size := (by have := hb.size; simp at this; omega); have j3 := hJ _ _ _ none (hJ _ _ _ none hj (World.grownBy_alloc wr _ none) (fun r e => by cases e)) (grown_of_below hb) (fun r e => by cases e); clear hb; obtain ⟨fn, tmps, assign, body, hy, hR⟩ := hY pre ⟨rdg p0 p1 m k, HX.out⟩ w1 j3 hlen; dsimp only at hy))
     refine hR.mono ?_
     have HS : Hid ((pre ++ [(⟨rdg p0 p1 m k, HX.out⟩ : Rg B)]).map (·.1) = (rdgs p0 p1 m).take (k + 1)) := by (show _ = _; rw [List.map_append, hpre.out, HT.out]; rfl)
     rintro e W3 (⟨rfl, hJ3, hk3⟩ | ⟨rfl, hJx3⟩)
     · have r5 := hk3.bk r3 hb1 hx1
       have r6 := hk3.bk r4 hb2 hx2
       have hz5 : W.heap.size ≤ W3.heap.size := Nat.le_trans hz3 hk3.1
       clear hY hy hR
       gi_wp2
       go_roundw
       case rel => exact ⟨k + 1, _, hm2.out, by go_num, HS, r5, r6, hz5, hJ3⟩
       case measure => simp [intOf]; omega
     · clear hY hy hR
       gi_wp2
       refine bodyPost_ret (results_none rfl _ _ _) rfl ?_
       exact ⟨⟨_, rfl⟩, .inr ⟨_, by rw [HS.out]; exact List.take_prefix _ _, hJx3⟩⟩
   · have hle : ¬ p0 - m + (k : Int) ≤ p1 + m := by unfold rdN at hlt; omega
     gi_wp2
     go_end0
     exact ⟨⟨_, rfl⟩, .inl ⟨pre, by rw [hpre.out, List.take_of_length_le (by rw [rdgs_length]; omega)], hj⟩⟩
theorem readings_stops (n : Nat) (hn : 2 ≤ n) (b1 b2 n0 bm : Nat) (p0 p1 m B : Int) (hB0 : 0 ≤ B) (hB1 : B ≤ 100000) (h0 : -B ≤ p0 ∧ p0 ≤ B) (h1 : -B ≤ p1 ∧ p1 ≤ B) (hm0 : 0 ≤ m) (hm1 : m ≤ 100) (hb1 : b1 < n0) (hb2 : b2 < n0) (hx1 : b1 ≠ bm) (hx2 : b2 ≠ bm) (w : World)
   (q1 : Bk w b1 #[.int .i64 p0, .int .i64 p1]) (q2 : Bk w b2 #[.int .i64 m]) :
   SeqStopsK (α := Rg B) Fence.wide n Try.prog 130 #[.pointer (some ⟨b1, 0, none⟩), .pointer (some ⟨b2, 0, none⟩)] (fun x => #[R2 x.1.1 x.1.2]) (Kp n0 bm) (fun xs => xs.map (·.1) = rdgs p0 p1 m) (fun pre => pre.map (·.1) <+: rdgs p0 p1 m) (rdN p0 p1 m) w :=
 fun l J Jx W hW hJ _ hY hJ0 => readings1_in n hn l b1 b2 n0 bm p0 p1 m B hB0 hB1 h0 h1 hm0 hm1 hb1 hb2 hx1 hx2 J Jx W hJ hY (q1.below hW) (q2.below hW) hJ0
set_option maxHeartbeats 400000 in
theorem readings_any (p0 p1 m : Int) (w : World) :
   Calls Try.prog 128 #[R2 p0 p1, .int .i64 m] w fun e w' => ∃ b1 b2, e = .returned (.func (.func 130) #[] #[.pointer (some ⟨b1, 0, none⟩), .pointer (some ⟨b2, 0, none⟩)]) ∧ Mem w noEx w' [(b2, .cells [.int .i64 m]), (b1, .cells [.int .i64 p0, .int .i64 p1])] := by
 go_enter Try.func128, Try.ntmps128
 refine start noEx ?_
 intro wc M
 go_wp2_with (first | (refine m_ld1 M rfl rfl rfl (by (repeat' (first | exact List.mem_cons_self | refine List.mem_cons_of_mem _ ?_))) (by rfl) ?_) | (refine m_ldr M rfl rfl rfl (by (repeat' (first | exact List.mem_cons_self | refine List.mem_cons_of_mem _ ?_))) (by (try simp only [List.take_succ_cons, List.take_zero, List.take_nil, List.drop_succ_cons, List.drop_zero, List.drop_nil, List.cons_append, List.nil_append, List.append_nil, List.length_cons, List.length_nil, Nat.reduceAdd, Nat.zero_add, Nat.add_zero]); rfl) (by rfl) ?_) | (refine m_st M rfl rfl rfl (by first | exact (rfl : _ = Value.agg _) | exact (rfl : _ = Value.int _ _) | exact (rfl : _ = Value.bool _) | exact (rfl : _ = Value.slice _ _ _) | exact (rfl : _ = Value.pointer _) | exact (rfl : _ = Value.map _) | exact (rfl : _ = Value.func _ _ _) | exact (rfl : _ = Value.string _)) (by rfl) (by (repeat (first | exact Upd.head | apply Upd.tail))) (by (try simp only [List.take_succ_cons, List.take_zero, List.take_nil, List.drop_succ_cons, List.drop_zero, List.drop_nil, List.cons_append, List.nil_append, List.append_nil, List.length_cons, List.length_nil, Nat.reduceAdd, Nat.zero_add, Nat.add_zero]); rfl) (by simp) (by simp [Value.oneCell']) (by kernel_rfl) ?_; clear M; (try clear wc); intro wc M) | (refine m_al M rfl rfl ?_; clear M; (try clear wc); intro g wc M) | (refine m_bx M rfl rfl (by first | exact (rfl : _ = Value.agg _) | exact (rfl : _ = Value.int _ _) | exact (rfl : _ = Value.bool _) | exact (rfl : _ = Value.slice _ _ _) | exact (rfl : _ = Value.pointer _) | exact (rfl : _ = Value.map _) | exact (rfl : _ = Value.func _ _ _) | exact (rfl : _ = Value.string _)) (by rfl) ?_; clear M; (try clear wc); intro g wc M))
 go_ret
 exact ⟨_, _, rfl, M⟩
end Go.Proofs.Ytlahdenlmmlplaa
end

section
/-
 reed: what is known after a stroke.
-/
namespace Go.Proofs.Ytlahdenlmmlplaa
set_option linter.unusedSimpArgs false
set_option linter.unusedVariables false
open Go.RowKit
def thinJ (j : Jb) (p0 p1 t r : Int) : St := ⟨p0, p1, j.t0 - t * j.a1, j.t1 - t * j.a0, j.r0 - r * j.b1, j.r1 - r * j.b0, j.u0, j.u1, j.d0, j.d1, j.a0, j.a1, j.b0, j.b1, j.le⟩
def okT (j : Jb) (t r : Int) : Bool := (thinJ j 0 0 t r).spoiled == 2
abbrev kn5 (p0 p1 t r lf : Int) : Value := .agg #[.int .i64 p0, .int .i64 p1, .int .i64 t, .int .i64 r, .int .i64 lf]
theorem mul_bd {i a : Int} (h0 : 0 ≤ i) (h1 : i ≤ 2000) (h2 : 0 ≤ a) (h3 : a ≤ 12) : 0 ≤ i * a ∧ i * a ≤ 24000 := by
 refine ⟨Int.mul_nonneg h0 h2, ?_⟩
 have := Int.mul_le_mul h1 h3 h2 (by omega : (0 : Int) ≤ 2000)
 omega
theorem mul_suc (i a : Int) : (i + 1) * a = i * a + a := by rw [Int.add_mul]; omega
theorem filed_tip_x (p0 p1 t0 t1 r0 r1 u0 u1 d0 d1 a0 a1 b0 b1 le : Int) (w : World) (h : St.ok ⟨p0, p1, t0, t1, r0, r1, u0, u1, d0, d1, a0, a1, b0, b1, le⟩) :
   Calls Try.prog 114 #[.agg #[.int .i64 p0, .int .i64 p1, .int .i64 t0, .int .i64 t1, .int .i64 r0, .int .i64 r1, .int .i64 u0, .int .i64 u1, .int .i64 d0, .int .i64 d1, .int .i64 a0, .int .i64 a1, .int .i64 b0, .int .i64 b1, .int .i64 le], .int .i64 1] w fun e w' => e = .returned (.agg #[.int .i64 (p0 + u0), .int .i64 (p1 + u1), .int .i64 (t0 - a1), .int .i64 (t1 - a0), .int .i64 r0, .int .i64 r1, .int .i64 u0, .int .i64 u1, .int .i64 d0, .int .i64 d1, .int .i64 a0, .int .i64 a1, .int .i64 b0, .int .i64 b1, .int .i64 le]) ∧ Below w.heap.size w w' := filed_tip ⟨p0, p1, t0, t1, r0, r1, u0, u1, d0, d1, a0, a1, b0, b1, le⟩ w h
theorem filed_root_x (p0 p1 t0 t1 r0 r1 u0 u1 d0 d1 a0 a1 b0 b1 le : Int) (w : World) (h : St.ok ⟨p0, p1, t0, t1, r0, r1, u0, u1, d0, d1, a0, a1, b0, b1, le⟩) :
   Calls Try.prog 114 #[.agg #[.int .i64 p0, .int .i64 p1, .int .i64 t0, .int .i64 t1, .int .i64 r0, .int .i64 r1, .int .i64 u0, .int .i64 u1, .int .i64 d0, .int .i64 d1, .int .i64 a0, .int .i64 a1, .int .i64 b0, .int .i64 b1, .int .i64 le], .int .i64 2] w fun e w' => e = .returned (.agg #[.int .i64 (p0 - d1), .int .i64 (p1 - d0), .int .i64 t0, .int .i64 t1, .int .i64 (r0 - b1), .int .i64 (r1 - b0), .int .i64 u0, .int .i64 u1, .int .i64 d0, .int .i64 d1, .int .i64 a0, .int .i64 a1, .int .i64 b0, .int .i64 b1, .int .i64 le]) ∧ Below w.heap.size w w' := filed_root ⟨p0, p1, t0, t1, r0, r1, u0, u1, d0, d1, a0, a1, b0, b1, le⟩ w h
set_option maxHeartbeats 2000000 in
theorem moved_tip (j : Jb) (A : Option Addr) (c : Nat) (s0 s1 : Int) (bg bx : Nat) (p0 p1 t r lf : Int) (w : World) (hg : j.good) (hp0 : -100000 ≤ p0 ∧ p0 ≤ 100000) (hp1 : -100000 ≤ p1 ∧ p1 ≤ 100000) (ht : 0 ≤ t ∧ t ≤ 1000) (hr : 0 ≤ r ∧ r ≤ 1000) (hl : 1 ≤ lf ∧ lf ≤ 1000) :
   Calls Try.prog 129 #[.agg (gmA j A c s0 s1 bg bx).toArray, kn5 p0 p1 t r lf, .int .i64 1] w fun e w' => e = .returned (.tuple #[kn5 (p0 + j.u0) (p1 + j.u1) (t + 1) r (lf - 1), .bool (okT j (t + 1) (r))]) ∧ Below w.heap.size w w' := by
 obtain ⟨g1, g2, g3, g4, g5, g6, g7, g8, -, -, -, -⟩ := hg
 go_enter Try.func129, Try.ntmps129
 refine start noEx ?_
 intro wc M
 go_wp2_with (first | (refine m_ld1 M rfl rfl rfl (by (repeat' (first | exact List.mem_cons_self | refine List.mem_cons_of_mem _ ?_))) (by rfl) ?_) | (refine m_ldr M rfl rfl rfl (by (repeat' (first | exact List.mem_cons_self | refine List.mem_cons_of_mem _ ?_))) (by (try simp only [List.take_succ_cons, List.take_zero, List.take_nil, List.drop_succ_cons, List.drop_zero, List.drop_nil, List.cons_append, List.nil_append, List.append_nil, List.length_cons, List.length_nil, Nat.reduceAdd, Nat.zero_add, Nat.add_zero]); rfl) (by rfl) ?_) | (refine m_st M rfl rfl rfl (by first | exact (rfl : _ = Value.agg _) | exact (rfl : _ = Value.int _ _) | exact (rfl : _ = Value.bool _) | exact (rfl : _ = Value.slice _ _ _) | exact (rfl : _ = Value.pointer _) | exact (rfl : _ = Value.map _) | exact (rfl : _ = Value.func _ _ _) | exact (rfl : _ = Value.string _)) (by rfl) (by (repeat (first | exact Upd.head | apply Upd.tail))) (by (try simp only [List.take_succ_cons, List.take_zero, List.take_nil, List.drop_succ_cons, List.drop_zero, List.drop_nil, List.cons_append, List.nil_append, List.append_nil, List.length_cons, List.length_nil, Nat.reduceAdd, Nat.zero_add, Nat.add_zero]); rfl) (by simp) (by simp [Value.oneCell']) (by kernel_rfl) ?_; clear M; (try clear wc); intro wc M) | (refine m_al M rfl rfl ?_; clear M; (try clear wc); intro g wc M) | (refine m_bx M rfl rfl (by first | exact (rfl : _ = Value.agg _) | exact (rfl : _ = Value.int _ _) | exact (rfl : _ = Value.bool _) | exact (rfl : _ = Value.slice _ _ _) | exact (rfl : _ = Value.pointer _) | exact (rfl : _ = Value.map _) | exact (rfl : _ = Value.func _ _ _) | exact (rfl : _ = Value.string _)) (by rfl) ?_; clear M; (try clear wc); intro g wc M) | (go_at_call 114; ((with_reducible refine (filed_tip_x p0 p1 j.t0 j.t1 j.r0 j.r1 j.u0 j.u1 j.d0 j.d1 j.a0 j.a1 j.b0 j.b1 j.le _ ?_).mono ?_); (constructor <;> dsimp only <;> omega); rintro e wc ⟨rfl, hb⟩; replace M := M.call hb; clear hb)))
 rename_i gG gK gR gS wq K0 hK0
 go_loopw [44] (fun v wr => ∃ i : Int, 0 ≤ i ∧ i ≤ t + 1 ∧ v = .int .i64 i ∧ Mem w noEx wr [(gS, .cells [.int .i64 p0, .int .i64 p1, .int .i64 (j.t0 - i * j.a1), .int .i64 (j.t1 - i * j.a0), .int .i64 (j.r0 - 0 * j.b1), .int .i64 (j.r1 - 0 * j.b0), .int .i64 j.u0, .int .i64 j.u1, .int .i64 j.d0, .int .i64 j.d1, .int .i64 j.a0, .int .i64 j.a1, .int .i64 j.b0, .int .i64 j.b1, .int .i64 j.le]), (gR, .cells [.int .i64 0, .int .i64 0, .int .i64 0, .int .i64 0, .int .i64 0]), (gK, .cells [.int .i64 (p0 + j.u0), .int .i64 (p1 + j.u1), .int .i64 (t + 1), .int .i64 (r), .int .i64 (lf - 1)])]) (fun v _ => (t + 1 - intOf v).toNat)
 case atStart => exact ⟨0, by omega, by omega, rfl, by simp only [Int.zero_mul, Int.sub_zero]; exact M.sub (by (repeat (first | exact List.Sublist.slnil | apply List.Sublist.cons_cons | apply List.Sublist.cons)))⟩
 case round =>
   clear M wc
   obtain ⟨i, hi0, hi1, rfl, M⟩ := hrel
   obtain ⟨wc, rfl⟩ : ∃ x : World, x = wr := ⟨_, rfl⟩
   have m1 := mul_bd hi0 (by omega) (by omega : 0 ≤ j.a1) (by omega)
   have m2 := mul_bd hi0 (by omega) (by omega : 0 ≤ j.a0) (by omega)
   by_cases hlt : i < t + 1
   · have e1 := mul_suc i j.a1
     have e2 := mul_suc i j.a0
     have E : Hid (Value.int .i64 (j.t0 - i * j.a1 - j.a1) = .int .i64 (j.t0 - (i + 1) * j.a1) ∧ Value.int .i64 (j.t1 - i * j.a0 - j.a0) = .int .i64 (j.t1 - (i + 1) * j.a0)) := ⟨by rw [e1]; congr 1; omega, by rw [e2]; congr 1; omega⟩
     clear e1 e2
     go_wp2_with (first | (refine m_ld1 M rfl rfl rfl (by (repeat' (first | exact List.mem_cons_self | refine List.mem_cons_of_mem _ ?_))) (by rfl) ?_) | (refine m_ldr M rfl rfl rfl (by (repeat' (first | exact List.mem_cons_self | refine List.mem_cons_of_mem _ ?_))) (by (try simp only [List.take_succ_cons, List.take_zero, List.take_nil, List.drop_succ_cons, List.drop_zero, List.drop_nil, List.cons_append, List.nil_append, List.append_nil, List.length_cons, List.length_nil, Nat.reduceAdd, Nat.zero_add, Nat.add_zero]); rfl) (by rfl) ?_) | (refine m_st M rfl rfl rfl (by first | exact (rfl : _ = Value.agg _) | exact (rfl : _ = Value.int _ _) | exact (rfl : _ = Value.bool _) | exact (rfl : _ = Value.slice _ _ _) | exact (rfl : _ = Value.pointer _) | exact (rfl : _ = Value.map _) | exact (rfl : _ = Value.func _ _ _) | exact (rfl : _ = Value.string _)) (by rfl) (by (repeat (first | exact Upd.head | apply Upd.tail))) (by (try simp only [List.take_succ_cons, List.take_zero, List.take_nil, List.drop_succ_cons, List.drop_zero, List.drop_nil, List.cons_append, List.nil_append, List.append_nil, List.length_cons, List.length_nil, Nat.reduceAdd, Nat.zero_add, Nat.add_zero]); rfl) (by simp) (by simp [Value.oneCell']) (by kernel_rfl) ?_; clear M; (try clear wc); intro wc M) | (refine m_al M rfl rfl ?_; clear M; (try clear wc); intro g wc M) | (refine m_bx M rfl rfl (by first | exact (rfl : _ = Value.agg _) | exact (rfl : _ = Value.int _ _) | exact (rfl : _ = Value.bool _) | exact (rfl : _ = Value.slice _ _ _) | exact (rfl : _ = Value.pointer _) | exact (rfl : _ = Value.map _) | exact (rfl : _ = Value.func _ _ _) | exact (rfl : _ = Value.string _)) (by rfl) ?_; clear M; (try clear wc); intro g wc M) | (go_at_call 125; ((with_reducible refine (less_any _ _ _ _ _ (by omega) (by omega) (by omega) (by omega)).mono ?_); skip; rintro e wc ⟨rfl, hb⟩; replace M := M.call hb; clear hb)))
     go_roundw
     case rel => exact ⟨i + 1, by omega, by omega, rfl, by rw [E.out.1, E.out.2] at M; exact M⟩
     case measure => simp [intOf]; omega
   · have ei : t + 1 = i := (by omega); subst ei
     go_wp2_with (first | (refine m_ld1 M rfl rfl rfl (by (repeat' (first | exact List.mem_cons_self | refine List.mem_cons_of_mem _ ?_))) (by rfl) ?_) | (refine m_ldr M rfl rfl rfl (by (repeat' (first | exact List.mem_cons_self | refine List.mem_cons_of_mem _ ?_))) (by (try simp only [List.take_succ_cons, List.take_zero, List.take_nil, List.drop_succ_cons, List.drop_zero, List.drop_nil, List.cons_append, List.nil_append, List.append_nil, List.length_cons, List.length_nil, Nat.reduceAdd, Nat.zero_add, Nat.add_zero]); rfl) (by rfl) ?_) | (refine m_st M rfl rfl rfl (by first | exact (rfl : _ = Value.agg _) | exact (rfl : _ = Value.int _ _) | exact (rfl : _ = Value.bool _) | exact (rfl : _ = Value.slice _ _ _) | exact (rfl : _ = Value.pointer _) | exact (rfl : _ = Value.map _) | exact (rfl : _ = Value.func _ _ _) | exact (rfl : _ = Value.string _)) (by rfl) (by (repeat (first | exact Upd.head | apply Upd.tail))) (by (try simp only [List.take_succ_cons, List.take_zero, List.take_nil, List.drop_succ_cons, List.drop_zero, List.drop_nil, List.cons_append, List.nil_append, List.append_nil, List.length_cons, List.length_nil, Nat.reduceAdd, Nat.zero_add, Nat.add_zero]); rfl) (by simp) (by simp [Value.oneCell']) (by kernel_rfl) ?_; clear M; (try clear wc); intro wc M) | (refine m_al M rfl rfl ?_; clear M; (try clear wc); intro g wc M) | (refine m_bx M rfl rfl (by first | exact (rfl : _ = Value.agg _) | exact (rfl : _ = Value.int _ _) | exact (rfl : _ = Value.bool _) | exact (rfl : _ = Value.slice _ _ _) | exact (rfl : _ = Value.pointer _) | exact (rfl : _ = Value.map _) | exact (rfl : _ = Value.func _ _ _) | exact (rfl : _ = Value.string _)) (by rfl) ?_; clear M; (try clear wc); intro g wc M))
     go_loopw [58] (fun v wr => ∃ i : Int, 0 ≤ i ∧ i ≤ r ∧ v = .int .i64 i ∧ Mem w noEx wr [(gS, .cells [.int .i64 p0, .int .i64 p1, .int .i64 (j.t0 - (t + 1) * j.a1), .int .i64 (j.t1 - (t + 1) * j.a0), .int .i64 (j.r0 - i * j.b1), .int .i64 (j.r1 - i * j.b0), .int .i64 j.u0, .int .i64 j.u1, .int .i64 j.d0, .int .i64 j.d1, .int .i64 j.a0, .int .i64 j.a1, .int .i64 j.b0, .int .i64 j.b1, .int .i64 j.le]), (gR, .cells [.int .i64 0, .int .i64 0, .int .i64 0, .int .i64 0, .int .i64 0]), (gK, .cells [.int .i64 (p0 + j.u0), .int .i64 (p1 + j.u1), .int .i64 (t + 1), .int .i64 (r), .int .i64 (lf - 1)])]) (fun v _ => (r - intOf v).toNat)
     case atStart => exact ⟨0, by omega, by omega, rfl, by simp only [Int.zero_mul, Int.sub_zero] at M ⊢; exact M⟩
     case round =>
       clear M wc
       obtain ⟨i, hi0, hi1, rfl, M⟩ := hrel
       obtain ⟨wc, rfl⟩ : ∃ x : World, x = wr := ⟨_, rfl⟩
       have m3 := mul_bd hi0 (by omega) (by omega : 0 ≤ j.b1) (by omega)
       have m4 := mul_bd hi0 (by omega) (by omega : 0 ≤ j.b0) (by omega)
       by_cases hlt : i < r
       · have e1 := mul_suc i j.b1
         have e2 := mul_suc i j.b0
         have E : Hid (Value.int .i64 (j.r0 - i * j.b1 - j.b1) = .int .i64 (j.r0 - (i + 1) * j.b1) ∧ Value.int .i64 (j.r1 - i * j.b0 - j.b0) = .int .i64 (j.r1 - (i + 1) * j.b0)) := ⟨by rw [e1]; congr 1; omega, by rw [e2]; congr 1; omega⟩
         clear e1 e2
         go_wp2_with (first | (refine m_ld1 M rfl rfl rfl (by (repeat' (first | exact List.mem_cons_self | refine List.mem_cons_of_mem _ ?_))) (by rfl) ?_) | (refine m_ldr M rfl rfl rfl (by (repeat' (first | exact List.mem_cons_self | refine List.mem_cons_of_mem _ ?_))) (by (try simp only [List.take_succ_cons, List.take_zero, List.take_nil, List.drop_succ_cons, List.drop_zero, List.drop_nil, List.cons_append, List.nil_append, List.append_nil, List.length_cons, List.length_nil, Nat.reduceAdd, Nat.zero_add, Nat.add_zero]); rfl) (by rfl) ?_) | (refine m_st M rfl rfl rfl (by first | exact (rfl : _ = Value.agg _) | exact (rfl : _ = Value.int _ _) | exact (rfl : _ = Value.bool _) | exact (rfl : _ = Value.slice _ _ _) | exact (rfl : _ = Value.pointer _) | exact (rfl : _ = Value.map _) | exact (rfl : _ = Value.func _ _ _) | exact (rfl : _ = Value.string _)) (by rfl) (by (repeat (first | exact Upd.head | apply Upd.tail))) (by (try simp only [List.take_succ_cons, List.take_zero, List.take_nil, List.drop_succ_cons, List.drop_zero, List.drop_nil, List.cons_append, List.nil_append, List.append_nil, List.length_cons, List.length_nil, Nat.reduceAdd, Nat.zero_add, Nat.add_zero]); rfl) (by simp) (by simp [Value.oneCell']) (by kernel_rfl) ?_; clear M; (try clear wc); intro wc M) | (refine m_al M rfl rfl ?_; clear M; (try clear wc); intro g wc M) | (refine m_bx M rfl rfl (by first | exact (rfl : _ = Value.agg _) | exact (rfl : _ = Value.int _ _) | exact (rfl : _ = Value.bool _) | exact (rfl : _ = Value.slice _ _ _) | exact (rfl : _ = Value.pointer _) | exact (rfl : _ = Value.map _) | exact (rfl : _ = Value.func _ _ _) | exact (rfl : _ = Value.string _)) (by rfl) ?_; clear M; (try clear wc); intro g wc M) | (go_at_call 125; ((with_reducible refine (less_any _ _ _ _ _ (by omega) (by omega) (by omega) (by omega)).mono ?_); skip; rintro e wc ⟨rfl, hb⟩; replace M := M.call hb; clear hb)))
         go_roundw
         case rel => exact ⟨i + 1, by omega, by omega, rfl, by rw [E.out.1, E.out.2] at M; exact M⟩
         case measure => simp [intOf]; omega
       · have ei : r = i := (by omega); subst ei
         go_wp2_with (first | (refine m_ld1 M rfl rfl rfl (by (repeat' (first | exact List.mem_cons_self | refine List.mem_cons_of_mem _ ?_))) (by rfl) ?_) | (refine m_ldr M rfl rfl rfl (by (repeat' (first | exact List.mem_cons_self | refine List.mem_cons_of_mem _ ?_))) (by (try simp only [List.take_succ_cons, List.take_zero, List.take_nil, List.drop_succ_cons, List.drop_zero, List.drop_nil, List.cons_append, List.nil_append, List.append_nil, List.length_cons, List.length_nil, Nat.reduceAdd, Nat.zero_add, Nat.add_zero]); rfl) (by rfl) ?_) | (refine m_st M rfl rfl rfl (by first | exact (rfl : _ = Value.agg _) | exact (rfl : _ = Value.int _ _) | exact (rfl : _ = Value.bool _) | exact (rfl : _ = Value.slice _ _ _) | exact (rfl : _ = Value.pointer _) | exact (rfl : _ = Value.map _) | exact (rfl : _ = Value.func _ _ _) | exact (rfl : _ = Value.string _)) (by rfl) (by (repeat (first | exact Upd.head | apply Upd.tail))) (by (try simp only [List.take_succ_cons, List.take_zero, List.take_nil, List.drop_succ_cons, List.drop_zero, List.drop_nil, List.cons_append, List.nil_append, List.append_nil, List.length_cons, List.length_nil, Nat.reduceAdd, Nat.zero_add, Nat.add_zero]); rfl) (by simp) (by simp [Value.oneCell']) (by kernel_rfl) ?_; clear M; (try clear wc); intro wc M) | (refine m_al M rfl rfl ?_; clear M; (try clear wc); intro g wc M) | (refine m_bx M rfl rfl (by first | exact (rfl : _ = Value.agg _) | exact (rfl : _ = Value.int _ _) | exact (rfl : _ = Value.bool _) | exact (rfl : _ = Value.slice _ _ _) | exact (rfl : _ = Value.pointer _) | exact (rfl : _ = Value.map _) | exact (rfl : _ = Value.func _ _ _) | exact (rfl : _ = Value.string _)) (by rfl) ?_; clear M; (try clear wc); intro g wc M))
         refine wp_region_G (fun L W => (L.getD 4 true = false → Mem w noEx W [(gS, .cells [.int .i64 p0, .int .i64 p1, .int .i64 (j.t0 - (t + 1) * j.a1), .int .i64 (j.t1 - (t + 1) * j.a0), .int .i64 (j.r0 - r * j.b1), .int .i64 (j.r1 - r * j.b0), .int .i64 j.u0, .int .i64 j.u1, .int .i64 j.d0, .int .i64 j.d1, .int .i64 j.a0, .int .i64 j.a1, .int .i64 j.b0, .int .i64 j.b1, .int .i64 j.le]), (gR, .cells [.int .i64 0, .int .i64 0, .int .i64 0, .int .i64 0, .int .i64 0]), (gK, .cells [.int .i64 (p0 + j.u0), .int .i64 (p1 + j.u1), .int .i64 (t + 1), .int .i64 (r), .int .i64 (lf - 1)])]) ∧ (L.getD 4 true = true → Mem w noEx W [(gS, .cells [.int .i64 p0, .int .i64 p1, .int .i64 (j.t0 - (t + 1) * j.a1), .int .i64 (j.t1 - (t + 1) * j.a0), .int .i64 (j.r0 - r * j.b1), .int .i64 (j.r1 - r * j.b0), .int .i64 j.u0, .int .i64 j.u1, .int .i64 j.d0, .int .i64 j.d1, .int .i64 j.a0, .int .i64 j.a1, .int .i64 j.b0, .int .i64 j.b1, .int .i64 j.le]), (gR, .cells [.int .i64 (p0 + j.u0), .int .i64 (p1 + j.u1), .int .i64 (t + 1), .int .i64 (r), .int .i64 (lf - 1)]), (gK, .cells [.int .i64 (p0 + j.u0), .int .i64 (p1 + j.u1), .int .i64 (t + 1), .int .i64 (r), .int .i64 (lf - 1)])])) 6 (by kernel_rfl) (by kernel_rfl) ?s0 ?r0
         case s0 => (exact ⟨fun _ => M.drew, fun h => (no_of h (by kernel_rfl)).elim⟩)
         intro W0
         refine wpG_take (i := 0) (v := ?v1) rfl (by kernel_rfl) (by intro L w; simp only [getD_set_ne true (show (0 : Nat) ≠ 4 from by decide)]) (fun _ _ _ h => h) (Or.inl ⟨by rfl, ?y1⟩) ?r1
         case y1 => (intro w' hy; obtain ⟨L, hD, hl, hS⟩ := hy; have M0 := hS.1 (hD.wait (i := 0) (by kernel_rfl) hl); clear hS; first | (refine Eq.trans (rn_one (Mem.get M0 (by (repeat' (first | exact List.mem_cons_self | refine List.mem_cons_of_mem _ ?_)))) rfl rfl (by rfl)) ?_; with_reducible rfl) | (refine Eq.trans (rn_row (Mem.get M0 (by (repeat' (first | exact List.mem_cons_self | refine List.mem_cons_of_mem _ ?_)))) rfl rfl (by (try simp only [List.take_succ_cons, List.take_zero, List.take_nil, List.drop_succ_cons, List.drop_zero, List.drop_nil, List.cons_append, List.nil_append, List.append_nil, List.length_cons, List.length_nil, Nat.reduceAdd, Nat.zero_add, Nat.add_zero]); rfl) (by rfl)) ?_; with_reducible rfl); (try with_reducible rfl))
         (try simp only [Act.put, List.getElem_toArray, List.getElem_cons_succ, List.getElem_cons_zero, List.setIfInBounds_toArray, List.set_cons_zero, List.set_cons_succ])
         refine wpG_take (i := 1) (v := ?v2) rfl (by kernel_rfl) (by intro L w; simp only [getD_set_ne true (show (1 : Nat) ≠ 4 from by decide)]) (fun _ _ _ h => h) (Or.inl ⟨by rfl, ?y2⟩) ?r2
         case y2 => (intro w' hy; obtain ⟨L, hD, hl, hS⟩ := hy; have M0 := hS.1 (hD.wait (i := 2) (by kernel_rfl) (hD.wait (m := 2) (i := 1) (by kernel_rfl) hl)); clear hS; first | (refine Eq.trans (rn_one (Mem.get M0 (by (repeat' (first | exact List.mem_cons_self | refine List.mem_cons_of_mem _ ?_)))) rfl rfl (by rfl)) ?_; with_reducible rfl) | (refine Eq.trans (rn_row (Mem.get M0 (by (repeat' (first | exact List.mem_cons_self | refine List.mem_cons_of_mem _ ?_)))) rfl rfl (by (try simp only [List.take_succ_cons, List.take_zero, List.take_nil, List.drop_succ_cons, List.drop_zero, List.drop_nil, List.cons_append, List.nil_append, List.append_nil, List.length_cons, List.length_nil, Nat.reduceAdd, Nat.zero_add, Nat.add_zero]); rfl) (by rfl)) ?_; with_reducible rfl); (try with_reducible rfl))
         (try simp only [Act.put, List.getElem_toArray, List.getElem_cons_succ, List.getElem_cons_zero, List.setIfInBounds_toArray, List.set_cons_zero, List.set_cons_succ])
         refine wpG_step (i := 2) (by kernel_rfl) rfl (by rfl) ?r3
         intro hS K hK
         (have M0 := hS.1 (by kernel_rfl); clear hS; go_simp; refine (spoiled_any (thinJ j p0 p1 (t + 1) (r)) _).mono ?_; rintro e V1 ⟨rfl, hb1⟩; refine hK.out _ _ ⟨fun _ => M0.call hb1, fun h => (no_of h (by kernel_rfl)).elim⟩ ?_; clear M0 hb1)
         clear hK K; intro W3
         (try simp only [Act.put, List.getElem_toArray, List.getElem_cons_succ, List.getElem_cons_zero, List.setIfInBounds_toArray, List.set_cons_zero, List.set_cons_succ])
         refine wpG_take (i := 3) (v := ?v4) rfl (by kernel_rfl) (by intro L w; simp only [getD_set_ne true (show (3 : Nat) ≠ 4 from by decide)]) (fun _ _ _ h => h) (Or.inl ⟨by rfl, ?y4⟩) ?r4
         case y4 => (intro w' hy; obtain ⟨L, hD, hl, hS⟩ := hy; clear hD hl hS; go_simp; (try with_reducible rfl))
         (try simp only [Act.put, List.getElem_toArray, List.getElem_cons_succ, List.getElem_cons_zero, List.setIfInBounds_toArray, List.set_cons_zero, List.set_cons_succ])
         refine wpG_step (i := 4) (by kernel_rfl) rfl (by rfl) ?r5
         intro hS K hK
         (have M0 := hS.1 (by kernel_rfl); clear hS; refine m_stw M0 rfl rfl (by first | exact (rfl : _ = Value.agg _) | exact (rfl : _ = Value.int _ _) | exact (rfl : _ = Value.bool _) | exact (rfl : _ = Value.slice _ _ _) | exact (rfl : _ = Value.pointer _) | exact (rfl : _ = Value.map _) | exact (rfl : _ = Value.func _ _ _) | exact (rfl : _ = Value.string _)) (by rfl) (by (repeat (first | exact Upd.head | apply Upd.tail))) (by (try simp only [List.take_succ_cons, List.take_zero, List.take_nil, List.drop_succ_cons, List.drop_zero, List.drop_nil, List.cons_append, List.nil_append, List.append_nil, List.length_cons, List.length_nil, Nat.reduceAdd, Nat.zero_add, Nat.add_zero]); rfl) (by simp) (by simp [Value.oneCell']) (by kernel_rfl) ?_; intro V2 M2; refine hK.out _ _ ⟨fun h => (no_of (by kernel_rfl) h).elim, fun _ => M2⟩ ?_; clear M0 M2)
         clear hK K; intro W5
         (try simp only [Act.put, List.getElem_toArray, List.getElem_cons_succ, List.getElem_cons_zero, List.setIfInBounds_toArray, List.set_cons_zero, List.set_cons_succ])
         refine wpG_take (i := 5) (v := ?v6) rfl (by kernel_rfl) (by intro L w; simp only [getD_set_ne true (show (5 : Nat) ≠ 4 from by decide)]) (fun _ _ _ h => h) (Or.inl ⟨by rfl, ?y6⟩) ?r6
         case y6 => (intro w' hy; obtain ⟨L, hD, hl, hS⟩ := hy; clear hD hl hS; go_simp; (try with_reducible rfl))
         (try simp only [Act.put, List.getElem_toArray, List.getElem_cons_succ, List.getElem_cons_zero, List.setIfInBounds_toArray, List.set_cons_zero, List.set_cons_succ])
         refine wpG_end (by kernel_rfl) ?_
         intro W
          hS
         have M1 := hS.2 (by kernel_rfl)
         clear hS
         go_wp2
         refine ret_M1 (t := 6) (t' := 7) (ty := 173) M1 (by rfl) (by rfl) (by rfl) (by rfl) (by (repeat' (first | exact List.mem_cons_self | refine List.mem_cons_of_mem _ ?_))) (by rfl) ?_
         exact ⟨rfl, M1.below⟩
set_option maxHeartbeats 2000000 in
theorem moved_root (j : Jb) (A : Option Addr) (c : Nat) (s0 s1 : Int) (bg bx : Nat) (p0 p1 t r lf : Int) (w : World) (hg : j.good) (hp0 : -100000 ≤ p0 ∧ p0 ≤ 100000) (hp1 : -100000 ≤ p1 ∧ p1 ≤ 100000) (ht : 0 ≤ t ∧ t ≤ 1000) (hr : 0 ≤ r ∧ r ≤ 1000) (hl : 1 ≤ lf ∧ lf ≤ 1000) :
   Calls Try.prog 129 #[.agg (gmA j A c s0 s1 bg bx).toArray, kn5 p0 p1 t r lf, .int .i64 2] w fun e w' => e = .returned (.tuple #[kn5 (p0 - j.d1) (p1 - j.d0) t (r + 1) (lf - 1), .bool (okT j (t) (r + 1))]) ∧ Below w.heap.size w w' := by
 obtain ⟨g1, g2, g3, g4, g5, g6, g7, g8, -, -, -, -⟩ := hg
 go_enter Try.func129, Try.ntmps129
 refine start noEx ?_
 intro wc M
 go_wp2_with (first | (refine m_ld1 M rfl rfl rfl (by (repeat' (first | exact List.mem_cons_self | refine List.mem_cons_of_mem _ ?_))) (by rfl) ?_) | (refine m_ldr M rfl rfl rfl (by (repeat' (first | exact List.mem_cons_self | refine List.mem_cons_of_mem _ ?_))) (by (try simp only [List.take_succ_cons, List.take_zero, List.take_nil, List.drop_succ_cons, List.drop_zero, List.drop_nil, List.cons_append, List.nil_append, List.append_nil, List.length_cons, List.length_nil, Nat.reduceAdd, Nat.zero_add, Nat.add_zero]); rfl) (by rfl) ?_) | (refine m_st M rfl rfl rfl (by first | exact (rfl : _ = Value.agg _) | exact (rfl : _ = Value.int _ _) | exact (rfl : _ = Value.bool _) | exact (rfl : _ = Value.slice _ _ _) | exact (rfl : _ = Value.pointer _) | exact (rfl : _ = Value.map _) | exact (rfl : _ = Value.func _ _ _) | exact (rfl : _ = Value.string _)) (by rfl) (by (repeat (first | exact Upd.head | apply Upd.tail))) (by (try simp only [List.take_succ_cons, List.take_zero, List.take_nil, List.drop_succ_cons, List.drop_zero, List.drop_nil, List.cons_append, List.nil_append, List.append_nil, List.length_cons, List.length_nil, Nat.reduceAdd, Nat.zero_add, Nat.add_zero]); rfl) (by simp) (by simp [Value.oneCell']) (by kernel_rfl) ?_; clear M; (try clear wc); intro wc M) | (refine m_al M rfl rfl ?_; clear M; (try clear wc); intro g wc M) | (refine m_bx M rfl rfl (by first | exact (rfl : _ = Value.agg _) | exact (rfl : _ = Value.int _ _) | exact (rfl : _ = Value.bool _) | exact (rfl : _ = Value.slice _ _ _) | exact (rfl : _ = Value.pointer _) | exact (rfl : _ = Value.map _) | exact (rfl : _ = Value.func _ _ _) | exact (rfl : _ = Value.string _)) (by rfl) ?_; clear M; (try clear wc); intro g wc M) | (go_at_call 114; ((with_reducible refine (filed_root_x p0 p1 j.t0 j.t1 j.r0 j.r1 j.u0 j.u1 j.d0 j.d1 j.a0 j.a1 j.b0 j.b1 j.le _ ?_).mono ?_); (constructor <;> dsimp only <;> omega); rintro e wc ⟨rfl, hb⟩; replace M := M.call hb; clear hb)))
 rename_i gG gK gR gS wq K0 hK0
 go_loopw [44] (fun v wr => ∃ i : Int, 0 ≤ i ∧ i ≤ t ∧ v = .int .i64 i ∧ Mem w noEx wr [(gS, .cells [.int .i64 p0, .int .i64 p1, .int .i64 (j.t0 - i * j.a1), .int .i64 (j.t1 - i * j.a0), .int .i64 (j.r0 - 0 * j.b1), .int .i64 (j.r1 - 0 * j.b0), .int .i64 j.u0, .int .i64 j.u1, .int .i64 j.d0, .int .i64 j.d1, .int .i64 j.a0, .int .i64 j.a1, .int .i64 j.b0, .int .i64 j.b1, .int .i64 j.le]), (gR, .cells [.int .i64 0, .int .i64 0, .int .i64 0, .int .i64 0, .int .i64 0]), (gK, .cells [.int .i64 (p0 - j.d1), .int .i64 (p1 - j.d0), .int .i64 (t), .int .i64 (r + 1), .int .i64 (lf - 1)])]) (fun v _ => (t - intOf v).toNat)
 case atStart => exact ⟨0, by omega, by omega, rfl, by simp only [Int.zero_mul, Int.sub_zero]; exact M.sub (by (repeat (first | exact List.Sublist.slnil | apply List.Sublist.cons_cons | apply List.Sublist.cons)))⟩
 case round =>
   clear M wc
   obtain ⟨i, hi0, hi1, rfl, M⟩ := hrel
   obtain ⟨wc, rfl⟩ : ∃ x : World, x = wr := ⟨_, rfl⟩
   have m1 := mul_bd hi0 (by omega) (by omega : 0 ≤ j.a1) (by omega)
   have m2 := mul_bd hi0 (by omega) (by omega : 0 ≤ j.a0) (by omega)
   by_cases hlt : i < t
   · have e1 := mul_suc i j.a1
     have e2 := mul_suc i j.a0
     have E : Hid (Value.int .i64 (j.t0 - i * j.a1 - j.a1) = .int .i64 (j.t0 - (i + 1) * j.a1) ∧ Value.int .i64 (j.t1 - i * j.a0 - j.a0) = .int .i64 (j.t1 - (i + 1) * j.a0)) := ⟨by rw [e1]; congr 1; omega, by rw [e2]; congr 1; omega⟩
     clear e1 e2
     go_wp2_with (first | (refine m_ld1 M rfl rfl rfl (by (repeat' (first | exact List.mem_cons_self | refine List.mem_cons_of_mem _ ?_))) (by rfl) ?_) | (refine m_ldr M rfl rfl rfl (by (repeat' (first | exact List.mem_cons_self | refine List.mem_cons_of_mem _ ?_))) (by (try simp only [List.take_succ_cons, List.take_zero, List.take_nil, List.drop_succ_cons, List.drop_zero, List.drop_nil, List.cons_append, List.nil_append, List.append_nil, List.length_cons, List.length_nil, Nat.reduceAdd, Nat.zero_add, Nat.add_zero]); rfl) (by rfl) ?_) | (refine m_st M rfl rfl rfl (by first | exact (rfl : _ = Value.agg _) | exact (rfl : _ = Value.int _ _) | exact (rfl : _ = Value.bool _) | exact (rfl : _ = Value.slice _ _ _) | exact (rfl : _ = Value.pointer _) | exact (rfl : _ = Value.map _) | exact (rfl : _ = Value.func _ _ _) | exact (rfl : _ = Value.string _)) (by rfl) (by (repeat (first | exact Upd.head | apply Upd.tail))) (by (try simp only [List.take_succ_cons, List.take_zero, List.take_nil, List.drop_succ_cons, List.drop_zero, List.drop_nil, List.cons_append, List.nil_append, List.append_nil, List.length_cons, List.length_nil, Nat.reduceAdd, Nat.zero_add, Nat.add_zero]); rfl) (by simp) (by simp [Value.oneCell']) (by kernel_rfl) ?_; clear M; (try clear wc); intro wc M) | (refine m_al M rfl rfl ?_; clear M; (try clear wc); intro g wc M) | (refine m_bx M rfl rfl (by first | exact (rfl : _ = Value.agg _) | exact (rfl : _ = Value.int _ _) | exact (rfl : _ = Value.bool _) | exact (rfl : _ = Value.slice _ _ _) | exact (rfl : _ = Value.pointer _) | exact (rfl : _ = Value.map _) | exact (rfl : _ = Value.func _ _ _) | exact (rfl : _ = Value.string _)) (by rfl) ?_; clear M; (try clear wc); intro g wc M) | (go_at_call 125; ((with_reducible refine (less_any _ _ _ _ _ (by omega) (by omega) (by omega) (by omega)).mono ?_); skip; rintro e wc ⟨rfl, hb⟩; replace M := M.call hb; clear hb)))
     go_roundw
     case rel => exact ⟨i + 1, by omega, by omega, rfl, by rw [E.out.1, E.out.2] at M; exact M⟩
     case measure => simp [intOf]; omega
   · have ei : t = i := (by omega); subst ei
     go_wp2_with (first | (refine m_ld1 M rfl rfl rfl (by (repeat' (first | exact List.mem_cons_self | refine List.mem_cons_of_mem _ ?_))) (by rfl) ?_) | (refine m_ldr M rfl rfl rfl (by (repeat' (first | exact List.mem_cons_self | refine List.mem_cons_of_mem _ ?_))) (by (try simp only [List.take_succ_cons, List.take_zero, List.take_nil, List.drop_succ_cons, List.drop_zero, List.drop_nil, List.cons_append, List.nil_append, List.append_nil, List.length_cons, List.length_nil, Nat.reduceAdd, Nat.zero_add, Nat.add_zero]); rfl) (by rfl) ?_) | (refine m_st M rfl rfl rfl (by first | exact (rfl : _ = Value.agg _) | exact (rfl : _ = Value.int _ _) | exact (rfl : _ = Value.bool _) | exact (rfl : _ = Value.slice _ _ _) | exact (rfl : _ = Value.pointer _) | exact (rfl : _ = Value.map _) | exact (rfl : _ = Value.func _ _ _) | exact (rfl : _ = Value.string _)) (by rfl) (by (repeat (first | exact Upd.head | apply Upd.tail))) (by (try simp only [List.take_succ_cons, List.take_zero, List.take_nil, List.drop_succ_cons, List.drop_zero, List.drop_nil, List.cons_append, List.nil_append, List.append_nil, List.length_cons, List.length_nil, Nat.reduceAdd, Nat.zero_add, Nat.add_zero]); rfl) (by simp) (by simp [Value.oneCell']) (by kernel_rfl) ?_; clear M; (try clear wc); intro wc M) | (refine m_al M rfl rfl ?_; clear M; (try clear wc); intro g wc M) | (refine m_bx M rfl rfl (by first | exact (rfl : _ = Value.agg _) | exact (rfl : _ = Value.int _ _) | exact (rfl : _ = Value.bool _) | exact (rfl : _ = Value.slice _ _ _) | exact (rfl : _ = Value.pointer _) | exact (rfl : _ = Value.map _) | exact (rfl : _ = Value.func _ _ _) | exact (rfl : _ = Value.string _)) (by rfl) ?_; clear M; (try clear wc); intro g wc M))
     go_loopw [58] (fun v wr => ∃ i : Int, 0 ≤ i ∧ i ≤ r + 1 ∧ v = .int .i64 i ∧ Mem w noEx wr [(gS, .cells [.int .i64 p0, .int .i64 p1, .int .i64 (j.t0 - t * j.a1), .int .i64 (j.t1 - t * j.a0), .int .i64 (j.r0 - i * j.b1), .int .i64 (j.r1 - i * j.b0), .int .i64 j.u0, .int .i64 j.u1, .int .i64 j.d0, .int .i64 j.d1, .int .i64 j.a0, .int .i64 j.a1, .int .i64 j.b0, .int .i64 j.b1, .int .i64 j.le]), (gR, .cells [.int .i64 0, .int .i64 0, .int .i64 0, .int .i64 0, .int .i64 0]), (gK, .cells [.int .i64 (p0 - j.d1), .int .i64 (p1 - j.d0), .int .i64 (t), .int .i64 (r + 1), .int .i64 (lf - 1)])]) (fun v _ => (r + 1 - intOf v).toNat)
     case atStart => exact ⟨0, by omega, by omega, rfl, by simp only [Int.zero_mul, Int.sub_zero] at M ⊢; exact M⟩
     case round =>
       clear M wc
       obtain ⟨i, hi0, hi1, rfl, M⟩ := hrel
       obtain ⟨wc, rfl⟩ : ∃ x : World, x = wr := ⟨_, rfl⟩
       have m3 := mul_bd hi0 (by omega) (by omega : 0 ≤ j.b1) (by omega)
       have m4 := mul_bd hi0 (by omega) (by omega : 0 ≤ j.b0) (by omega)
       by_cases hlt : i < r + 1
       · have e1 := mul_suc i j.b1
         have e2 := mul_suc i j.b0
         have E : Hid (Value.int .i64 (j.r0 - i * j.b1 - j.b1) = .int .i64 (j.r0 - (i + 1) * j.b1) ∧ Value.int .i64 (j.r1 - i * j.b0 - j.b0) = .int .i64 (j.r1 - (i + 1) * j.b0)) := ⟨by rw [e1]; congr 1; omega, by rw [e2]; congr 1; omega⟩
         clear e1 e2
         go_wp2_with (first | (refine m_ld1 M rfl rfl rfl (by (repeat' (first | exact List.mem_cons_self | refine List.mem_cons_of_mem _ ?_))) (by rfl) ?_) | (refine m_ldr M rfl rfl rfl (by (repeat' (first | exact List.mem_cons_self | refine List.mem_cons_of_mem _ ?_))) (by (try simp only [List.take_succ_cons, List.take_zero, List.take_nil, List.drop_succ_cons, List.drop_zero, List.drop_nil, List.cons_append, List.nil_append, List.append_nil, List.length_cons, List.length_nil, Nat.reduceAdd, Nat.zero_add, Nat.add_zero]); rfl) (by rfl) ?_) | (refine m_st M rfl rfl rfl (by first | exact (rfl : _ = Value.agg _) | exact (rfl : _ = Value.int _ _) | exact (rfl : _ = Value.bool _) | exact (rfl : _ = Value.slice _ _ _) | exact (rfl : _ = Value.pointer _) | exact (rfl : _ = Value.map _) | exact (rfl : _ = Value.func _ _ _) | exact (rfl : _ = Value.string _)) (by rfl) (by (repeat (first | exact Upd.head | apply Upd.tail))) (by (try simp only [List.take_succ_cons, List.take_zero, List.take_nil, List.drop_succ_cons, List.drop_zero, List.drop_nil, List.cons_append, List.nil_append, List.append_nil, List.length_cons, List.length_nil, Nat.reduceAdd, Nat.zero_add, Nat.add_zero]); rfl) (by simp) (by simp [Value.oneCell']) (by kernel_rfl) ?_; clear M; (try clear wc); intro wc M) | (refine m_al M rfl rfl ?_; clear M; (try clear wc); intro g wc M) | (refine m_bx M rfl rfl (by first | exact (rfl : _ = Value.agg _) | exact (rfl : _ = Value.int _ _) | exact (rfl : _ = Value.bool _) | exact (rfl : _ = Value.slice _ _ _) | exact (rfl : _ = Value.pointer _) | exact (rfl : _ = Value.map _) | exact (rfl : _ = Value.func _ _ _) | exact (rfl : _ = Value.string _)) (by rfl) ?_; clear M; (try clear wc); intro g wc M) | (go_at_call 125; ((with_reducible refine (less_any _ _ _ _ _ (by omega) (by omega) (by omega) (by omega)).mono ?_); skip; rintro e wc ⟨rfl, hb⟩; replace M := M.call hb; clear hb)))
         go_roundw
         case rel => exact ⟨i + 1, by omega, by omega, rfl, by rw [E.out.1, E.out.2] at M; exact M⟩
         case measure => simp [intOf]; omega
       · have ei : r + 1 = i := (by omega); subst ei
         go_wp2_with (first | (refine m_ld1 M rfl rfl rfl (by (repeat' (first | exact List.mem_cons_self | refine List.mem_cons_of_mem _ ?_))) (by rfl) ?_) | (refine m_ldr M rfl rfl rfl (by (repeat' (first | exact List.mem_cons_self | refine List.mem_cons_of_mem _ ?_))) (by (try simp only [List.take_succ_cons, List.take_zero, List.take_nil, List.drop_succ_cons, List.drop_zero, List.drop_nil, List.cons_append, List.nil_append, List.append_nil, List.length_cons, List.length_nil, Nat.reduceAdd, Nat.zero_add, Nat.add_zero]); rfl) (by rfl) ?_) | (refine m_st M rfl rfl rfl (by first | exact (rfl : _ = Value.agg _) | exact (rfl : _ = Value.int _ _) | exact (rfl : _ = Value.bool _) | exact (rfl : _ = Value.slice _ _ _) | exact (rfl : _ = Value.pointer _) | exact (rfl : _ = Value.map _) | exact (rfl : _ = Value.func _ _ _) | exact (rfl : _ = Value.string _)) (by rfl) (by (repeat (first | exact Upd.head | apply Upd.tail))) (by (try simp only [List.take_succ_cons, List.take_zero, List.take_nil, List.drop_succ_cons, List.drop_zero, List.drop_nil, List.cons_append, List.nil_append, List.append_nil, List.length_cons, List.length_nil, Nat.reduceAdd, Nat.zero_add, Nat.add_zero]); rfl) (by simp) (by simp [Value.oneCell']) (by kernel_rfl) ?_; clear M; (try clear wc); intro wc M) | (refine m_al M rfl rfl ?_; clear M; (try clear wc); intro g wc M) | (refine m_bx M rfl rfl (by first | exact (rfl : _ = Value.agg _) | exact (rfl : _ = Value.int _ _) | exact (rfl : _ = Value.bool _) | exact (rfl : _ = Value.slice _ _ _) | exact (rfl : _ = Value.pointer _) | exact (rfl : _ = Value.map _) | exact (rfl : _ = Value.func _ _ _) | exact (rfl : _ = Value.string _)) (by rfl) ?_; clear M; (try clear wc); intro g wc M))
         refine wp_region_G (fun L W => (L.getD 4 true = false → Mem w noEx W [(gS, .cells [.int .i64 p0, .int .i64 p1, .int .i64 (j.t0 - t * j.a1), .int .i64 (j.t1 - t * j.a0), .int .i64 (j.r0 - (r + 1) * j.b1), .int .i64 (j.r1 - (r + 1) * j.b0), .int .i64 j.u0, .int .i64 j.u1, .int .i64 j.d0, .int .i64 j.d1, .int .i64 j.a0, .int .i64 j.a1, .int .i64 j.b0, .int .i64 j.b1, .int .i64 j.le]), (gR, .cells [.int .i64 0, .int .i64 0, .int .i64 0, .int .i64 0, .int .i64 0]), (gK, .cells [.int .i64 (p0 - j.d1), .int .i64 (p1 - j.d0), .int .i64 (t), .int .i64 (r + 1), .int .i64 (lf - 1)])]) ∧ (L.getD 4 true = true → Mem w noEx W [(gS, .cells [.int .i64 p0, .int .i64 p1, .int .i64 (j.t0 - t * j.a1), .int .i64 (j.t1 - t * j.a0), .int .i64 (j.r0 - (r + 1) * j.b1), .int .i64 (j.r1 - (r + 1) * j.b0), .int .i64 j.u0, .int .i64 j.u1, .int .i64 j.d0, .int .i64 j.d1, .int .i64 j.a0, .int .i64 j.a1, .int .i64 j.b0, .int .i64 j.b1, .int .i64 j.le]), (gR, .cells [.int .i64 (p0 - j.d1), .int .i64 (p1 - j.d0), .int .i64 (t), .int .i64 (r + 1), .int .i64 (lf - 1)]), (gK, .cells [.int .i64 (p0 - j.d1), .int .i64 (p1 - j.d0), .int .i64 (t), .int .i64 (r + 1), .int .i64 (lf - 1)])])) 6 (by kernel_rfl) (by kernel_rfl) ?s0 ?r0
         case s0 => (exact ⟨fun _ => M.drew, fun h => (no_of h (by kernel_rfl)).elim⟩)
         intro W0
         refine wpG_take (i := 0) (v := ?v1) rfl (by kernel_rfl) (by intro L w; simp only [getD_set_ne true (show (0 : Nat) ≠ 4 from by decide)]) (fun _ _ _ h => h) (Or.inl ⟨by rfl, ?y1⟩) ?r1
         case y1 => (intro w' hy; obtain ⟨L, hD, hl, hS⟩ := hy; have M0 := hS.1 (hD.wait (i := 0) (by kernel_rfl) hl); clear hS; first | (refine Eq.trans (rn_one (Mem.get M0 (by (repeat' (first | exact List.mem_cons_self | refine List.mem_cons_of_mem _ ?_)))) rfl rfl (by rfl)) ?_; with_reducible rfl) | (refine Eq.trans (rn_row (Mem.get M0 (by (repeat' (first | exact List.mem_cons_self | refine List.mem_cons_of_mem _ ?_)))) rfl rfl (by (try simp only [List.take_succ_cons, List.take_zero, List.take_nil, List.drop_succ_cons, List.drop_zero, List.drop_nil, List.cons_append, List.nil_append, List.append_nil, List.length_cons, List.length_nil, Nat.reduceAdd, Nat.zero_add, Nat.add_zero]); rfl) (by rfl)) ?_; with_reducible rfl); (try with_reducible rfl))
         (try simp only [Act.put, List.getElem_toArray, List.getElem_cons_succ, List.getElem_cons_zero, List.setIfInBounds_toArray, List.set_cons_zero, List.set_cons_succ])
         refine wpG_take (i := 1) (v := ?v2) rfl (by kernel_rfl) (by intro L w; simp only [getD_set_ne true (show (1 : Nat) ≠ 4 from by decide)]) (fun _ _ _ h => h) (Or.inl ⟨by rfl, ?y2⟩) ?r2
         case y2 => (intro w' hy; obtain ⟨L, hD, hl, hS⟩ := hy; have M0 := hS.1 (hD.wait (i := 2) (by kernel_rfl) (hD.wait (m := 2) (i := 1) (by kernel_rfl) hl)); clear hS; first | (refine Eq.trans (rn_one (Mem.get M0 (by (repeat' (first | exact List.mem_cons_self | refine List.mem_cons_of_mem _ ?_)))) rfl rfl (by rfl)) ?_; with_reducible rfl) | (refine Eq.trans (rn_row (Mem.get M0 (by (repeat' (first | exact List.mem_cons_self | refine List.mem_cons_of_mem _ ?_)))) rfl rfl (by (try simp only [List.take_succ_cons, List.take_zero, List.take_nil, List.drop_succ_cons, List.drop_zero, List.drop_nil, List.cons_append, List.nil_append, List.append_nil, List.length_cons, List.length_nil, Nat.reduceAdd, Nat.zero_add, Nat.add_zero]); rfl) (by rfl)) ?_; with_reducible rfl); (try with_reducible rfl))
         (try simp only [Act.put, List.getElem_toArray, List.getElem_cons_succ, List.getElem_cons_zero, List.setIfInBounds_toArray, List.set_cons_zero, List.set_cons_succ])
         refine wpG_step (i := 2) (by kernel_rfl) rfl (by rfl) ?r3
         intro hS K hK
         (have M0 := hS.1 (by kernel_rfl); clear hS; go_simp; refine (spoiled_any (thinJ j p0 p1 (t) (r + 1)) _).mono ?_; rintro e V1 ⟨rfl, hb1⟩; refine hK.out _ _ ⟨fun _ => M0.call hb1, fun h => (no_of h (by kernel_rfl)).elim⟩ ?_; clear M0 hb1)
         clear hK K; intro W3
         (try simp only [Act.put, List.getElem_toArray, List.getElem_cons_succ, List.getElem_cons_zero, List.setIfInBounds_toArray, List.set_cons_zero, List.set_cons_succ])
         refine wpG_take (i := 3) (v := ?v4) rfl (by kernel_rfl) (by intro L w; simp only [getD_set_ne true (show (3 : Nat) ≠ 4 from by decide)]) (fun _ _ _ h => h) (Or.inl ⟨by rfl, ?y4⟩) ?r4
         case y4 => (intro w' hy; obtain ⟨L, hD, hl, hS⟩ := hy; clear hD hl hS; go_simp; (try with_reducible rfl))
         (try simp only [Act.put, List.getElem_toArray, List.getElem_cons_succ, List.getElem_cons_zero, List.setIfInBounds_toArray, List.set_cons_zero, List.set_cons_succ])
         refine wpG_step (i := 4) (by kernel_rfl) rfl (by rfl) ?r5
         intro hS K hK
         (have M0 := hS.1 (by kernel_rfl); clear hS; refine m_stw M0 rfl rfl (by first | exact (rfl : _ = Value.agg _) | exact (rfl : _ = Value.int _ _) | exact (rfl : _ = Value.bool _) | exact (rfl : _ = Value.slice _ _ _) | exact (rfl : _ = Value.pointer _) | exact (rfl : _ = Value.map _) | exact (rfl : _ = Value.func _ _ _) | exact (rfl : _ = Value.string _)) (by rfl) (by (repeat (first | exact Upd.head | apply Upd.tail))) (by (try simp only [List.take_succ_cons, List.take_zero, List.take_nil, List.drop_succ_cons, List.drop_zero, List.drop_nil, List.cons_append, List.nil_append, List.append_nil, List.length_cons, List.length_nil, Nat.reduceAdd, Nat.zero_add, Nat.add_zero]); rfl) (by simp) (by simp [Value.oneCell']) (by kernel_rfl) ?_; intro V2 M2; refine hK.out _ _ ⟨fun h => (no_of (by kernel_rfl) h).elim, fun _ => M2⟩ ?_; clear M0 M2)
         clear hK K; intro W5
         (try simp only [Act.put, List.getElem_toArray, List.getElem_cons_succ, List.getElem_cons_zero, List.setIfInBounds_toArray, List.set_cons_zero, List.set_cons_succ])
         refine wpG_take (i := 5) (v := ?v6) rfl (by kernel_rfl) (by intro L w; simp only [getD_set_ne true (show (5 : Nat) ≠ 4 from by decide)]) (fun _ _ _ h => h) (Or.inl ⟨by rfl, ?y6⟩) ?r6
         case y6 => (intro w' hy; obtain ⟨L, hD, hl, hS⟩ := hy; clear hD hl hS; go_simp; (try with_reducible rfl))
         (try simp only [Act.put, List.getElem_toArray, List.getElem_cons_succ, List.getElem_cons_zero, List.setIfInBounds_toArray, List.set_cons_zero, List.set_cons_succ])
         refine wpG_end (by kernel_rfl) ?_
         intro W
          hS
         have M1 := hS.2 (by kernel_rfl)
         clear hS
         go_wp2
         refine ret_M1 (t := 6) (t' := 7) (ty := 173) M1 (by rfl) (by rfl) (by rfl) (by rfl) (by (repeat' (first | exact List.mem_cons_self | refine List.mem_cons_of_mem _ ?_))) (by rfl) ?_
         exact ⟨rfl, M1.below⟩
end Go.Proofs.Ytlahdenlmmlplaa
end

section
/-
 reed: a tuner who is to read the meter.
-/
namespace Go.Proofs.Ytlahdenlmmlplaa
set_option linter.unusedSimpArgs false
set_option linter.unusedVariables false
open Go.RowKit Go.Shelf
attribute [local go_sem] Oper.semAt_some
def stopsP (j : Jb) (s0 s1 : Int) : Nat → Int → Int → Int → Int → Bool
 | 0, p0, p1, _, _ => hasB s0 s1 p0 p1
 | n + 1, p0, p1, t, r => hasB s0 s1 p0 p1 || ((okT j (t + 1) r && (rdgs (p0 + j.u0) (p1 + j.u1) j.me).all fun x => stopsP j s0 s1 n x.1 x.2 (t + 1) r) || (okT j t (r + 1) && (rdgs (p0 - j.d1) (p1 - j.d0) j.me).all fun x => stopsP j s0 s1 n x.1 x.2 t (r + 1)))
def readsP (j : Jb) (s0 s1 : Int) (n : Nat) (p0 p1 t r : Int) : Bool := (rdgs p0 p1 j.me).all fun x => stopsP j s0 s1 n x.1 x.2 t r
def strokeP (j : Jb) (s0 s1 : Int) : Nat → Int → Int → Int → Int → Int
 | 0, _, _, _, _ => 0
 | n + 1, p0, p1, t, r => if (okT j (t + 1) r && readsP j s0 s1 n (p0 + j.u0) (p1 + j.u1) (t + 1) r) = true then 1 else if (okT j t (r + 1) && readsP j s0 s1 n (p0 - j.d1) (p1 - j.d0) t (r + 1)) = true then 2 else 0
theorem stopsP_eq (j : Jb) (s0 s1 : Int) (n : Nat) (p0 p1 t r : Int) : stopsP j s0 s1 n p0 p1 t r = (hasB s0 s1 p0 p1 || decide (0 < strokeP j s0 s1 n p0 p1 t r)) := by
 cases n with
 | zero => simp [stopsP, strokeP]
 | succ n =>
   show (hasB s0 s1 p0 p1 || ((okT j (t + 1) r && readsP j s0 s1 n (p0 + j.u0) (p1 + j.u1) (t + 1) r) || (okT j t (r + 1) && readsP j s0 s1 n (p0 - j.d1) (p1 - j.d0) t (r + 1)))) = (hasB s0 s1 p0 p1 || decide (0 < (if (okT j (t + 1) r && readsP j s0 s1 n (p0 + j.u0) (p1 + j.u1) (t + 1) r) = true then (1 : Int) else if (okT j t (r + 1) && readsP j s0 s1 n (p0 - j.d1) (p1 - j.d0) t (r + 1)) = true then 2 else 0)))
   generalize (okT j (t + 1) r && readsP j s0 s1 n (p0 + j.u0) (p1 + j.u1) (t + 1) r) = x
   generalize (okT j t (r + 1) && readsP j s0 s1 n (p0 - j.d1) (p1 - j.d0) t (r + 1)) = y
   cases x <;> cases y <;> rfl
def okG (j : Jb) (s0 s1 : Int) (key v : Value) : Prop := ∀ (p0 p1 t r : Int) (n : Nat), key = kn5 p0 p1 t r n → v = .bool (stopsP j s0 s1 n p0 p1 t r)
def memG (j : Jb) (s0 s1 : Int) : BA := .any (memoQ Try.prog 173 (okG j s0 s1))
structure Bnd (n : Nat) (p0 p1 t r : Int) : Prop where
 lv : n ≤ 10
 p0 : -(100000 - 100 * (n : Int)) ≤ p0 ∧ p0 ≤ 100000 - 100 * (n : Int)
 p1 : -(100000 - 100 * (n : Int)) ≤ p1 ∧ p1 ≤ 100000 - 100 * (n : Int)
 t : 0 ≤ t ∧ t ≤ 900 - (n : Int)
 r : 0 ≤ r ∧ r ≤ 900 - (n : Int)
structure Gm (j : Jb) (A : Option Addr) (c : Nat) (s0 s1 : Int) (bg bx bm : Nat) (w : World) : Prop where
 g : Bk w bg (gmA j A c s0 s1 bg bx).toArray
 x : Bk w bx #[.map (some bm)]
 m : (memG j s0 s1).holds w bm
 ng : bg ≠ bm
 nx : bx ≠ bm
def GPost (j : Jb) (s0 s1 : Int) (bm : Nat) (v : Value) (w : World) (e : Ending) (w' : World) : Prop := e = .returned v ∧ w.grownBy w' (some bm) ∧ (memG j s0 s1).holds w' bm
def StopsC (j : Jb) (A : Option Addr) (c : Nat) (s0 s1 : Int) (bg bx bm : Nat) (n : Nat) : Prop :=
 ∀ (p0 p1 t r : Int) (w : World), Bnd n p0 p1 t r → Gm j A c s0 s1 bg bx bm w →
   Calls Try.prog 126 #[kn5 p0 p1 t r n, .pointer (some ⟨bg, 0, none⟩), .pointer (some ⟨bx, 0, none⟩)] w (GPost j s0 s1 bm (.bool (stopsP j s0 s1 n p0 p1 t r)) w)
section
variable {j : Jb} {A : Option Addr} {c : Nat} {s0 s1 : Int} {bg bx bm : Nat} {w w' : World}
theorem Gm.kept (h : Gm j A c s0 s1 bg bx bm w) (hg : w.grownBy w' (some bm)) (hm : (memG j s0 s1).holds w' bm) : Gm j A c s0 s1 bg bx bm w' :=
 ⟨h.g.grown hg (fun e => h.ng (by injection e)), h.x.grown hg (fun e => h.nx (by injection e)), hm, h.ng, h.nx⟩
theorem Gm.same (h : Gm j A c s0 s1 bg bx bm w) (hs : w.heap.size ≤ w'.heap.size) (hb : ∀ b, b < w.heap.size → w'.heap[b]? = w.heap[b]?) : Gm j A c s0 s1 bg bx bm w' :=
 ⟨BA.same (p := .cells (gmA j A c s0 s1 bg bx)) h.g hs (hb _ h.g.lt), BA.same (p := .cells [.map (some bm)]) h.x hs (hb _ h.x.lt), BA.same h.m hs (hb _ (BA.lt h.m)), h.ng, h.nx⟩
theorem Gm.mem {ex : Nat → Prop} {L : List (Nat × BA)} (h : Gm j A c s0 s1 bg bx bm w) (M : Mem w (fun b => b = bm) w' L) (hm : (bm, memG j s0 s1) ∈ L) : Gm j A c s0 s1 bg bx bm w' := h.kept M.grown (M.at hm)
end
def allS (j : Jb) (s0 s1 : Int) (n : Nat) (t r : Int) {B : Int} (pre : List (Rg B)) : Bool := (pre.map Subtype.val).all fun x => stopsP j s0 s1 n x.1 x.2 t r
theorem allS_snoc (j : Jb) (s0 s1 : Int) (n : Nat) (t r : Int) {B : Int} (pre : List (Rg B)) (x : Rg B) : allS j s0 s1 n t r (pre ++ [x]) = (allS j s0 s1 n t r pre && stopsP j s0 s1 n x.1.1 x.1.2 t r) := by simp [allS]
theorem reads_any (j : Jb) (A : Option Addr) (c : Nat) (s0 s1 : Int) (bg bx bm : Nat) (n : Nat) (hj : j.good) (hS : StopsC j A c s0 s1 bg bx bm n) (p0 p1 t r : Int) (w : World) (hb : Bnd n p0 p1 t r) (hg : Gm j A c s0 s1 bg bx bm w) :
   Calls Try.prog 119 #[.agg (gmA j A c s0 s1 bg bx).toArray, kn5 p0 p1 t r n] w (GPost j s0 s1 bm (.bool (readsP j s0 s1 n p0 p1 t r)) w) := by
 have HS := Lib.hid hS
 have HG := Lib.hid hg
 have HB := Lib.hid hb
 have M := Mem.initEx hg.m
 clear hS hg hb
 refine (callsIn_wide (n := 8)).1 (callsIn_of_wp_marks Try.func119 rfl trivial (wpIn_wide.2 ?_) rfl)
 simp only [Try.ntmps119, List.size_toArray, List.length_cons, List.length_nil, Nat.reduceAdd, Nat.reduceSub, Array.replicate_succ, Array.replicate_zero, List.push_toArray, List.append_toArray, List.nil_append, List.cons_append]
 refine m_start M ?_
 clear M
 intro wc M
 go_wp2_with (first | (refine m_ld1 M rfl rfl rfl (by (repeat' (first | exact List.mem_cons_self | refine List.mem_cons_of_mem _ ?_))) (by rfl) ?_) | (refine m_ldr M rfl rfl rfl (by (repeat' (first | exact List.mem_cons_self | refine List.mem_cons_of_mem _ ?_))) (by (try simp only [List.take_succ_cons, List.take_zero, List.take_nil, List.drop_succ_cons, List.drop_zero, List.drop_nil, List.cons_append, List.nil_append, List.append_nil, List.length_cons, List.length_nil, Nat.reduceAdd, Nat.zero_add, Nat.add_zero]); rfl) (by rfl) ?_) | (refine m_st M rfl rfl rfl (by first | exact (rfl : _ = Value.agg _) | exact (rfl : _ = Value.int _ _) | exact (rfl : _ = Value.bool _) | exact (rfl : _ = Value.slice _ _ _) | exact (rfl : _ = Value.pointer _) | exact (rfl : _ = Value.map _) | exact (rfl : _ = Value.func _ _ _) | exact (rfl : _ = Value.string _)) (by rfl) (by (repeat (first | exact Upd.head | apply Upd.tail))) (by (try simp only [List.take_succ_cons, List.take_zero, List.take_nil, List.drop_succ_cons, List.drop_zero, List.drop_nil, List.cons_append, List.nil_append, List.append_nil, List.length_cons, List.length_nil, Nat.reduceAdd, Nat.zero_add, Nat.add_zero]); rfl) (by simp) (by simp [Value.oneCell']) (by kernel_rfl) ?_; clear M; (try clear wc); intro wc M) | (refine m_al M rfl rfl ?_; clear M; (try clear wc); intro g wc M) | (refine m_bx M rfl rfl (by first | exact (rfl : _ = Value.agg _) | exact (rfl : _ = Value.int _ _) | exact (rfl : _ = Value.bool _) | exact (rfl : _ = Value.slice _ _ _) | exact (rfl : _ = Value.pointer _) | exact (rfl : _ = Value.map _) | exact (rfl : _ = Value.func _ _ _) | exact (rfl : _ = Value.string _)) (by rfl) ?_; clear M; (try clear wc); intro g wc M))
 apply wp_scope_straight
 go_wp2_with (first | (refine m_ld1 M rfl rfl rfl (by (repeat' (first | exact List.mem_cons_self | refine List.mem_cons_of_mem _ ?_))) (by rfl) ?_) | (refine m_ldr M rfl rfl rfl (by (repeat' (first | exact List.mem_cons_self | refine List.mem_cons_of_mem _ ?_))) (by (try simp only [List.take_succ_cons, List.take_zero, List.take_nil, List.drop_succ_cons, List.drop_zero, List.drop_nil, List.cons_append, List.nil_append, List.append_nil, List.length_cons, List.length_nil, Nat.reduceAdd, Nat.zero_add, Nat.add_zero]); rfl) (by rfl) ?_) | (refine m_st M rfl rfl rfl (by first | exact (rfl : _ = Value.agg _) | exact (rfl : _ = Value.int _ _) | exact (rfl : _ = Value.bool _) | exact (rfl : _ = Value.slice _ _ _) | exact (rfl : _ = Value.pointer _) | exact (rfl : _ = Value.map _) | exact (rfl : _ = Value.func _ _ _) | exact (rfl : _ = Value.string _)) (by rfl) (by (repeat (first | exact Upd.head | apply Upd.tail))) (by (try simp only [List.take_succ_cons, List.take_zero, List.take_nil, List.drop_succ_cons, List.drop_zero, List.drop_nil, List.cons_append, List.nil_append, List.append_nil, List.length_cons, List.length_nil, Nat.reduceAdd, Nat.zero_add, Nat.add_zero]); rfl) (by simp) (by simp [Value.oneCell']) (by kernel_rfl) ?_; clear M; (try clear wc); intro wc M) | (refine m_al M rfl rfl ?_; clear M; (try clear wc); intro g wc M) | (refine m_bx M rfl rfl (by first | exact (rfl : _ = Value.agg _) | exact (rfl : _ = Value.int _ _) | exact (rfl : _ = Value.bool _) | exact (rfl : _ = Value.slice _ _ _) | exact (rfl : _ = Value.pointer _) | exact (rfl : _ = Value.map _) | exact (rfl : _ = Value.func _ _ _) | exact (rfl : _ = Value.string _)) (by rfl) ?_; clear M; (try clear wc); intro g wc M))
 apply wp_label
 go_wp2_with (first | (refine m_ld1 M rfl rfl rfl (by (repeat' (first | exact List.mem_cons_self | refine List.mem_cons_of_mem _ ?_))) (by rfl) ?_) | (refine m_ldr M rfl rfl rfl (by (repeat' (first | exact List.mem_cons_self | refine List.mem_cons_of_mem _ ?_))) (by (try simp only [List.take_succ_cons, List.take_zero, List.take_nil, List.drop_succ_cons, List.drop_zero, List.drop_nil, List.cons_append, List.nil_append, List.append_nil, List.length_cons, List.length_nil, Nat.reduceAdd, Nat.zero_add, Nat.add_zero]); rfl) (by rfl) ?_) | (refine m_st M rfl rfl rfl (by first | exact (rfl : _ = Value.agg _) | exact (rfl : _ = Value.int _ _) | exact (rfl : _ = Value.bool _) | exact (rfl : _ = Value.slice _ _ _) | exact (rfl : _ = Value.pointer _) | exact (rfl : _ = Value.map _) | exact (rfl : _ = Value.func _ _ _) | exact (rfl : _ = Value.string _)) (by rfl) (by (repeat (first | exact Upd.head | apply Upd.tail))) (by (try simp only [List.take_succ_cons, List.take_zero, List.take_nil, List.drop_succ_cons, List.drop_zero, List.drop_nil, List.cons_append, List.nil_append, List.append_nil, List.length_cons, List.length_nil, Nat.reduceAdd, Nat.zero_add, Nat.add_zero]); rfl) (by simp) (by simp [Value.oneCell']) (by kernel_rfl) ?_; clear M; (try clear wc); intro wc M) | (refine m_al M rfl rfl ?_; clear M; (try clear wc); intro g wc M) | (refine m_bx M rfl rfl (by first | exact (rfl : _ = Value.agg _) | exact (rfl : _ = Value.int _ _) | exact (rfl : _ = Value.bool _) | exact (rfl : _ = Value.slice _ _ _) | exact (rfl : _ = Value.pointer _) | exact (rfl : _ = Value.map _) | exact (rfl : _ = Value.func _ _ _) | exact (rfl : _ = Value.string _)) (by rfl) ?_; clear M; (try clear wc); intro g wc M) | (go_at_call 128; refine (readings_any _ _ _ _).mono ?_; rintro e wc ⟨b1, b2, rfl, N⟩; replace M := M.join N; clear N; simp only [List.cons_append, List.nil_append] at M))
 rename_i gG gK wq K0 hK0
 have hnd := M.nd
 simp only [List.map_cons, List.map_nil, List.nodup_cons, List.mem_cons, not_or, List.not_mem_nil, not_false_eq_true, List.nodup_nil, and_true] at hnd
 obtain ⟨⟨-, -, -, -, nx2⟩, ⟨-, -, -, nx1⟩, ⟨-, -, nxA⟩, -⟩ := hnd
 have hz0 := M.size
 have q1 := M.get (g := b1) (by (repeat' (first | exact List.mem_cons_self | refine List.mem_cons_of_mem _ ?_)))
 have q2 := M.get (g := b2) (by (repeat' (first | exact List.mem_cons_self | refine List.mem_cons_of_mem _ ?_)))
 replace M := M.forget.forget
 have hL : ∀ p ∈ [(g, BA.cells [.bool true]), (gK, .cells [.int .i64 p0, .int .i64 p1, .int .i64 t, .int .i64 r, .int .i64 n]), (gG, .cells (gmA j A c s0 s1 bg bx)), (bm, memG j s0 s1)], p.1 < wc.heap.size := fun p hp => BA.lt (M.blk p hp).2
 have hL' : ∀ p ∈ [(g, BA.cells [.bool false]), (gK, .cells [.int .i64 p0, .int .i64 p1, .int .i64 t, .int .i64 r, .int .i64 n]), (gG, .cells (gmA j A c s0 s1 bg bx)), (bm, memG j s0 s1)], p.1 < wc.heap.size := by
   intro p hp
   rcases List.mem_cons.1 hp with rfl | hp
   · exact hL (g, BA.cells [.bool true]) List.mem_cons_self
   · exact hL p (List.mem_cons_of_mem _ hp)
 have hlm : bm < wc.heap.size := hL (bm, memG j s0 s1) (by (repeat' (first | exact List.mem_cons_self | refine List.mem_cons_of_mem _ ?_)))
 have hlg : g < wc.heap.size := hL (g, BA.cells [.bool true]) (by (repeat' (first | exact List.mem_cons_self | refine List.mem_cons_of_mem _ ?_)))
 obtain ⟨hlv, hb0, hb1, hbt, hbr⟩ := HB.out
 have hme := hj.me
 refine (wpIn_wide (n := 8)).1 (wpIn_rangeFunc_ownH (α := Rg (100000 - 100 * (n : Int))) rfl (by omega) (gf := 130) (lb := #[.pointer (some ⟨b1, 0, none⟩), .pointer (some ⟨b2, 0, none⟩)]) rfl trivial (enters_of Try.func130 (by kernel_rfl) rfl)
   (readings_stops 7 (by omega) b1 b2 wc.heap.size bm p0 p1 j.me _ (by omega) (by omega) hb0 hb1 (by omega) (by omega) q1.lt q2.lt nx1 nx2 wc q1 q2)
   (fun h k => Kp.t h k) (fun W l o o' hl h _ _ => ⟨by simp, fun b hb _ => World.putObj_heap_other (by omega)⟩) (Below.refl _ _) (fun _ => rfl)
   (fun pre W => Mem w (fun b => b = bm) W [(g, BA.cells [.bool true]), (gK, .cells [.int .i64 p0, .int .i64 p1, .int .i64 t, .int .i64 r, .int .i64 n]), (gG, .cells (gmA j A c s0 s1 bg bx)), (bm, memG j s0 s1)] ∧ Hid (allS j s0 s1 n t r pre = true) ∧ wc.heap.size ≤ W.heap.size)
   (fun cd pre W => cd = .exit 0 ∧ Mem w (fun b => b = bm) W [(g, BA.cells [.bool false]), (gK, .cells [.int .i64 p0, .int .i64 p1, .int .i64 t, .int .i64 r, .int .i64 n]), (gG, .cells (gmA j A c s0 s1 bg bx)), (bm, memG j s0 s1)] ∧ Hid (allS j s0 s1 n t r pre = false) ∧ wc.heap.size ≤ W.heap.size)
   (fun s W W' row hs hg hr => ⟨hs.1.far hg (fun r e => (hr r e).1) hz0 hL, hs.2.1, Nat.le_trans hs.2.2 hg.size⟩)
   (fun cd s W W' row hs hg hr => ⟨hs.1, hs.2.1.far hg (fun r e => (hr r e).1) hz0 hL', hs.2.2.1, Nat.le_trans hs.2.2.2 hg.size⟩)
   ⟨M, rfl, Nat.le_refl _⟩
   (fun x a' W => ∃ gx, Bk W gx #[.int .i64 x.1.1, .int .i64 x.1.2] ∧ a' = { tmps := #[.agg (gmA j A c s0 s1 bg bx).toArray, kn5 p0 p1 t r n, .pointer (some ⟨gG, 0, none⟩), .pointer (some ⟨gK, 0, none⟩), .bool false, .pointer (some ⟨g, 0, none⟩), .pointer (some ⟨gx, 0, none⟩), .pointer (some ⟨gK, 0, none⟩), R2 p0 p1, .pointer (some ⟨gG, 0, none⟩), .pointer (some ⟨gG, 17, none⟩), .int .i64 j.me, .func (.func 130) #[] #[.pointer (some ⟨b1, 0, none⟩), .pointer (some ⟨b2, 0, none⟩)], R2 x.1.1 x.1.2, undef, undef, undef, undef, undef, undef, undef, undef, undef, undef, undef, undef, undef], defers := [] })
   (fun x a' _ W W' row hs hg hr => by
     obtain ⟨gx, bX, rfl⟩ := hs
     refine ⟨gx, bX.grown hg (fun e => ?_), rfl⟩
     obtain ⟨_, o, ho, hc⟩ := hr gx e.symm
     have h1 := bX.cell 0
     simp only [World.cell?, ho] at h1
     cases o <;> simp [Obj.isCells] at hc h1)
   ?assign ?body ?done ?stop)
 case assign =>
   rintro l pre x W K ⟨M1, hp, hz⟩ hK
   gi_wp2
   exact hK _ _ ((KeepsOthers.alloc _ _).from _) ⟨by simp, fun b hb _ => (MapKept.heap_alloc W _).2 b (by omega)⟩ ⟨M1.alloc _, hp, by simp; omega⟩ ⟨W.heap.size, Bk.new W _ _, rfl⟩
 case body =>
   rintro l pre x a' W hl - ⟨M, hp, hz⟩ ⟨gx, bX, rfl⟩ hlt
   have C := HS.out x.1.1 x.1.2 t r W ⟨hlv, x.2.1, x.2.2, hbt, hbr⟩ (HG.out.kept M.grown (M.at (q := (bm, memG j s0 s1)) (by (repeat' (first | exact List.mem_cons_self | refine List.mem_cons_of_mem _ ?_)))))
   have HP : Hid (allS j s0 s1 n t r (pre ++ [x]) = stopsP j s0 s1 n x.1.1 x.1.2 t r) := by (show _ = _; rw [allS_snoc, hp.out]; simp)
   cases hv : stopsP j s0 s1 n x.1.1 x.1.2 t r with
   | true =>
     rw [hv] at C HP
     clear hv
     gi_wp2_with (first | (refine i_ld1 M rfl rfl rfl (by (repeat' (first | exact List.mem_cons_self | refine List.mem_cons_of_mem _ ?_))) (by rfl) ?_) | (refine i_ldr M rfl rfl rfl (by (repeat' (first | exact List.mem_cons_self | refine List.mem_cons_of_mem _ ?_))) (by (try simp only [List.take_succ_cons, List.take_zero, List.take_nil, List.drop_succ_cons, List.drop_zero, List.drop_nil, List.cons_append, List.nil_append, List.append_nil, List.length_cons, List.length_nil, Nat.reduceAdd, Nat.zero_add, Nat.add_zero]); rfl) (by rfl) ?_) | (refine i_al M rfl rfl ?_; clear M; (try clear wc); intro g wc M) | (refine i_bx M rfl rfl (by first | exact (rfl : _ = Value.agg _) | exact (rfl : _ = Value.int _ _) | exact (rfl : _ = Value.bool _) | exact (rfl : _ = Value.slice _ _ _) | exact (rfl : _ = Value.pointer _) | exact (rfl : _ = Value.map _) | exact (rfl : _ = Value.func _ _ _) | exact (rfl : _ = Value.string _)) (by rfl) ?_; clear M; (try clear wc); intro g wc M) | (refine i_st M rfl rfl rfl (by first | exact (rfl : _ = Value.agg _) | exact (rfl : _ = Value.int _ _) | exact (rfl : _ = Value.bool _) | exact (rfl : _ = Value.slice _ _ _) | exact (rfl : _ = Value.pointer _) | exact (rfl : _ = Value.map _) | exact (rfl : _ = Value.func _ _ _) | exact (rfl : _ = Value.string _)) (by rfl) (by (repeat (first | exact Upd.head | apply Upd.tail))) (by (try simp only [List.take_succ_cons, List.take_zero, List.take_nil, List.drop_succ_cons, List.drop_zero, List.drop_nil, List.cons_append, List.nil_append, List.append_nil, List.length_cons, List.length_nil, Nat.reduceAdd, Nat.zero_add, Nat.add_zero]); rfl) (by simp) (by simp [Value.oneCell']) (by kernel_rfl) ?_; clear M; (try clear wc); intro wc M oth; clear oth) | (refine i_lor bX rfl rfl rfl (by (try simp only [List.take_succ_cons, List.take_zero, List.take_nil, List.drop_succ_cons, List.drop_zero, List.drop_nil, List.cons_append, List.nil_append, List.append_nil, List.length_cons, List.length_nil, Nat.reduceAdd, Nat.zero_add, Nat.add_zero]); rfl) (by rfl) ?_) | (refine ⟨trivial, ?_⟩; gi_at_call 126; refine (CallsIn.inRound l (callsIn_wide.2 C)).mono ?_; rintro e W2 ⟨rfl, hgr, hm⟩; replace M := M.callW (L' := [(g, BA.cells [.bool true]), (gK, .cells [.int .i64 p0, .int .i64 p1, .int .i64 t, .int .i64 r, .int .i64 n]), (gG, .cells (gmA j A c s0 s1 bg bx)), (bm, memG j s0 s1)]) (by (repeat (first | exact Upd.head | apply Upd.tail))) hgr hm))
     exact ⟨KeepsFrom.of_grownBy hgr (fun i e => by cases e; exact hlm), ⟨hgr.size, fun b hb hx => hgr.block b (by omega) (fun e => hx (by injection e))⟩, M, HP, Nat.le_trans hz hgr.size⟩
   | false =>
     rw [hv] at C HP
     clear hv
     gi_wp2_with (first | (refine i_st M rfl rfl rfl (by first | exact (rfl : _ = Value.agg _) | exact (rfl : _ = Value.int _ _) | exact (rfl : _ = Value.bool _) | exact (rfl : _ = Value.slice _ _ _) | exact (rfl : _ = Value.pointer _) | exact (rfl : _ = Value.map _) | exact (rfl : _ = Value.func _ _ _) | exact (rfl : _ = Value.string _)) (by rfl) (by (repeat (first | exact Upd.head | apply Upd.tail))) (by (try simp only [List.take_succ_cons, List.take_zero, List.take_nil, List.drop_succ_cons, List.drop_zero, List.drop_nil, List.cons_append, List.nil_append, List.append_nil, List.length_cons, List.length_nil, Nat.reduceAdd, Nat.zero_add, Nat.add_zero]); rfl) (by simp) (by simp [Value.oneCell']) (by kernel_rfl) ?_; clear M; intro W3 M oth) | (refine i_ld1 M rfl rfl rfl (by (repeat' (first | exact List.mem_cons_self | refine List.mem_cons_of_mem _ ?_))) (by rfl) ?_) | (refine i_ldr M rfl rfl rfl (by (repeat' (first | exact List.mem_cons_self | refine List.mem_cons_of_mem _ ?_))) (by (try simp only [List.take_succ_cons, List.take_zero, List.take_nil, List.drop_succ_cons, List.drop_zero, List.drop_nil, List.cons_append, List.nil_append, List.append_nil, List.length_cons, List.length_nil, Nat.reduceAdd, Nat.zero_add, Nat.add_zero]); rfl) (by rfl) ?_) | (refine i_al M rfl rfl ?_; clear M; (try clear wc); intro g wc M) | (refine i_bx M rfl rfl (by first | exact (rfl : _ = Value.agg _) | exact (rfl : _ = Value.int _ _) | exact (rfl : _ = Value.bool _) | exact (rfl : _ = Value.slice _ _ _) | exact (rfl : _ = Value.pointer _) | exact (rfl : _ = Value.map _) | exact (rfl : _ = Value.func _ _ _) | exact (rfl : _ = Value.string _)) (by rfl) ?_; clear M; (try clear wc); intro g wc M) | (refine i_st M rfl rfl rfl (by first | exact (rfl : _ = Value.agg _) | exact (rfl : _ = Value.int _ _) | exact (rfl : _ = Value.bool _) | exact (rfl : _ = Value.slice _ _ _) | exact (rfl : _ = Value.pointer _) | exact (rfl : _ = Value.map _) | exact (rfl : _ = Value.func _ _ _) | exact (rfl : _ = Value.string _)) (by rfl) (by (repeat (first | exact Upd.head | apply Upd.tail))) (by (try simp only [List.take_succ_cons, List.take_zero, List.take_nil, List.drop_succ_cons, List.drop_zero, List.drop_nil, List.cons_append, List.nil_append, List.append_nil, List.length_cons, List.length_nil, Nat.reduceAdd, Nat.zero_add, Nat.add_zero]); rfl) (by simp) (by simp [Value.oneCell']) (by kernel_rfl) ?_; clear M; (try clear wc); intro wc M oth; clear oth) | (refine i_lor bX rfl rfl rfl (by (try simp only [List.take_succ_cons, List.take_zero, List.take_nil, List.drop_succ_cons, List.drop_zero, List.drop_nil, List.cons_append, List.nil_append, List.append_nil, List.length_cons, List.length_nil, Nat.reduceAdd, Nat.zero_add, Nat.add_zero]); rfl) (by rfl) ?_) | (refine ⟨trivial, ?_⟩; gi_at_call 126; refine (CallsIn.inRound l (callsIn_wide.2 C)).mono ?_; rintro e W2 ⟨rfl, hgr, hm⟩; replace M := M.callW (L' := [(g, BA.cells [.bool true]), (gK, .cells [.int .i64 p0, .int .i64 p1, .int .i64 t, .int .i64 r, .int .i64 n]), (gG, .cells (gmA j A c s0 s1 bg bx)), (bm, memG j s0 s1)]) (by (repeat (first | exact Upd.head | apply Upd.tail))) hgr hm))
     have hk3 : KeepsFrom wc.heap.size W2 W3 := ⟨by rw [oth.size]; exact Nat.le_refl _, fun k o hk h _ => (oth.block k (by omega)).trans h⟩
     exact ⟨(KeepsFrom.of_grownBy hgr (fun i e => by cases e; exact hlm)).trans hk3, rfl, M, HP, by rw [oth.size]; exact Nat.le_trans hz hgr.size⟩
 case done =>
   rintro D ys W hD hS ⟨M, hp, -⟩ hK
   go_wp2_with (first | (refine m_ld1 M rfl rfl rfl (by (repeat' (first | exact List.mem_cons_self | refine List.mem_cons_of_mem _ ?_))) (by rfl) ?_) | (refine m_ldr M rfl rfl rfl (by (repeat' (first | exact List.mem_cons_self | refine List.mem_cons_of_mem _ ?_))) (by (try simp only [List.take_succ_cons, List.take_zero, List.take_nil, List.drop_succ_cons, List.drop_zero, List.drop_nil, List.cons_append, List.nil_append, List.append_nil, List.length_cons, List.length_nil, Nat.reduceAdd, Nat.zero_add, Nat.add_zero]); rfl) (by rfl) ?_) | (refine m_st M rfl rfl rfl (by first | exact (rfl : _ = Value.agg _) | exact (rfl : _ = Value.int _ _) | exact (rfl : _ = Value.bool _) | exact (rfl : _ = Value.slice _ _ _) | exact (rfl : _ = Value.pointer _) | exact (rfl : _ = Value.map _) | exact (rfl : _ = Value.func _ _ _) | exact (rfl : _ = Value.string _)) (by rfl) (by (repeat (first | exact Upd.head | apply Upd.tail))) (by (try simp only [List.take_succ_cons, List.take_zero, List.take_nil, List.drop_succ_cons, List.drop_zero, List.drop_nil, List.cons_append, List.nil_append, List.append_nil, List.length_cons, List.length_nil, Nat.reduceAdd, Nat.zero_add, Nat.add_zero]); rfl) (by simp) (by simp [Value.oneCell']) (by kernel_rfl) ?_; clear M; (try clear wc); intro wc M) | (refine m_al M rfl rfl ?_; clear M; (try clear wc); intro g wc M) | (refine m_bx M rfl rfl (by first | exact (rfl : _ = Value.agg _) | exact (rfl : _ = Value.int _ _) | exact (rfl : _ = Value.bool _) | exact (rfl : _ = Value.slice _ _ _) | exact (rfl : _ = Value.pointer _) | exact (rfl : _ = Value.map _) | exact (rfl : _ = Value.func _ _ _) | exact (rfl : _ = Value.string _)) (by rfl) ?_; clear M; (try clear wc); intro g wc M))
   rw [Exit.noGoto_ret]
   have M2 := M.far (grownBy_putObj' W D (.deferred none)) (n0 := wc.heap.size) (fun r e => by cases e; exact hD) hz0 hL
   have hv : readsP j s0 s1 n p0 p1 t r = true := by rw [← hp.out]; unfold readsP allS; rw [← hS]
   refine ⟨by simp, .inl ⟨_, _, rfl, run_takeDeferred hK, _, results_tmp rfl _ _ _, ?_⟩⟩
   rw [hv]
   exact ⟨rfl, M2.grown, M2.at (q := (bm, memG j s0 s1)) (by (repeat' (first | exact List.mem_cons_self | refine List.mem_cons_of_mem _ ?_)))⟩
 case stop =>
   rintro D cd pre W hD hSp ⟨rfl, M, hp, -⟩ hK
   refine wpIn_wide.2 ?_
   go_wp2_with (first | (refine m_ld1 M rfl rfl rfl (by (repeat' (first | exact List.mem_cons_self | refine List.mem_cons_of_mem _ ?_))) (by rfl) ?_) | (refine m_ldr M rfl rfl rfl (by (repeat' (first | exact List.mem_cons_self | refine List.mem_cons_of_mem _ ?_))) (by (try simp only [List.take_succ_cons, List.take_zero, List.take_nil, List.drop_succ_cons, List.drop_zero, List.drop_nil, List.cons_append, List.nil_append, List.append_nil, List.length_cons, List.length_nil, Nat.reduceAdd, Nat.zero_add, Nat.add_zero]); rfl) (by rfl) ?_) | (refine m_st M rfl rfl rfl (by first | exact (rfl : _ = Value.agg _) | exact (rfl : _ = Value.int _ _) | exact (rfl : _ = Value.bool _) | exact (rfl : _ = Value.slice _ _ _) | exact (rfl : _ = Value.pointer _) | exact (rfl : _ = Value.map _) | exact (rfl : _ = Value.func _ _ _) | exact (rfl : _ = Value.string _)) (by rfl) (by (repeat (first | exact Upd.head | apply Upd.tail))) (by (try simp only [List.take_succ_cons, List.take_zero, List.take_nil, List.drop_succ_cons, List.drop_zero, List.drop_nil, List.cons_append, List.nil_append, List.append_nil, List.length_cons, List.length_nil, Nat.reduceAdd, Nat.zero_add, Nat.add_zero]); rfl) (by simp) (by simp [Value.oneCell']) (by kernel_rfl) ?_; clear M; (try clear wc); intro wc M) | (refine m_al M rfl rfl ?_; clear M; (try clear wc); intro g wc M) | (refine m_bx M rfl rfl (by first | exact (rfl : _ = Value.agg _) | exact (rfl : _ = Value.int _ _) | exact (rfl : _ = Value.bool _) | exact (rfl : _ = Value.slice _ _ _) | exact (rfl : _ = Value.pointer _) | exact (rfl : _ = Value.map _) | exact (rfl : _ = Value.func _ _ _) | exact (rfl : _ = Value.string _)) (by rfl) ?_; clear M; (try clear wc); intro g wc M))
   rw [Exit.noGoto_ret]
   have M2 := M.far (grownBy_putObj' W D (.deferred none)) (n0 := wc.heap.size) (fun r e => by cases e; exact hD) hz0 hL'
   have hv : readsP j s0 s1 n p0 p1 t r = false := by
     obtain ⟨s, hs⟩ := hSp
     have h2 := hp.out
     unfold allS at h2
     unfold readsP
     rw [← hs, List.all_append]
     rw [show (pre.map (fun x => x.1)) = pre.map Subtype.val from rfl, h2]
     rfl
   refine ⟨by simp, .inl ⟨_, _, rfl, run_takeDeferred hK, _, results_tmp rfl _ _ _, ?_⟩⟩
   rw [hv]
   exact ⟨rfl, M2.grown, M2.at (q := (bm, memG j s0 s1)) (by (repeat' (first | exact List.mem_cons_self | refine List.mem_cons_of_mem _ ?_)))⟩
end Go.Proofs.Ytlahdenlmmlplaa
end

section
/-
 reed: the stroke that is made first; whether a tuner can be sure to stop.
-/
namespace Go.Proofs.Ytlahdenlmmlplaa
set_option linter.unusedSimpArgs false
set_option linter.unusedVariables false
open Go.RowKit
theorem movedT (j : Jb) (A : Option Addr) (c : Nat) (s0 s1 : Int) (bg bx : Nat) (p0 p1 t r : Int) (n : Nat) (w : World) (hg : j.good) (hb : Bnd (n + 1) p0 p1 t r) :
   Calls Try.prog 129 #[.agg (gmA j A c s0 s1 bg bx).toArray, kn5 p0 p1 t r ((n : Int) + 1), .int .i64 1] w fun e w' => e = .returned (.tuple #[kn5 (p0 + j.u0) (p1 + j.u1) (t + 1) r n, .bool (okT j (t + 1) r)]) ∧ Below w.heap.size w w' := by
 obtain ⟨h1, h2, h3, h4, h5⟩ := hb
 have h := moved_tip j A c s0 s1 bg bx p0 p1 t r ((n : Int) + 1) w hg (by omega) (by omega) (by omega) (by omega) (by omega)
 rw [show (n : Int) + 1 - 1 = n from by omega] at h
 exact h
theorem movedR (j : Jb) (A : Option Addr) (c : Nat) (s0 s1 : Int) (bg bx : Nat) (p0 p1 t r : Int) (n : Nat) (w : World) (hg : j.good) (hb : Bnd (n + 1) p0 p1 t r) :
   Calls Try.prog 129 #[.agg (gmA j A c s0 s1 bg bx).toArray, kn5 p0 p1 t r ((n : Int) + 1), .int .i64 2] w fun e w' => e = .returned (.tuple #[kn5 (p0 - j.d1) (p1 - j.d0) t (r + 1) n, .bool (okT j t (r + 1))]) ∧ Below w.heap.size w w' := by
 obtain ⟨h1, h2, h3, h4, h5⟩ := hb
 have h := moved_root j A c s0 s1 bg bx p0 p1 t r ((n : Int) + 1) w hg (by omega) (by omega) (by omega) (by omega) (by omega)
 rw [show (n : Int) + 1 - 1 = n from by omega] at h
 exact h
theorem bnd_tip {j : Jb} {n : Nat} {p0 p1 t r : Int} (hj : j.good) (h : Bnd (n + 1) p0 p1 t r) : Bnd n (p0 + j.u0) (p1 + j.u1) (t + 1) r := by
 obtain ⟨h1, h2, h3, h4, h5⟩ := h
 have := hj.u
 exact ⟨by omega, by omega, by omega, by omega, by omega⟩
theorem bnd_root {j : Jb} {n : Nat} {p0 p1 t r : Int} (hj : j.good) (h : Bnd (n + 1) p0 p1 t r) : Bnd n (p0 - j.d1) (p1 - j.d0) t (r + 1) := by
 obtain ⟨h1, h2, h3, h4, h5⟩ := h
 have := hj.d
 exact ⟨by omega, by omega, by omega, by omega, by omega⟩
theorem stroke_0 (j : Jb) (A : Option Addr) (c : Nat) (s0 s1 : Int) (bg bx bm : Nat) (p0 p1 t r : Int) (w : World) (hg : Gm j A c s0 s1 bg bx bm w) :
   Calls Try.prog 127 #[.agg (gmA j A c s0 s1 bg bx).toArray, kn5 p0 p1 t r 0] w (GPost j s0 s1 bm (.int .i64 0) w) := by
 have M := Mem.initEx hg.m
 clear hg
 go_enter Try.func127, Try.ntmps127
 refine m_start M ?_
 clear M
 intro wc M
 go_wp2_with (first | (refine m_ld1 M rfl rfl rfl (by (repeat' (first | exact List.mem_cons_self | refine List.mem_cons_of_mem _ ?_))) (by rfl) ?_) | (refine m_ldr M rfl rfl rfl (by (repeat' (first | exact List.mem_cons_self | refine List.mem_cons_of_mem _ ?_))) (by (try simp only [List.take_succ_cons, List.take_zero, List.take_nil, List.drop_succ_cons, List.drop_zero, List.drop_nil, List.cons_append, List.nil_append, List.append_nil, List.length_cons, List.length_nil, Nat.reduceAdd, Nat.zero_add, Nat.add_zero]); rfl) (by rfl) ?_) | (refine m_st M rfl rfl rfl (by first | exact (rfl : _ = Value.agg _) | exact (rfl : _ = Value.int _ _) | exact (rfl : _ = Value.bool _) | exact (rfl : _ = Value.slice _ _ _) | exact (rfl : _ = Value.pointer _) | exact (rfl : _ = Value.map _) | exact (rfl : _ = Value.func _ _ _) | exact (rfl : _ = Value.string _)) (by rfl) (by (repeat (first | exact Upd.head | apply Upd.tail))) (by (try simp only [List.take_succ_cons, List.take_zero, List.take_nil, List.drop_succ_cons, List.drop_zero, List.drop_nil, List.cons_append, List.nil_append, List.append_nil, List.length_cons, List.length_nil, Nat.reduceAdd, Nat.zero_add, Nat.add_zero]); rfl) (by simp) (by simp [Value.oneCell']) (by kernel_rfl) ?_; clear M; (try clear wc); intro wc M) | (refine m_al M rfl rfl ?_; clear M; (try clear wc); intro g wc M) | (refine m_bx M rfl rfl (by first | exact (rfl : _ = Value.agg _) | exact (rfl : _ = Value.int _ _) | exact (rfl : _ = Value.bool _) | exact (rfl : _ = Value.slice _ _ _) | exact (rfl : _ = Value.pointer _) | exact (rfl : _ = Value.map _) | exact (rfl : _ = Value.func _ _ _) | exact (rfl : _ = Value.string _)) (by rfl) ?_; clear M; (try clear wc); intro g wc M))
 rename_i gG K0 hK0
 go_loopw [5] (fun v wr => v = .int .i64 1 ∧ Mem w (fun b => b = bm) wr [(g, .cells [.int .i64 p0, .int .i64 p1, .int .i64 t, .int .i64 r, .int .i64 0]), (gG, .cells (gmA j A c s0 s1 bg bx)), (bm, memG j s0 s1)]) (fun _ _ => 0)
 case atStart => exact ⟨rfl, M⟩
 case round =>
   clear M wc
   obtain ⟨rfl, M⟩ := hrel
   obtain ⟨wc, rfl⟩ : ∃ x : World, x = wr := ⟨_, rfl⟩
   go_wp2_with (first | (refine m_ld1 M rfl rfl rfl (by (repeat' (first | exact List.mem_cons_self | refine List.mem_cons_of_mem _ ?_))) (by rfl) ?_) | (refine m_ldr M rfl rfl rfl (by (repeat' (first | exact List.mem_cons_self | refine List.mem_cons_of_mem _ ?_))) (by (try simp only [List.take_succ_cons, List.take_zero, List.take_nil, List.drop_succ_cons, List.drop_zero, List.drop_nil, List.cons_append, List.nil_append, List.append_nil, List.length_cons, List.length_nil, Nat.reduceAdd, Nat.zero_add, Nat.add_zero]); rfl) (by rfl) ?_) | (refine m_st M rfl rfl rfl (by first | exact (rfl : _ = Value.agg _) | exact (rfl : _ = Value.int _ _) | exact (rfl : _ = Value.bool _) | exact (rfl : _ = Value.slice _ _ _) | exact (rfl : _ = Value.pointer _) | exact (rfl : _ = Value.map _) | exact (rfl : _ = Value.func _ _ _) | exact (rfl : _ = Value.string _)) (by rfl) (by (repeat (first | exact Upd.head | apply Upd.tail))) (by (try simp only [List.take_succ_cons, List.take_zero, List.take_nil, List.drop_succ_cons, List.drop_zero, List.drop_nil, List.cons_append, List.nil_append, List.append_nil, List.length_cons, List.length_nil, Nat.reduceAdd, Nat.zero_add, Nat.add_zero]); rfl) (by simp) (by simp [Value.oneCell']) (by kernel_rfl) ?_; clear M; (try clear wc); intro wc M) | (refine m_al M rfl rfl ?_; clear M; (try clear wc); intro g wc M) | (refine m_bx M rfl rfl (by first | exact (rfl : _ = Value.agg _) | exact (rfl : _ = Value.int _ _) | exact (rfl : _ = Value.bool _) | exact (rfl : _ = Value.slice _ _ _) | exact (rfl : _ = Value.pointer _) | exact (rfl : _ = Value.map _) | exact (rfl : _ = Value.func _ _ _) | exact (rfl : _ = Value.string _)) (by rfl) ?_; clear M; (try clear wc); intro g wc M))
   go_ret
   exact ⟨rfl, M.grown, (M.at (q := (bm, memG j s0 s1)) (by (repeat' (first | exact List.mem_cons_self | refine List.mem_cons_of_mem _ ?_))))⟩
set_option maxHeartbeats 2000000 in
theorem stroke_s (j : Jb) (A : Option Addr) (c : Nat) (s0 s1 : Int) (bg bx bm : Nat) (n : Nat) (hj : j.good) (hS : StopsC j A c s0 s1 bg bx bm n) (p0 p1 t r : Int) (w : World) (hb : Bnd (n + 1) p0 p1 t r) (hg : Gm j A c s0 s1 bg bx bm w) :
   Calls Try.prog 127 #[.agg (gmA j A c s0 s1 bg bx).toArray, kn5 p0 p1 t r ((n : Int) + 1)] w (GPost j s0 s1 bm (.int .i64 (strokeP j s0 s1 (n + 1) p0 p1 t r)) w) := by
 have M := Mem.initEx hg.m
 have HS := Lib.hid hS
 have HG := Lib.hid hg
 have HB := Lib.hid hb
 have HJ := Lib.hid hj
 have HV : Hid (strokeP j s0 s1 (n + 1) p0 p1 t r = if (okT j (t + 1) r && readsP j s0 s1 n (p0 + j.u0) (p1 + j.u1) (t + 1) r) = true then 1 else if (okT j t (r + 1) && readsP j s0 s1 n (p0 - j.d1) (p1 - j.d0) t (r + 1)) = true then 2 else 0) := rfl
 generalize strokeP j s0 s1 (n + 1) p0 p1 t r = sv at *
 have hln : (0 : Int) < (n : Int) + 1 := by omega
 generalize ho1 : okT j (t + 1) r = o1 at *
 generalize ho2 : okT j t (r + 1) = o2 at *
 generalize hr1 : readsP j s0 s1 n (p0 + j.u0) (p1 + j.u1) (t + 1) r = v1 at *
 generalize hr2 : readsP j s0 s1 n (p0 - j.d1) (p1 - j.d0) t (r + 1) = v2 at *
 have HO1 := Lib.hid ho1
 have HO2 := Lib.hid ho2
 have HR1 := Lib.hid hr1
 have HR2 := Lib.hid hr2
 clear hS hg hb hj ho1 ho2 hr1 hr2
 go_enter Try.func127, Try.ntmps127
 refine m_start M ?_
 clear M
 intro wc M
 go_wp2_with (first | (refine m_ld1 M rfl rfl rfl (by (repeat' (first | exact List.mem_cons_self | refine List.mem_cons_of_mem _ ?_))) (by rfl) ?_) | (refine m_ldr M rfl rfl rfl (by (repeat' (first | exact List.mem_cons_self | refine List.mem_cons_of_mem _ ?_))) (by (try simp only [List.take_succ_cons, List.take_zero, List.take_nil, List.drop_succ_cons, List.drop_zero, List.drop_nil, List.cons_append, List.nil_append, List.append_nil, List.length_cons, List.length_nil, Nat.reduceAdd, Nat.zero_add, Nat.add_zero]); rfl) (by rfl) ?_) | (refine m_st M rfl rfl rfl (by first | exact (rfl : _ = Value.agg _) | exact (rfl : _ = Value.int _ _) | exact (rfl : _ = Value.bool _) | exact (rfl : _ = Value.slice _ _ _) | exact (rfl : _ = Value.pointer _) | exact (rfl : _ = Value.map _) | exact (rfl : _ = Value.func _ _ _) | exact (rfl : _ = Value.string _)) (by rfl) (by (repeat (first | exact Upd.head | apply Upd.tail))) (by (try simp only [List.take_succ_cons, List.take_zero, List.take_nil, List.drop_succ_cons, List.drop_zero, List.drop_nil, List.cons_append, List.nil_append, List.append_nil, List.length_cons, List.length_nil, Nat.reduceAdd, Nat.zero_add, Nat.add_zero]); rfl) (by simp) (by simp [Value.oneCell']) (by kernel_rfl) ?_; clear M; (try clear wc); intro wc M) | (refine m_al M rfl rfl ?_; clear M; (try clear wc); intro g wc M) | (refine m_bx M rfl rfl (by first | exact (rfl : _ = Value.agg _) | exact (rfl : _ = Value.int _ _) | exact (rfl : _ = Value.bool _) | exact (rfl : _ = Value.slice _ _ _) | exact (rfl : _ = Value.pointer _) | exact (rfl : _ = Value.map _) | exact (rfl : _ = Value.func _ _ _) | exact (rfl : _ = Value.string _)) (by rfl) ?_; clear M; (try clear wc); intro g wc M))
 rename_i gG K0 hK0
 go_loopw [5] (fun v wr => ∃ s : Int, v = .int .i64 s ∧ (s = 1 ∨ s = 2 ∨ s = 3) ∧ Hid (s = 1 ∨ (o1 && v1) = false) ∧ Hid (s = 3 → (o2 && v2) = false) ∧ Mem w (fun b => b = bm) wr [(g, .cells [.int .i64 p0, .int .i64 p1, .int .i64 t, .int .i64 r, .int .i64 ((n : Int) + 1)]), (gG, .cells (gmA j A c s0 s1 bg bx)), (bm, memG j s0 s1)]) (fun v _ => (3 - intOf v).toNat)
 case atStart => exact ⟨1, rfl, .inl rfl, .inl rfl, fun h => by omega, M⟩
 case round =>
   clear M wc
   obtain ⟨s, rfl, hs, h1, h2, M⟩ := hrel
   obtain ⟨wc, rfl⟩ : ∃ x : World, x = wr := ⟨_, rfl⟩
   rcases hs with rfl | rfl | rfl
   · cases o1 with
     | false =>
       go_wp2_with (first | (refine m_ld1 M rfl rfl rfl (by (repeat' (first | exact List.mem_cons_self | refine List.mem_cons_of_mem _ ?_))) (by rfl) ?_) | (refine m_ldr M rfl rfl rfl (by (repeat' (first | exact List.mem_cons_self | refine List.mem_cons_of_mem _ ?_))) (by (try simp only [List.take_succ_cons, List.take_zero, List.take_nil, List.drop_succ_cons, List.drop_zero, List.drop_nil, List.cons_append, List.nil_append, List.append_nil, List.length_cons, List.length_nil, Nat.reduceAdd, Nat.zero_add, Nat.add_zero]); rfl) (by rfl) ?_) | (refine m_st M rfl rfl rfl (by first | exact (rfl : _ = Value.agg _) | exact (rfl : _ = Value.int _ _) | exact (rfl : _ = Value.bool _) | exact (rfl : _ = Value.slice _ _ _) | exact (rfl : _ = Value.pointer _) | exact (rfl : _ = Value.map _) | exact (rfl : _ = Value.func _ _ _) | exact (rfl : _ = Value.string _)) (by rfl) (by (repeat (first | exact Upd.head | apply Upd.tail))) (by (try simp only [List.take_succ_cons, List.take_zero, List.take_nil, List.drop_succ_cons, List.drop_zero, List.drop_nil, List.cons_append, List.nil_append, List.append_nil, List.length_cons, List.length_nil, Nat.reduceAdd, Nat.zero_add, Nat.add_zero]); rfl) (by simp) (by simp [Value.oneCell']) (by kernel_rfl) ?_; clear M; (try clear wc); intro wc M) | (refine m_al M rfl rfl ?_; clear M; (try clear wc); intro g wc M) | (refine m_bx M rfl rfl (by first | exact (rfl : _ = Value.agg _) | exact (rfl : _ = Value.int _ _) | exact (rfl : _ = Value.bool _) | exact (rfl : _ = Value.slice _ _ _) | exact (rfl : _ = Value.pointer _) | exact (rfl : _ = Value.map _) | exact (rfl : _ = Value.func _ _ _) | exact (rfl : _ = Value.string _)) (by rfl) ?_; clear M; (try clear wc); intro g wc M) | (go_at_call 129; ((with_reducible refine (movedT j A c s0 s1 bg bx p0 p1 t r n _ HJ.out HB.out).mono ?_); (rw [HO1.out]); rintro e wc ⟨rfl, hb⟩; replace M := M.call hb; clear hb)))
       go_roundw
       case rel => exact ⟨2, rfl, by simp, .inr rfl, (fun h => by omega), M.sub (by (repeat (first | exact List.Sublist.slnil | apply List.Sublist.cons_cons | apply List.Sublist.cons)))⟩
       case measure => decide
     | true =>
       cases v1 with
       | false =>
         go_wp2_with (first | (refine m_ld1 M rfl rfl rfl (by (repeat' (first | exact List.mem_cons_self | refine List.mem_cons_of_mem _ ?_))) (by rfl) ?_) | (refine m_ldr M rfl rfl rfl (by (repeat' (first | exact List.mem_cons_self | refine List.mem_cons_of_mem _ ?_))) (by (try simp only [List.take_succ_cons, List.take_zero, List.take_nil, List.drop_succ_cons, List.drop_zero, List.drop_nil, List.cons_append, List.nil_append, List.append_nil, List.length_cons, List.length_nil, Nat.reduceAdd, Nat.zero_add, Nat.add_zero]); rfl) (by rfl) ?_) | (refine m_st M rfl rfl rfl (by first | exact (rfl : _ = Value.agg _) | exact (rfl : _ = Value.int _ _) | exact (rfl : _ = Value.bool _) | exact (rfl : _ = Value.slice _ _ _) | exact (rfl : _ = Value.pointer _) | exact (rfl : _ = Value.map _) | exact (rfl : _ = Value.func _ _ _) | exact (rfl : _ = Value.string _)) (by rfl) (by (repeat (first | exact Upd.head | apply Upd.tail))) (by (try simp only [List.take_succ_cons, List.take_zero, List.take_nil, List.drop_succ_cons, List.drop_zero, List.drop_nil, List.cons_append, List.nil_append, List.append_nil, List.length_cons, List.length_nil, Nat.reduceAdd, Nat.zero_add, Nat.add_zero]); rfl) (by simp) (by simp [Value.oneCell']) (by kernel_rfl) ?_; clear M; (try clear wc); intro wc M) | (refine m_al M rfl rfl ?_; clear M; (try clear wc); intro g wc M) | (refine m_bx M rfl rfl (by first | exact (rfl : _ = Value.agg _) | exact (rfl : _ = Value.int _ _) | exact (rfl : _ = Value.bool _) | exact (rfl : _ = Value.slice _ _ _) | exact (rfl : _ = Value.pointer _) | exact (rfl : _ = Value.map _) | exact (rfl : _ = Value.func _ _ _) | exact (rfl : _ = Value.string _)) (by rfl) ?_; clear M; (try clear wc); intro g wc M) | (go_at_call 129; ((with_reducible refine (movedT j A c s0 s1 bg bx p0 p1 t r n _ HJ.out HB.out).mono ?_); (rw [HO1.out]); rintro e wc ⟨rfl, hb⟩; replace M := M.call hb; clear hb)) | (go_at_call 119; ((with_reducible refine (reads_any j A c s0 s1 bg bx bm n HJ.out HS.out (p0 + j.u0) (p1 + j.u1) (t + 1) r _ (bnd_tip HJ.out HB.out) (HG.out.kept M.grown (M.at (q := (bm, memG j s0 s1)) (by (repeat' (first | exact List.mem_cons_self | refine List.mem_cons_of_mem _ ?_)))))).mono ?_); rintro e wc ⟨rfl, hgr, hm⟩; (rw [HR1.out]); replace M := M.callW (by (repeat (first | exact Upd.head | apply Upd.tail))) hgr hm; clear hgr hm)))
         go_roundw
         case rel => exact ⟨2, rfl, by simp, .inr rfl, (fun h => by omega), M.sub (by (repeat (first | exact List.Sublist.slnil | apply List.Sublist.cons_cons | apply List.Sublist.cons)))⟩
         case measure => decide
       | true =>
         go_wp2_with (first | (refine m_ld1 M rfl rfl rfl (by (repeat' (first | exact List.mem_cons_self | refine List.mem_cons_of_mem _ ?_))) (by rfl) ?_) | (refine m_ldr M rfl rfl rfl (by (repeat' (first | exact List.mem_cons_self | refine List.mem_cons_of_mem _ ?_))) (by (try simp only [List.take_succ_cons, List.take_zero, List.take_nil, List.drop_succ_cons, List.drop_zero, List.drop_nil, List.cons_append, List.nil_append, List.append_nil, List.length_cons, List.length_nil, Nat.reduceAdd, Nat.zero_add, Nat.add_zero]); rfl) (by rfl) ?_) | (refine m_st M rfl rfl rfl (by first | exact (rfl : _ = Value.agg _) | exact (rfl : _ = Value.int _ _) | exact (rfl : _ = Value.bool _) | exact (rfl : _ = Value.slice _ _ _) | exact (rfl : _ = Value.pointer _) | exact (rfl : _ = Value.map _) | exact (rfl : _ = Value.func _ _ _) | exact (rfl : _ = Value.string _)) (by rfl) (by (repeat (first | exact Upd.head | apply Upd.tail))) (by (try simp only [List.take_succ_cons, List.take_zero, List.take_nil, List.drop_succ_cons, List.drop_zero, List.drop_nil, List.cons_append, List.nil_append, List.append_nil, List.length_cons, List.length_nil, Nat.reduceAdd, Nat.zero_add, Nat.add_zero]); rfl) (by simp) (by simp [Value.oneCell']) (by kernel_rfl) ?_; clear M; (try clear wc); intro wc M) | (refine m_al M rfl rfl ?_; clear M; (try clear wc); intro g wc M) | (refine m_bx M rfl rfl (by first | exact (rfl : _ = Value.agg _) | exact (rfl : _ = Value.int _ _) | exact (rfl : _ = Value.bool _) | exact (rfl : _ = Value.slice _ _ _) | exact (rfl : _ = Value.pointer _) | exact (rfl : _ = Value.map _) | exact (rfl : _ = Value.func _ _ _) | exact (rfl : _ = Value.string _)) (by rfl) ?_; clear M; (try clear wc); intro g wc M) | (go_at_call 129; ((with_reducible refine (movedT j A c s0 s1 bg bx p0 p1 t r n _ HJ.out HB.out).mono ?_); (rw [HO1.out]); rintro e wc ⟨rfl, hb⟩; replace M := M.call hb; clear hb)) | (go_at_call 119; ((with_reducible refine (reads_any j A c s0 s1 bg bx bm n HJ.out HS.out (p0 + j.u0) (p1 + j.u1) (t + 1) r _ (bnd_tip HJ.out HB.out) (HG.out.kept M.grown (M.at (q := (bm, memG j s0 s1)) (by (repeat' (first | exact List.mem_cons_self | refine List.mem_cons_of_mem _ ?_)))))).mono ?_); rintro e wc ⟨rfl, hgr, hm⟩; (rw [HR1.out]); replace M := M.callW (by (repeat (first | exact Upd.head | apply Upd.tail))) hgr hm; clear hgr hm)))
         go_ret
         exact ⟨ret_int (show sv = 1 from by rw [HV.out]; rfl).symm, M.grown, (M.at (q := (bm, memG j s0 s1)) (by (repeat' (first | exact List.mem_cons_self | refine List.mem_cons_of_mem _ ?_))))⟩
   · have h1' : Hid ((3 : Int) = 1 ∨ (o1 && v1) = false) := .inr (by have := h1.out; simpa using this)
     cases o2 with
     | false =>
       go_wp2_with (first | (refine m_ld1 M rfl rfl rfl (by (repeat' (first | exact List.mem_cons_self | refine List.mem_cons_of_mem _ ?_))) (by rfl) ?_) | (refine m_ldr M rfl rfl rfl (by (repeat' (first | exact List.mem_cons_self | refine List.mem_cons_of_mem _ ?_))) (by (try simp only [List.take_succ_cons, List.take_zero, List.take_nil, List.drop_succ_cons, List.drop_zero, List.drop_nil, List.cons_append, List.nil_append, List.append_nil, List.length_cons, List.length_nil, Nat.reduceAdd, Nat.zero_add, Nat.add_zero]); rfl) (by rfl) ?_) | (refine m_st M rfl rfl rfl (by first | exact (rfl : _ = Value.agg _) | exact (rfl : _ = Value.int _ _) | exact (rfl : _ = Value.bool _) | exact (rfl : _ = Value.slice _ _ _) | exact (rfl : _ = Value.pointer _) | exact (rfl : _ = Value.map _) | exact (rfl : _ = Value.func _ _ _) | exact (rfl : _ = Value.string _)) (by rfl) (by (repeat (first | exact Upd.head | apply Upd.tail))) (by (try simp only [List.take_succ_cons, List.take_zero, List.take_nil, List.drop_succ_cons, List.drop_zero, List.drop_nil, List.cons_append, List.nil_append, List.append_nil, List.length_cons, List.length_nil, Nat.reduceAdd, Nat.zero_add, Nat.add_zero]); rfl) (by simp) (by simp [Value.oneCell']) (by kernel_rfl) ?_; clear M; (try clear wc); intro wc M) | (refine m_al M rfl rfl ?_; clear M; (try clear wc); intro g wc M) | (refine m_bx M rfl rfl (by first | exact (rfl : _ = Value.agg _) | exact (rfl : _ = Value.int _ _) | exact (rfl : _ = Value.bool _) | exact (rfl : _ = Value.slice _ _ _) | exact (rfl : _ = Value.pointer _) | exact (rfl : _ = Value.map _) | exact (rfl : _ = Value.func _ _ _) | exact (rfl : _ = Value.string _)) (by rfl) ?_; clear M; (try clear wc); intro g wc M) | (go_at_call 129; ((with_reducible refine (movedR j A c s0 s1 bg bx p0 p1 t r n _ HJ.out HB.out).mono ?_); (rw [HO2.out]); rintro e wc ⟨rfl, hb⟩; replace M := M.call hb; clear hb)))
       go_roundw
       case rel => exact ⟨3, rfl, by simp, h1' , (fun _ => rfl), M.sub (by (repeat (first | exact List.Sublist.slnil | apply List.Sublist.cons_cons | apply List.Sublist.cons)))⟩
       case measure => decide
     | true =>
       cases v2 with
       | false =>
         go_wp2_with (first | (refine m_ld1 M rfl rfl rfl (by (repeat' (first | exact List.mem_cons_self | refine List.mem_cons_of_mem _ ?_))) (by rfl) ?_) | (refine m_ldr M rfl rfl rfl (by (repeat' (first | exact List.mem_cons_self | refine List.mem_cons_of_mem _ ?_))) (by (try simp only [List.take_succ_cons, List.take_zero, List.take_nil, List.drop_succ_cons, List.drop_zero, List.drop_nil, List.cons_append, List.nil_append, List.append_nil, List.length_cons, List.length_nil, Nat.reduceAdd, Nat.zero_add, Nat.add_zero]); rfl) (by rfl) ?_) | (refine m_st M rfl rfl rfl (by first | exact (rfl : _ = Value.agg _) | exact (rfl : _ = Value.int _ _) | exact (rfl : _ = Value.bool _) | exact (rfl : _ = Value.slice _ _ _) | exact (rfl : _ = Value.pointer _) | exact (rfl : _ = Value.map _) | exact (rfl : _ = Value.func _ _ _) | exact (rfl : _ = Value.string _)) (by rfl) (by (repeat (first | exact Upd.head | apply Upd.tail))) (by (try simp only [List.take_succ_cons, List.take_zero, List.take_nil, List.drop_succ_cons, List.drop_zero, List.drop_nil, List.cons_append, List.nil_append, List.append_nil, List.length_cons, List.length_nil, Nat.reduceAdd, Nat.zero_add, Nat.add_zero]); rfl) (by simp) (by simp [Value.oneCell']) (by kernel_rfl) ?_; clear M; (try clear wc); intro wc M) | (refine m_al M rfl rfl ?_; clear M; (try clear wc); intro g wc M) | (refine m_bx M rfl rfl (by first | exact (rfl : _ = Value.agg _) | exact (rfl : _ = Value.int _ _) | exact (rfl : _ = Value.bool _) | exact (rfl : _ = Value.slice _ _ _) | exact (rfl : _ = Value.pointer _) | exact (rfl : _ = Value.map _) | exact (rfl : _ = Value.func _ _ _) | exact (rfl : _ = Value.string _)) (by rfl) ?_; clear M; (try clear wc); intro g wc M) | (go_at_call 129; ((with_reducible refine (movedR j A c s0 s1 bg bx p0 p1 t r n _ HJ.out HB.out).mono ?_); (rw [HO2.out]); rintro e wc ⟨rfl, hb⟩; replace M := M.call hb; clear hb)) | (go_at_call 119; ((with_reducible refine (reads_any j A c s0 s1 bg bx bm n HJ.out HS.out (p0 - j.d1) (p1 - j.d0) t (r + 1) _ (bnd_root HJ.out HB.out) (HG.out.kept M.grown (M.at (q := (bm, memG j s0 s1)) (by (repeat' (first | exact List.mem_cons_self | refine List.mem_cons_of_mem _ ?_)))))).mono ?_); rintro e wc ⟨rfl, hgr, hm⟩; (rw [HR2.out]); replace M := M.callW (by (repeat (first | exact Upd.head | apply Upd.tail))) hgr hm; clear hgr hm)))
         go_roundw
         case rel => exact ⟨3, rfl, by simp, h1' , (fun _ => rfl), M.sub (by (repeat (first | exact List.Sublist.slnil | apply List.Sublist.cons_cons | apply List.Sublist.cons)))⟩
         case measure => decide
       | true =>
         go_wp2_with (first | (refine m_ld1 M rfl rfl rfl (by (repeat' (first | exact List.mem_cons_self | refine List.mem_cons_of_mem _ ?_))) (by rfl) ?_) | (refine m_ldr M rfl rfl rfl (by (repeat' (first | exact List.mem_cons_self | refine List.mem_cons_of_mem _ ?_))) (by (try simp only [List.take_succ_cons, List.take_zero, List.take_nil, List.drop_succ_cons, List.drop_zero, List.drop_nil, List.cons_append, List.nil_append, List.append_nil, List.length_cons, List.length_nil, Nat.reduceAdd, Nat.zero_add, Nat.add_zero]); rfl) (by rfl) ?_) | (refine m_st M rfl rfl rfl (by first | exact (rfl : _ = Value.agg _) | exact (rfl : _ = Value.int _ _) | exact (rfl : _ = Value.bool _) | exact (rfl : _ = Value.slice _ _ _) | exact (rfl : _ = Value.pointer _) | exact (rfl : _ = Value.map _) | exact (rfl : _ = Value.func _ _ _) | exact (rfl : _ = Value.string _)) (by rfl) (by (repeat (first | exact Upd.head | apply Upd.tail))) (by (try simp only [List.take_succ_cons, List.take_zero, List.take_nil, List.drop_succ_cons, List.drop_zero, List.drop_nil, List.cons_append, List.nil_append, List.append_nil, List.length_cons, List.length_nil, Nat.reduceAdd, Nat.zero_add, Nat.add_zero]); rfl) (by simp) (by simp [Value.oneCell']) (by kernel_rfl) ?_; clear M; (try clear wc); intro wc M) | (refine m_al M rfl rfl ?_; clear M; (try clear wc); intro g wc M) | (refine m_bx M rfl rfl (by first | exact (rfl : _ = Value.agg _) | exact (rfl : _ = Value.int _ _) | exact (rfl : _ = Value.bool _) | exact (rfl : _ = Value.slice _ _ _) | exact (rfl : _ = Value.pointer _) | exact (rfl : _ = Value.map _) | exact (rfl : _ = Value.func _ _ _) | exact (rfl : _ = Value.string _)) (by rfl) ?_; clear M; (try clear wc); intro g wc M) | (go_at_call 129; ((with_reducible refine (movedR j A c s0 s1 bg bx p0 p1 t r n _ HJ.out HB.out).mono ?_); (rw [HO2.out]); rintro e wc ⟨rfl, hb⟩; replace M := M.call hb; clear hb)) | (go_at_call 119; ((with_reducible refine (reads_any j A c s0 s1 bg bx bm n HJ.out HS.out (p0 - j.d1) (p1 - j.d0) t (r + 1) _ (bnd_root HJ.out HB.out) (HG.out.kept M.grown (M.at (q := (bm, memG j s0 s1)) (by (repeat' (first | exact List.mem_cons_self | refine List.mem_cons_of_mem _ ?_)))))).mono ?_); rintro e wc ⟨rfl, hgr, hm⟩; (rw [HR2.out]); replace M := M.callW (by (repeat (first | exact Upd.head | apply Upd.tail))) hgr hm; clear hgr hm)))
         go_ret
         exact ⟨ret_int (show sv = 2 from by (have h := h1'.out; rw [HV.out, if_neg (by simpa using h)]; rfl)).symm, M.grown, (M.at (q := (bm, memG j s0 s1)) (by (repeat' (first | exact List.mem_cons_self | refine List.mem_cons_of_mem _ ?_))))⟩
   · go_wp2_with (first | (refine m_ld1 M rfl rfl rfl (by (repeat' (first | exact List.mem_cons_self | refine List.mem_cons_of_mem _ ?_))) (by rfl) ?_) | (refine m_ldr M rfl rfl rfl (by (repeat' (first | exact List.mem_cons_self | refine List.mem_cons_of_mem _ ?_))) (by (try simp only [List.take_succ_cons, List.take_zero, List.take_nil, List.drop_succ_cons, List.drop_zero, List.drop_nil, List.cons_append, List.nil_append, List.append_nil, List.length_cons, List.length_nil, Nat.reduceAdd, Nat.zero_add, Nat.add_zero]); rfl) (by rfl) ?_) | (refine m_st M rfl rfl rfl (by first | exact (rfl : _ = Value.agg _) | exact (rfl : _ = Value.int _ _) | exact (rfl : _ = Value.bool _) | exact (rfl : _ = Value.slice _ _ _) | exact (rfl : _ = Value.pointer _) | exact (rfl : _ = Value.map _) | exact (rfl : _ = Value.func _ _ _) | exact (rfl : _ = Value.string _)) (by rfl) (by (repeat (first | exact Upd.head | apply Upd.tail))) (by (try simp only [List.take_succ_cons, List.take_zero, List.take_nil, List.drop_succ_cons, List.drop_zero, List.drop_nil, List.cons_append, List.nil_append, List.append_nil, List.length_cons, List.length_nil, Nat.reduceAdd, Nat.zero_add, Nat.add_zero]); rfl) (by simp) (by simp [Value.oneCell']) (by kernel_rfl) ?_; clear M; (try clear wc); intro wc M) | (refine m_al M rfl rfl ?_; clear M; (try clear wc); intro g wc M) | (refine m_bx M rfl rfl (by first | exact (rfl : _ = Value.agg _) | exact (rfl : _ = Value.int _ _) | exact (rfl : _ = Value.bool _) | exact (rfl : _ = Value.slice _ _ _) | exact (rfl : _ = Value.pointer _) | exact (rfl : _ = Value.map _) | exact (rfl : _ = Value.func _ _ _) | exact (rfl : _ = Value.string _)) (by rfl) ?_; clear M; (try clear wc); intro g wc M))
     go_ret
     have e : sv = 0 := by
       have h := h1.out
       have h' : (o2 && v2) = false := by first | exact h2.out rfl | exact h2.out | (have := h2.out; simpa using this)
       rw [HV.out, if_neg (by simpa using h), if_neg (by rw [h']; simp)]
     exact ⟨ret_int e.symm, M.grown, (M.at (q := (bm, memG j s0 s1)) (by (repeat' (first | exact List.mem_cons_self | refine List.mem_cons_of_mem _ ?_))))⟩
end Go.Proofs.Ytlahdenlmmlplaa
end

section
/-
 reed: whether a tuner can be sure to stop: what is remembered is right.
-/
namespace Go.Proofs.Ytlahdenlmmlplaa
set_option linter.unusedSimpArgs false
set_option linter.unusedVariables false
open Go.RowKit
theorem kn5_inj {p0 p1 t r a b c d : Int} {n m : Nat} (h : kn5 p0 p1 t r n = kn5 a b c d m) : p0 = a ∧ p1 = b ∧ t = c ∧ r = d ∧ n = m := by
 simp at h
 exact ⟨h.1, h.2.1, h.2.2.1, h.2.2.2.1, by have := h.2.2.2.2; omega⟩
theorem stops_of (j : Jb) (A : Option Addr) (c : Nat) (s0 s1 : Int) (bg bx bm : Nat) (n : Nat) (p0 p1 t r : Int) (w : World) (hb : Bnd n p0 p1 t r) (hg : Gm j A c s0 s1 bg bx bm w)
   (hs : ∀ w', Gm j A c s0 s1 bg bx bm w' → Calls Try.prog 127 #[.agg (gmA j A c s0 s1 bg bx).toArray, kn5 p0 p1 t r n] w' (GPost j s0 s1 bm (.int .i64 (strokeP j s0 s1 n p0 p1 t r)) w')) :
   Calls Try.prog 126 #[kn5 p0 p1 t r n, .pointer (some ⟨bg, 0, none⟩), .pointer (some ⟨bx, 0, none⟩)] w (GPost j s0 s1 bm (.bool (stopsP j s0 s1 n p0 p1 t r)) w) := by
 have M := Mem.initEx hg.m
 have HG := Lib.hid hg
 have HS := Lib.hid hs
 have HE := Lib.hid (stopsP_eq j s0 s1 n p0 p1 t r)
 obtain ⟨kl, hkl⟩ := Try.kn_key ⟨p0, p1, t, r, n⟩ (by obtain ⟨h1, h2, h3, h4, h5⟩ := hb; exact ⟨by dsimp only; omega, by dsimp only; omega, by dsimp only; omega, by dsimp only; omega, by dsimp only; omega⟩)
 have HK := Lib.hid hkl
 have HO : Hid (∀ v, okG j s0 s1 (kn5 p0 p1 t r n) v ↔ v = .bool (stopsP j s0 s1 n p0 p1 t r)) := by
   intro v
   refine ⟨fun h => h p0 p1 t r n rfl, fun h a b c d m e => ?_⟩
   obtain ⟨rfl, rfl, rfl, rfl, rfl⟩ := kn5_inj e
   exact h
 clear hg hs hkl hb
 generalize hst : stopsP j s0 s1 n p0 p1 t r = sv at *
 generalize hsk : strokeP j s0 s1 n p0 p1 t r = kv at *
 clear hst hsk
 cases hh : hasB s0 s1 p0 p1 with
 | true =>
   have HH := Lib.hid hh
   have HV : Hid (sv = true) := by show _ = _; rw [HE.out, hh]; rfl
   clear hh
   go_enter Try.func126, Try.ntmps126
   refine m_start M ?_
   clear M
   intro wc M
   go_wp2_with (first | (refine m_ld1 M rfl rfl rfl (by (repeat' (first | exact List.mem_cons_self | refine List.mem_cons_of_mem _ ?_))) (by rfl) ?_) | (refine m_ldr M rfl rfl rfl (by (repeat' (first | exact List.mem_cons_self | refine List.mem_cons_of_mem _ ?_))) (by (try simp only [List.take_succ_cons, List.take_zero, List.take_nil, List.drop_succ_cons, List.drop_zero, List.drop_nil, List.cons_append, List.nil_append, List.append_nil, List.length_cons, List.length_nil, Nat.reduceAdd, Nat.zero_add, Nat.add_zero]); rfl) (by rfl) ?_) | (refine m_st M rfl rfl rfl (by first | exact (rfl : _ = Value.agg _) | exact (rfl : _ = Value.int _ _) | exact (rfl : _ = Value.bool _) | exact (rfl : _ = Value.slice _ _ _) | exact (rfl : _ = Value.pointer _) | exact (rfl : _ = Value.map _) | exact (rfl : _ = Value.func _ _ _) | exact (rfl : _ = Value.string _)) (by rfl) (by (repeat (first | exact Upd.head | apply Upd.tail))) (by (try simp only [List.take_succ_cons, List.take_zero, List.take_nil, List.drop_succ_cons, List.drop_zero, List.drop_nil, List.cons_append, List.nil_append, List.append_nil, List.length_cons, List.length_nil, Nat.reduceAdd, Nat.zero_add, Nat.add_zero]); rfl) (by simp) (by simp [Value.oneCell']) (by kernel_rfl) ?_; clear M; (try clear wc); intro wc M) | (refine m_al M rfl rfl ?_; clear M; (try clear wc); intro g wc M) | (refine m_bx M rfl rfl (by first | exact (rfl : _ = Value.agg _) | exact (rfl : _ = Value.int _ _) | exact (rfl : _ = Value.bool _) | exact (rfl : _ = Value.slice _ _ _) | exact (rfl : _ = Value.pointer _) | exact (rfl : _ = Value.map _) | exact (rfl : _ = Value.func _ _ _) | exact (rfl : _ = Value.string _)) (by rfl) ?_; clear M; (try clear wc); intro g wc M) | (refine lo_row (M.old HG.out.g HG.out.ng) rfl rfl rfl (by (try simp only [List.take_succ_cons, List.take_zero, List.take_nil, List.drop_succ_cons, List.drop_zero, List.drop_nil, List.cons_append, List.nil_append, List.append_nil, List.length_cons, List.length_nil, Nat.reduceAdd, Nat.zero_add, Nat.add_zero]); rfl) (by rfl) ?_) | (go_at_call 112; ((with_reducible refine (has_any _ _ _ _ _).mono ?_); (rw [HH.out]); rintro e wc ⟨rfl, hb⟩; replace M := M.call hb; clear hb)))
   go_ret
   rw [HV.out]
   exact ⟨rfl, M.grown, (M.at (q := (bm, memG j s0 s1)) (by (repeat' (first | exact List.mem_cons_self | refine List.mem_cons_of_mem _ ?_))))⟩
 | false =>
   have HH := Lib.hid hh
   have HV : Hid (sv = decide (0 < kv)) := by show _ = _; rw [HE.out, hh]; rfl
   clear hh
   go_enter Try.func126, Try.ntmps126
   refine m_start M ?_
   clear M
   intro wc M
   go_wp2_with (first | (refine m_ld1 M rfl rfl rfl (by (repeat' (first | exact List.mem_cons_self | refine List.mem_cons_of_mem _ ?_))) (by rfl) ?_) | (refine m_ldr M rfl rfl rfl (by (repeat' (first | exact List.mem_cons_self | refine List.mem_cons_of_mem _ ?_))) (by (try simp only [List.take_succ_cons, List.take_zero, List.take_nil, List.drop_succ_cons, List.drop_zero, List.drop_nil, List.cons_append, List.nil_append, List.append_nil, List.length_cons, List.length_nil, Nat.reduceAdd, Nat.zero_add, Nat.add_zero]); rfl) (by rfl) ?_) | (refine m_st M rfl rfl rfl (by first | exact (rfl : _ = Value.agg _) | exact (rfl : _ = Value.int _ _) | exact (rfl : _ = Value.bool _) | exact (rfl : _ = Value.slice _ _ _) | exact (rfl : _ = Value.pointer _) | exact (rfl : _ = Value.map _) | exact (rfl : _ = Value.func _ _ _) | exact (rfl : _ = Value.string _)) (by rfl) (by (repeat (first | exact Upd.head | apply Upd.tail))) (by (try simp only [List.take_succ_cons, List.take_zero, List.take_nil, List.drop_succ_cons, List.drop_zero, List.drop_nil, List.cons_append, List.nil_append, List.append_nil, List.length_cons, List.length_nil, Nat.reduceAdd, Nat.zero_add, Nat.add_zero]); rfl) (by simp) (by simp [Value.oneCell']) (by kernel_rfl) ?_; clear M; (try clear wc); intro wc M) | (refine m_al M rfl rfl ?_; clear M; (try clear wc); intro g wc M) | (refine m_bx M rfl rfl (by first | exact (rfl : _ = Value.agg _) | exact (rfl : _ = Value.int _ _) | exact (rfl : _ = Value.bool _) | exact (rfl : _ = Value.slice _ _ _) | exact (rfl : _ = Value.pointer _) | exact (rfl : _ = Value.map _) | exact (rfl : _ = Value.func _ _ _) | exact (rfl : _ = Value.string _)) (by rfl) ?_; clear M; (try clear wc); intro g wc M) | (refine lo_row (M.old HG.out.g HG.out.ng) rfl rfl rfl (by (try simp only [List.take_succ_cons, List.take_zero, List.take_nil, List.drop_succ_cons, List.drop_zero, List.drop_nil, List.cons_append, List.nil_append, List.append_nil, List.length_cons, List.length_nil, Nat.reduceAdd, Nat.zero_add, Nat.add_zero]); rfl) (by rfl) ?_) | (refine lo_one (cs := [.map (some bm)]) (M.old HG.out.x HG.out.nx) rfl rfl rfl (by rfl) ?_) | (go_at_call 112; ((with_reducible refine (has_any _ _ _ _ _).mono ?_); (rw [HH.out]); rintro e wc ⟨rfl, hb⟩; replace M := M.call hb; clear hb)) | ((refine lk (ok := okG j s0 s1) Try.keyed Try.underlying177 Try.zeroBool M rfl rfl rfl rfl (by (repeat' (first | exact List.mem_cons_self | refine List.mem_cons_of_mem _ ?_))) HK.out ?_ ?_); (intro v hv; have hv := (HO.out v).1 hv; subst hv)) | (go_at_call 127; ((with_reducible refine (HS.out _ (HG.out.kept M.grown (M.at (q := (bm, memG j s0 s1)) (by (repeat' (first | exact List.mem_cons_self | refine List.mem_cons_of_mem _ ?_)))))).mono ?_); rintro e wc ⟨rfl, hgr, hm⟩; skip; replace M := M.callW (by (repeat (first | exact Upd.head | apply Upd.tail))) hgr hm; clear hgr hm)) | (refine mu (ok := okG j s0 s1) Try.keyed Try.underlying177 M rfl rfl rfl rfl rfl (by (repeat (first | exact Upd.head | apply Upd.tail))) HK.out ((HO.out _).2 (by rw [HV.out]; rfl)) ?_; clear M; (try clear wc); intro wc M))
   · go_ret
     exact ⟨rfl, M.grown, (M.at (q := (bm, memG j s0 s1)) (by (repeat' (first | exact List.mem_cons_self | refine List.mem_cons_of_mem _ ?_))))⟩
   · go_ret
     rw [HV.out]
     exact ⟨rfl, M.grown, (M.at (q := (bm, memG j s0 s1)) (by (repeat' (first | exact List.mem_cons_self | refine List.mem_cons_of_mem _ ?_))))⟩
theorem stops_any (j : Jb) (A : Option Addr) (c : Nat) (s0 s1 : Int) (bg bx bm : Nat) (hj : j.good) : ∀ n, StopsC j A c s0 s1 bg bx bm n
 | 0 => fun p0 p1 t r w hb hg => stops_of j A c s0 s1 bg bx bm 0 p0 p1 t r w hb hg fun w' hg' => stroke_0 j A c s0 s1 bg bx bm p0 p1 t r w' hg'
 | n + 1 => fun p0 p1 t r w hb hg => stops_of j A c s0 s1 bg bx bm (n + 1) p0 p1 t r w hb hg fun w' hg' => stroke_s j A c s0 s1 bg bx bm n hj (stops_any j A c s0 s1 bg bx bm hj n) p0 p1 t r w' hb hg'
theorem readsC (j : Jb) (A : Option Addr) (c : Nat) (s0 s1 : Int) (bg bx bm : Nat) (hj : j.good) (n : Nat) (p0 p1 t r : Int) (w : World) (hb : Bnd n p0 p1 t r) (hg : Gm j A c s0 s1 bg bx bm w) :
   Calls Try.prog 119 #[.agg (gmA j A c s0 s1 bg bx).toArray, kn5 p0 p1 t r n] w (GPost j s0 s1 bm (.bool (readsP j s0 s1 n p0 p1 t r)) w) := reads_any j A c s0 s1 bg bx bm n hj (stops_any j A c s0 s1 bg bx bm hj n) p0 p1 t r w hb hg
end Go.Proofs.Ytlahdenlmmlplaa
end

section
/-
 reed: Guided and Next.
-/
namespace Go.Proofs.Ytlahdenlmmlplaa
set_option linter.unusedSimpArgs false
set_option linter.unusedVariables false
open Go.RowKit
def firstB (b : Nat → Bool) : Nat → Nat → Option Nat
 | 0, _ => none
 | k + 1, n => if b n = true then some n else firstB b k (n + 1)
theorem first_hit {b : Nat → Bool} {n : Nat} (hn : n < 5) (h : b n = true) : firstB b (5 - n) n = some n := by
 obtain ⟨k, hk⟩ : ∃ k, 5 - n = k + 1 := ⟨4 - n, by omega⟩
 rw [hk, firstB, if_pos h]
theorem first_miss {b : Nat → Bool} {n : Nat} (hn : n < 5) (h : b n = false) : firstB b (5 - n) n = firstB b (5 - (n + 1)) (n + 1) := by
 obtain ⟨k, hk⟩ : ∃ k, 5 - n = k + 1 := ⟨4 - n, by omega⟩
 have hk2 : 5 - (n + 1) = k := by omega
 rw [hk, firstB, if_neg (by rw [h]; simp), hk2]
theorem first_end {b : Nat → Bool} {n : Nat} (hn : 5 ≤ n) : firstB b (5 - n) n = none := by
 have : 5 - n = 0 := by omega
 rw [this]; rfl
def fewV (o : Option Nat) : Value := match o with | some n => .tuple #[.int .i64 n, .bool true] | none => .tuple #[.int .i64 0, .bool false]
theorem fewest_Guided (j : Jb) (s0 s1 : Int) (bm gG gJ : Nat) (b : Nat → Bool) (Inv : World → Prop) (hI : ∀ W W', Inv W → W.grownBy W' (some bm) → (memG j s0 s1).holds W' bm → Inv W')
   (hf : ∀ (n : Nat) W, n < 5 → Inv W → Calls Try.prog 118 #[.int .i64 n, .pointer (some ⟨gG, 0, none⟩), .pointer (some ⟨gJ, 0, none⟩)] W (GPost j s0 s1 bm (.bool (b n)) W)) (w : World) (h0 : Inv w) (hm : (memG j s0 s1).holds w bm) :
   Calls Try.prog 117 #[.func (.func 118) #[] #[.pointer (some ⟨gG, 0, none⟩), .pointer (some ⟨gJ, 0, none⟩)]] w (GPost j s0 s1 bm (fewV (firstB b 5 0)) w) := by
 have HI := Lib.hid hI
 have HF := Lib.hid hf
 have H0 := Lib.hid h0
 have M := Mem.initEx hm
 clear hI hf h0 hm
 generalize hv : firstB b 5 0 = fv at *
 have HV := Lib.hid hv
 clear hv
 go_enter Try.func117, Try.ntmps117
 refine m_start M ?_
 clear M
 intro wc M
 go_wp2_with (first | (refine m_ld1 M rfl rfl rfl (by (repeat' (first | exact List.mem_cons_self | refine List.mem_cons_of_mem _ ?_))) (by rfl) ?_) | (refine m_ldr M rfl rfl rfl (by (repeat' (first | exact List.mem_cons_self | refine List.mem_cons_of_mem _ ?_))) (by (try simp only [List.take_succ_cons, List.take_zero, List.take_nil, List.drop_succ_cons, List.drop_zero, List.drop_nil, List.cons_append, List.nil_append, List.append_nil, List.length_cons, List.length_nil, Nat.reduceAdd, Nat.zero_add, Nat.add_zero]); rfl) (by rfl) ?_) | (refine m_st M rfl rfl rfl (by first | exact (rfl : _ = Value.agg _) | exact (rfl : _ = Value.int _ _) | exact (rfl : _ = Value.bool _) | exact (rfl : _ = Value.slice _ _ _) | exact (rfl : _ = Value.pointer _) | exact (rfl : _ = Value.map _) | exact (rfl : _ = Value.func _ _ _) | exact (rfl : _ = Value.string _)) (by rfl) (by (repeat (first | exact Upd.head | apply Upd.tail))) (by (try simp only [List.take_succ_cons, List.take_zero, List.take_nil, List.drop_succ_cons, List.drop_zero, List.drop_nil, List.cons_append, List.nil_append, List.append_nil, List.length_cons, List.length_nil, Nat.reduceAdd, Nat.zero_add, Nat.add_zero]); rfl) (by simp) (by simp [Value.oneCell']) (by kernel_rfl) ?_; clear M; (try clear wc); intro wc M) | (refine m_al M rfl rfl ?_; clear M; (try clear wc); intro g wc M) | (refine m_bx M rfl rfl (by first | exact (rfl : _ = Value.agg _) | exact (rfl : _ = Value.int _ _) | exact (rfl : _ = Value.bool _) | exact (rfl : _ = Value.slice _ _ _) | exact (rfl : _ = Value.pointer _) | exact (rfl : _ = Value.map _) | exact (rfl : _ = Value.func _ _ _) | exact (rfl : _ = Value.string _)) (by rfl) ?_; clear M; (try clear wc); intro g wc M))
 go_loopw [5] (fun v wr => ∃ n : Nat, v = .int .i64 n ∧ n ≤ 5 ∧ Hid (firstB b 5 0 = firstB b (5 - n) n) ∧ Mem w (fun b => b = bm) wr [(bm, memG j s0 s1)]) (fun v _ => (5 - intOf v).toNat)
 case atStart => exact ⟨0, rfl, by omega, rfl, M⟩
 case round =>
   clear M wc
   obtain ⟨n, rfl, hn, he, M⟩ := hrel
   obtain ⟨wc, rfl⟩ : ∃ x : World, x = wr := ⟨_, rfl⟩
   by_cases hlt : n < 5
   · have e1 : decide ((n : Int) < 5) = true := by simp; omega
     have HL := Lib.hid hlt
     have CI := Lib.hid (HI.out w wc H0.out M.grown (M.at (q := (bm, memG j s0 s1)) (by (repeat' (first | exact List.mem_cons_self | refine List.mem_cons_of_mem _ ?_)))))
     cases hb : b n with
     | true =>
       have HB := Lib.hid hb
       clear hb
       go_wp2_with (first | (refine m_ld1 M rfl rfl rfl (by (repeat' (first | exact List.mem_cons_self | refine List.mem_cons_of_mem _ ?_))) (by rfl) ?_) | (refine m_ldr M rfl rfl rfl (by (repeat' (first | exact List.mem_cons_self | refine List.mem_cons_of_mem _ ?_))) (by (try simp only [List.take_succ_cons, List.take_zero, List.take_nil, List.drop_succ_cons, List.drop_zero, List.drop_nil, List.cons_append, List.nil_append, List.append_nil, List.length_cons, List.length_nil, Nat.reduceAdd, Nat.zero_add, Nat.add_zero]); rfl) (by rfl) ?_) | (refine m_st M rfl rfl rfl (by first | exact (rfl : _ = Value.agg _) | exact (rfl : _ = Value.int _ _) | exact (rfl : _ = Value.bool _) | exact (rfl : _ = Value.slice _ _ _) | exact (rfl : _ = Value.pointer _) | exact (rfl : _ = Value.map _) | exact (rfl : _ = Value.func _ _ _) | exact (rfl : _ = Value.string _)) (by rfl) (by (repeat (first | exact Upd.head | apply Upd.tail))) (by (try simp only [List.take_succ_cons, List.take_zero, List.take_nil, List.drop_succ_cons, List.drop_zero, List.drop_nil, List.cons_append, List.nil_append, List.append_nil, List.length_cons, List.length_nil, Nat.reduceAdd, Nat.zero_add, Nat.add_zero]); rfl) (by simp) (by simp [Value.oneCell']) (by kernel_rfl) ?_; clear M; (try clear wc); intro wc M) | (refine m_al M rfl rfl ?_; clear M; (try clear wc); intro g wc M) | (refine m_bx M rfl rfl (by first | exact (rfl : _ = Value.agg _) | exact (rfl : _ = Value.int _ _) | exact (rfl : _ = Value.bool _) | exact (rfl : _ = Value.slice _ _ _) | exact (rfl : _ = Value.pointer _) | exact (rfl : _ = Value.map _) | exact (rfl : _ = Value.func _ _ _) | exact (rfl : _ = Value.string _)) (by rfl) ?_; clear M; (try clear wc); intro g wc M) | (go_at_call 118; ((with_reducible refine (HF.out n _ HL.out CI.out).mono ?_); rintro e wc ⟨rfl, hgr, hm⟩; (rw [HB.out]); replace M := M.callW (by (repeat (first | exact Upd.head | apply Upd.tail))) hgr hm; clear hgr hm)))
       go_ret2
       have e : fv = some n := by rw [← HV.out, he.out, first_hit HL.out HB.out]
       rw [e]
       exact ⟨rfl, M.grown, (M.at (q := (bm, memG j s0 s1)) (by (repeat' (first | exact List.mem_cons_self | refine List.mem_cons_of_mem _ ?_))))⟩
     | false =>
       have HB := Lib.hid hb
       clear hb
       go_wp2_with (first | (refine m_ld1 M rfl rfl rfl (by (repeat' (first | exact List.mem_cons_self | refine List.mem_cons_of_mem _ ?_))) (by rfl) ?_) | (refine m_ldr M rfl rfl rfl (by (repeat' (first | exact List.mem_cons_self | refine List.mem_cons_of_mem _ ?_))) (by (try simp only [List.take_succ_cons, List.take_zero, List.take_nil, List.drop_succ_cons, List.drop_zero, List.drop_nil, List.cons_append, List.nil_append, List.append_nil, List.length_cons, List.length_nil, Nat.reduceAdd, Nat.zero_add, Nat.add_zero]); rfl) (by rfl) ?_) | (refine m_st M rfl rfl rfl (by first | exact (rfl : _ = Value.agg _) | exact (rfl : _ = Value.int _ _) | exact (rfl : _ = Value.bool _) | exact (rfl : _ = Value.slice _ _ _) | exact (rfl : _ = Value.pointer _) | exact (rfl : _ = Value.map _) | exact (rfl : _ = Value.func _ _ _) | exact (rfl : _ = Value.string _)) (by rfl) (by (repeat (first | exact Upd.head | apply Upd.tail))) (by (try simp only [List.take_succ_cons, List.take_zero, List.take_nil, List.drop_succ_cons, List.drop_zero, List.drop_nil, List.cons_append, List.nil_append, List.append_nil, List.length_cons, List.length_nil, Nat.reduceAdd, Nat.zero_add, Nat.add_zero]); rfl) (by simp) (by simp [Value.oneCell']) (by kernel_rfl) ?_; clear M; (try clear wc); intro wc M) | (refine m_al M rfl rfl ?_; clear M; (try clear wc); intro g wc M) | (refine m_bx M rfl rfl (by first | exact (rfl : _ = Value.agg _) | exact (rfl : _ = Value.int _ _) | exact (rfl : _ = Value.bool _) | exact (rfl : _ = Value.slice _ _ _) | exact (rfl : _ = Value.pointer _) | exact (rfl : _ = Value.map _) | exact (rfl : _ = Value.func _ _ _) | exact (rfl : _ = Value.string _)) (by rfl) ?_; clear M; (try clear wc); intro g wc M) | (go_at_call 118; ((with_reducible refine (HF.out n _ HL.out CI.out).mono ?_); rintro e wc ⟨rfl, hgr, hm⟩; (rw [HB.out]); replace M := M.callW (by (repeat (first | exact Upd.head | apply Upd.tail))) hgr hm; clear hgr hm)))
       go_roundw
       case rel => exact ⟨n + 1, by go_num, by omega, by (show _ = _; rw [he.out, first_miss HL.out HB.out]), M⟩
       case measure => simp [intOf]; omega
   · have e1 : decide ((n : Int) < 5) = false := by simp; omega
     go_wp2_with (first | (refine m_ld1 M rfl rfl rfl (by (repeat' (first | exact List.mem_cons_self | refine List.mem_cons_of_mem _ ?_))) (by rfl) ?_) | (refine m_ldr M rfl rfl rfl (by (repeat' (first | exact List.mem_cons_self | refine List.mem_cons_of_mem _ ?_))) (by (try simp only [List.take_succ_cons, List.take_zero, List.take_nil, List.drop_succ_cons, List.drop_zero, List.drop_nil, List.cons_append, List.nil_append, List.append_nil, List.length_cons, List.length_nil, Nat.reduceAdd, Nat.zero_add, Nat.add_zero]); rfl) (by rfl) ?_) | (refine m_st M rfl rfl rfl (by first | exact (rfl : _ = Value.agg _) | exact (rfl : _ = Value.int _ _) | exact (rfl : _ = Value.bool _) | exact (rfl : _ = Value.slice _ _ _) | exact (rfl : _ = Value.pointer _) | exact (rfl : _ = Value.map _) | exact (rfl : _ = Value.func _ _ _) | exact (rfl : _ = Value.string _)) (by rfl) (by (repeat (first | exact Upd.head | apply Upd.tail))) (by (try simp only [List.take_succ_cons, List.take_zero, List.take_nil, List.drop_succ_cons, List.drop_zero, List.drop_nil, List.cons_append, List.nil_append, List.append_nil, List.length_cons, List.length_nil, Nat.reduceAdd, Nat.zero_add, Nat.add_zero]); rfl) (by simp) (by simp [Value.oneCell']) (by kernel_rfl) ?_; clear M; (try clear wc); intro wc M) | (refine m_al M rfl rfl ?_; clear M; (try clear wc); intro g wc M) | (refine m_bx M rfl rfl (by first | exact (rfl : _ = Value.agg _) | exact (rfl : _ = Value.int _ _) | exact (rfl : _ = Value.bool _) | exact (rfl : _ = Value.slice _ _ _) | exact (rfl : _ = Value.pointer _) | exact (rfl : _ = Value.map _) | exact (rfl : _ = Value.func _ _ _) | exact (rfl : _ = Value.string _)) (by rfl) ?_; clear M; (try clear wc); intro g wc M))
     go_ret2
     have e : fv = none := by rw [← HV.out, he.out, first_end (by omega)]
     rw [e]
     exact ⟨rfl, M.grown, (M.at (q := (bm, memG j s0 s1)) (by (repeat' (first | exact List.mem_cons_self | refine List.mem_cons_of_mem _ ?_))))⟩
structure Gn (j : Jb) (A : Option Addr) (c : Nat) (s0 s1 : Int) (bg bx bm gG gJ : Nat) (w : World) : Prop where
 g : Gm j A c s0 s1 bg bx bm w
 b : Bk w gG (gmA j A c s0 s1 bg bx).toArray
 j : Bk w gJ #[.int .i64 j.p0, .int .i64 j.p1, .int .i64 j.t0, .int .i64 j.t1, .int .i64 j.r0, .int .i64 j.r1, .int .i64 j.u0, .int .i64 j.u1, .int .i64 j.d0, .int .i64 j.d1, .int .i64 j.a0, .int .i64 j.a1, .int .i64 j.b0, .int .i64 j.b1, .int .i64 j.le, .slice A j.sh.length c, .int .i64 j.wi, .int .i64 j.me]
 nb : gG ≠ bm
 nj : gJ ≠ bm
theorem Gn.kept {j : Jb} {A : Option Addr} {c : Nat} {s0 s1 : Int} {bg bx bm gG gJ : Nat} {w w' : World} (h : Gn j A c s0 s1 bg bx bm gG gJ w) (hg : w.grownBy w' (some bm)) (hm : (memG j s0 s1).holds w' bm) : Gn j A c s0 s1 bg bx bm gG gJ w' :=
 ⟨h.g.kept hg hm, h.b.grown hg (fun e => h.nb (by injection e)), h.j.grown hg (fun e => h.nj (by injection e)), h.nb, h.nj⟩
theorem bnd_0 {j : Jb} (hj : j.good) {n : Nat} (hn : n < 5) : Bnd n j.p0 j.p1 0 0 := by
 have := hj.p
 exact ⟨by omega, by omega, by omega, by omega, by omega⟩
theorem Guided1_any (j : Jb) (A : Option Addr) (c : Nat) (s0 s1 : Int) (bg bx bm gG gJ : Nat) (hj : j.good) (n : Nat) (hn : n < 5) (w : World) (hg : Gn j A c s0 s1 bg bx bm gG gJ w) :
   Calls Try.prog 118 #[.int .i64 n, .pointer (some ⟨gG, 0, none⟩), .pointer (some ⟨gJ, 0, none⟩)] w (GPost j s0 s1 bm (.bool (readsP j s0 s1 n j.p0 j.p1 0 0)) w) := by
 have M := Mem.initEx hg.g.m
 have HG := Lib.hid hg
 have HJ := Lib.hid hj
 clear hg hj
 go_enter Try.func118, Try.ntmps118
 refine m_start M ?_
 clear M
 intro wc M
 go_wp2_with (first | (refine m_ld1 M rfl rfl rfl (by (repeat' (first | exact List.mem_cons_self | refine List.mem_cons_of_mem _ ?_))) (by rfl) ?_) | (refine m_ldr M rfl rfl rfl (by (repeat' (first | exact List.mem_cons_self | refine List.mem_cons_of_mem _ ?_))) (by (try simp only [List.take_succ_cons, List.take_zero, List.take_nil, List.drop_succ_cons, List.drop_zero, List.drop_nil, List.cons_append, List.nil_append, List.append_nil, List.length_cons, List.length_nil, Nat.reduceAdd, Nat.zero_add, Nat.add_zero]); rfl) (by rfl) ?_) | (refine m_st M rfl rfl rfl (by first | exact (rfl : _ = Value.agg _) | exact (rfl : _ = Value.int _ _) | exact (rfl : _ = Value.bool _) | exact (rfl : _ = Value.slice _ _ _) | exact (rfl : _ = Value.pointer _) | exact (rfl : _ = Value.map _) | exact (rfl : _ = Value.func _ _ _) | exact (rfl : _ = Value.string _)) (by rfl) (by (repeat (first | exact Upd.head | apply Upd.tail))) (by (try simp only [List.take_succ_cons, List.take_zero, List.take_nil, List.drop_succ_cons, List.drop_zero, List.drop_nil, List.cons_append, List.nil_append, List.append_nil, List.length_cons, List.length_nil, Nat.reduceAdd, Nat.zero_add, Nat.add_zero]); rfl) (by simp) (by simp [Value.oneCell']) (by kernel_rfl) ?_; clear M; (try clear wc); intro wc M) | (refine m_al M rfl rfl ?_; clear M; (try clear wc); intro g wc M) | (refine m_bx M rfl rfl (by first | exact (rfl : _ = Value.agg _) | exact (rfl : _ = Value.int _ _) | exact (rfl : _ = Value.bool _) | exact (rfl : _ = Value.slice _ _ _) | exact (rfl : _ = Value.pointer _) | exact (rfl : _ = Value.map _) | exact (rfl : _ = Value.func _ _ _) | exact (rfl : _ = Value.string _)) (by rfl) ?_; clear M; (try clear wc); intro g wc M) | (refine lo_row (M.old HG.out.b HG.out.nb) rfl rfl rfl (by (try simp only [List.take_succ_cons, List.take_zero, List.take_nil, List.drop_succ_cons, List.drop_zero, List.drop_nil, List.cons_append, List.nil_append, List.append_nil, List.length_cons, List.length_nil, Nat.reduceAdd, Nat.zero_add, Nat.add_zero]); rfl) (by rfl) ?_) | (refine lo_row (M.old HG.out.j HG.out.nj) rfl rfl rfl (by (try simp only [List.take_succ_cons, List.take_zero, List.take_nil, List.drop_succ_cons, List.drop_zero, List.drop_nil, List.cons_append, List.nil_append, List.append_nil, List.length_cons, List.length_nil, Nat.reduceAdd, Nat.zero_add, Nat.add_zero]); rfl) (by rfl) ?_) | (go_at_call 119; ((with_reducible refine (readsC j A c s0 s1 bg bx bm HJ.out n j.p0 j.p1 0 0 _ (bnd_0 HJ.out hn) (HG.out.kept M.grown (M.at (q := (bm, memG j s0 s1)) (by (repeat' (first | exact List.mem_cons_self | refine List.mem_cons_of_mem _ ?_))))).g).mono ?_); rintro e wc ⟨rfl, hgr, hm⟩; skip; replace M := M.callW (by (repeat (first | exact Upd.head | apply Upd.tail))) hgr hm; clear hgr hm)))
 go_ret
 exact ⟨rfl, M.grown, (M.at (q := (bm, memG j s0 s1)) (by (repeat' (first | exact List.mem_cons_self | refine List.mem_cons_of_mem _ ?_))))⟩
end Go.Proofs.Ytlahdenlmmlplaa
end

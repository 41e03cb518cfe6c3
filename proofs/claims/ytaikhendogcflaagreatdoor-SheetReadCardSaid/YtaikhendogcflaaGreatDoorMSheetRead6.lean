/-
  Walks of functions, and plain laws (texts put together). No condition.
-/
import Derived.Test.YtaikhendogcflaaGreatDoorMSheetRead1
import Derived.Test.YtaikhendogcflaaGreatDoorMSheetRead2
import Derived.Test.YtaikhendogcflaaGreatDoorMSheetRead3
import Derived.Test.YtaikhendogcflaaGreatDoorMSheetRead4
import Derived.Test.YtaikhendogcflaaGreatDoorMSheetRead5
set_option maxRecDepth 100000
set_option maxHeartbeats 1000000
set_option linter.unusedSimpArgs false
set_option linter.unusedVariables false
namespace Go.Proofs.YtaikhendogcflaaGreatDoor
open Go.RowKit
def outS (t : List UInt8) : Sum Int Sk := match rowsS false 0 (spl 10 t).dropLast zeroS with
 | .inl r => .inl (r : Int)
 | .inr (en, s) => if en = false ∨ (spl 10 t).getLast? ≠ some [] then .inl ((spl 10 t).length : Int) else .inr s
theorem out_bad {t : List UInt8} {r : Nat} (h : rowsS false 0 (spl 10 t).dropLast zeroS = .inl r) : outS t = .inl (r : Int) := by unfold outS; rw [h]
theorem out_end {t : List UInt8} {en : Bool} {s : Sk} {zl : List UInt8} (h : rowsS false 0 (spl 10 t).dropLast zeroS = .inr (en, s)) (hz : (spl 10 t)[(spl 10 t).length - 1]? = some zl) (hc : ((!en) || (!decide (zl = []))) = true) : outS t = .inl ((spl 10 t).length : Int) := by
 unfold outS
 rw [h]
 dsimp only
 rw [if_pos]
 simp only [Bool.or_eq_true, Bool.not_eq_true', decide_eq_false_iff_not] at hc
 rcases hc with h1 | h1
 ·exact .inl h1
 ·refine .inr fun e => h1 ?_
  rw [List.getLast?_eq_getElem?, hz] at e
  injection e
theorem out_go {t : List UInt8} {en : Bool} {s : Sk} {zl : List UInt8} (h : rowsS false 0 (spl 10 t).dropLast zeroS = .inr (en, s)) (hz : (spl 10 t)[(spl 10 t).length - 1]? = some zl) (hc : ((!en) || (!decide (zl = []))) = false) : outS t = .inr s := by
 unfold outS
 rw [h]
 dsimp only
 simp only [Bool.or_eq_false_iff, Bool.not_eq_false', decide_eq_true_eq] at hc
 rw [if_neg]
 rintro (h1 | h1)
 ·rw [hc.1] at h1; cases h1
 ·rw [List.getLast?_eq_getElem?, hz, hc.2] at h1
  exact h1 rfl
theorem rd_out {t : List UInt8} : endS skErr (spl 10 t) (rowsS false 0 (spl 10 t).dropLast zeroS) = match outS t with
  | .inl r => (zeroS, r, 2)
  | .inr s => if skErr s ≠ 0 then (zeroS, 0, skErr s) else (s, 0, 0) := by
 unfold endS outS
 cases rowsS false 0 (spl 10 t).dropLast zeroS with
 | inl r => rfl
 | inr y =>
  obtain ⟨en, s⟩ := y
  dsimp only
  split <;> rfl
section
variable {en : Bool} {i : Nat} {ls ws : List (List UInt8)} {r : List UInt8} {s t : Sk} {x : Sum Nat (Bool × Sk)}
theorem rt_sawn (h : ls[i]? = some r) (H : x = rowsS en i (ls.drop i) s) (he : en = false) (hc : (decide (0 < (i : Int)) && decide (r = [115, 97, 119, 110])) = true) : x = rowsS true (i + 1) (ls.drop (i + 1)) s := by
 simp only [Bool.and_eq_true, decide_eq_true_eq] at hc
 exact rw_sawn h H he (by omega) hc.2
theorem rt_go (h : ls[i]? = some r) (H : x = rowsS en i (ls.drop i) s) (he : en = false) (hc : (decide (0 < (i : Int)) && decide (r = [115, 97, 119, 110])) = false) (hw : ws = spl 32 r) (ht : (if decide ((i : Int) = 0) = true then headS ws s else partS ws s) = some t) : x = rowsS en (i + 1) (ls.drop (i + 1)) t := by
 subst hw
 by_cases h0 : i = 0
 ·rw [if_pos (Zdt (by omega))] at ht
  exact rw_head h H he h0 ht
 ·rw [if_neg (by simp; omega)] at ht
  refine rw_part h H he h0 (fun e => ?_) ht
  rw [Zdt (show (0 : Int) < (i : Int) by omega), Zdt (show r = [115, 97, 119, 110] from e)] at hc
  cases hc
theorem rt_no (h : ls[i]? = some r) (H : x = rowsS en i (ls.drop i) s) (he : en = false) (hc : (decide (0 < (i : Int)) && decide (r = [115, 97, 119, 110])) = false) (hw : ws = spl 32 r) (ht : (if decide ((i : Int) = 0) = true then headS ws s else partS ws s) = none) : x = .inl (i + 1) := by
 subst hw
 by_cases h0 : i = 0
 ·rw [if_pos (Zdt (by omega))] at ht
  exact rw_headN h H he h0 ht
 ·rw [if_neg (by simp; omega)] at ht
  refine rw_partN h H he h0 (fun e => ?_) ht
  rw [Zdt (show (0 : Int) < (i : Int) by omega), Zdt (show r = [115, 97, 119, 110] from e)] at hc
  cases hc
end
def ReadE (t : List UInt8) (w : World) (e : Ending) (w' : World) : Prop := ∃ (s' : Sk) (A : Option Addr) (c : Nat) (I : List (Nat × BA)) (ev : Value), e = .returned (.tuple #[.agg #[.int .i64 s'.lo, .int .i64 s'.wi, .int .i64 s'.a0, .int .i64 s'.a1, .int .i64 s'.c0, .int .i64 s'.c1, .slice A s'.ps.length c], ev]) ∧ Sl 119 4 (.slice A s'.ps.length c) s'.ps.length (pc s'.ps) I ∧ Mem w noEx w' I ∧ s'.ps.length ≤ 1000 ∧ ((ev = .nilIface ∧ outS t = .inr s') ∨ ∃ r : Int, ev = .iface 137 (.agg #[.int .i64 r]) ∧ outS t = .inl r)
theorem sread_any (text : List UInt8) (w : World) (hx3 : text.length ≤ 300) (hT : StrW w)  :
   Calls Tryz.prog 72 #[sv text] w (ReadE text w) := by
 refine Zpx noEx Tryz.func72 rfl 66 rfl [sv text] rfl rfl (Mem.init w _) ?_
 intro ac wc T M
 refine Zsr ?_
 refine Zl2 ?_
 refine Zoa M T rfl rfl rfl rfl ?_; clear M T; intro g1 wc ac M T
 refine lq T (Zra rfl evc) ?_; clear T ac; intro ac T
 replace T := T.pick [1, 2] rfl
 refine Zln ?_
 refine Zsr ?_
 refine lq T (Zrm rfl (T.e 1 rfl)) ?_; clear T ac; intro ac T
 refine Zl2 ?_
 refine Zoc (first := []) (cap := []) T rfl rfl rfl rfl evf (.cons (T.e 0 rfl) (.cons evc .nil)) Tryz.func46 rfl rfl ?_
 refine Calls.mono (Split2_any text 10 _ (by omega) (hT.mem0 M)) ?_
 clear T; rintro e wc ⟨Au1, cu1, bu1, ou1, Iu1, rfl, hc9u1, SVu1, N⟩ ac T
 obtain ⟨lsu1, hlsu1⟩ : ∃ q, q = spl 10 text := ⟨_, rfl⟩
 rw [← hlsu1] at hc9u1 SVu1 T
 have Su1 := SVu1 w noEx
 replace M := (M.join N).swapI
 clear N
 replace M : Mem w noEx wc ((g1, .cells [.int .i64 0, .int .i64 0, .int .i64 0, .int .i64 0, .int .i64 0, .int .i64 0, .slice none 0 0]) :: Iu1) := (Mem.permS (L' := ((g1, .cells [.int .i64 0, .int .i64 0, .int .i64 0, .int .i64 0, .int .i64 0, .int .i64 0, .slice none 0 0]) :: Iu1)) M (fun f => by simp only [sumF_app, sumF_cons, sumF_nil, List.cons_append, List.nil_append, List.append_nil, Nat.add_zero, Nat.zero_add] <;> omega))
 have hlenu1 : lsu1.length ≤ text.length + 1 := by rw [hlsu1]; exact spl_len _ _
 have hposu1 : 0 < lsu1.length := by rw [hlsu1]; exact spl_pos _ _
 refine lq T (Zra rfl (T.e 0 rfl)) ?_; clear T ac; intro ac T
 replace T := T.pick [0, 3] rfl
 refine Zln ?_
 refine Zsr ?_
 refine Zg4 T (Zq (Zrm rfl (T.e 0 rfl))) rfl (Zl Tryz.underlying37 0 rfl rfl) rfl (fun _ T => Zq (rn_sub rfl (T.e 0 rfl) evc (by omega))) rfl (Za 0 rfl rfl) rfl ?_; clear T ac; intro ac T
 replace T := T.pick [0, 4, 5] rfl
 refine Zln ?_
 refine Zsr ?_
 refine Zl2 ?_
 refine Zoa M T rfl rfl rfl rfl ?_; clear M T; intro g2 wc ac M T
 refine Zln ?_
 refine Zsr ?_
 refine lq T (Zra rfl evc) ?_; clear T ac; intro ac T
 refine Zln ?_
 refine wp_seq ?_
 refine Zsr ?_
 refine Zg3 T (Zq (Zrm rfl (T.e 3 rfl))) rfl (Zm 3 rfl rfl) rfl (fun _ T => Zq (rn_slice (size := 1) (l := 0) (h := (lsu1.length - 1)) rfl Tryz.underlying37 (by kernel_rfl) (T.e 1 rfl) rfl ((T.e 0 rfl).trans (congrArg (Value.int .i64) (by omega))) (by omega) (by omega))) rfl ?_; clear T ac; intro ac T
 obtain ⟨Aq1, hAq1⟩ : ∃ q : Option Addr, q = (if cu1 = 0 then Au1 else Option.map (fun x : Addr => x.add (0 * 1)) Au1) := ⟨_, rfl⟩
 rw [← hAq1] at T
 obtain ⟨lq1, hlq1⟩ : ∃ q, q = (lsu1.drop 0).take ((lsu1.length - 1) - 0) := ⟨_, rfl⟩
 have nlq1 : lq1.length = (lsu1.length - 1) - 0 := by rw [hlq1, List.length_take, List.length_drop]; (try simp only [List.length_cons, List.length_append, List.length_nil]); omega
 rw [← nlq1] at T
 have SAq1 : Sp w noEx Iu1 Aq1 lq1.length 1 bu1 (ou1 + 0 * 1) (st lq1) := by rw [nlq1, hAq1, hlq1, ← st_part]; exact Su1.sub (by omega) (by omega) (by omega)
 refine Zg2 T (Zq (Zrl rfl Tryz.underlying37 (T.e 0 rfl))) rfl (fun _ T => Zq (Zrm rfl evc)) rfl ?_; clear T ac; intro ac T
 replace T := T.pick [0, 1, 2, 5, 6, 7, 8, 9] rfl
 refine Zln ?_
 refine wp_block ?_
 have hdl : lq1 = lsu1.dropLast := by rw [hlq1, List.dropLast_eq_take]; rfl
 refine wp_loop_n (fun mz ac wc => ∃ (i : Nat) (en : Bool) (s : Sk) (A : Option Addr) (c : Nat) (Ia : List (Nat × BA)), mz = lq1.length - i ∧ (i ≤ lq1.length) ∧ (rowsS false 0 lq1 zeroS = rowsS en i (lq1.drop i) s) ∧ (Sl 119 4 (.slice A s.ps.length c) s.ps.length (pc s.ps) Ia) ∧ (s.ps.length ≤ i) ∧ Tm ac 66 [(2, .pointer (some ⟨g1, 0, none⟩)), (4, .slice Au1 lsu1.length cu1), (5, .int .i64 (((lsu1.length : Nat) : Int) - 1)), (6, .pointer (some ⟨g2, 0, none⟩)), (7, .bool en), (17, .slice Aq1 lq1.length (cu1 - 0)), (18, .int .i64 ((lq1.length : Nat) : Int)), (19, .int .i64 (i : Int))] ∧ Mem w noEx wc ((g2, .cells [.int .i64 s.lo, .int .i64 s.wi, .int .i64 s.a0, .int .i64 s.a1, .int .i64 s.c0, .int .i64 s.c1, .slice A s.ps.length c]) :: (g1, .cells [.int .i64 0, .int .i64 0, .int .i64 0, .int .i64 0, .int .i64 0, .int .i64 0, .slice none 0 0]) :: (Iu1 ++ Ia))) ?_ ?_
 ·exact ⟨_, 0, false, zeroS, none, 0, [], rfl, (Nat.zero_le _), rfl, (Sl.nil _ _), (Nat.zero_le _), T.pick [7, 6, 5, 4, 3, 2, 1, 0] rfl, (by simp only [List.append_nil]; exact M)⟩
 clear T M
 rintro mz ac wc ⟨i, en, s, A, c, Ia, hmm1, hi, H, hsA, hn, T, M⟩
 refine Zsr ?_
 refine lq T (rn_lss rfl (T.e 7 rfl) (T.e 6 rfl)) ?_; clear T ac; intro ac T
 refine Zln ?_
 refine wp_seq ?_
 refine wp_if (T.e 0 rfl) ?_ ?_
 ·intro h1
  obtain ⟨s9, hks⟩ : ∃ q, lq1[i]? = some q := ⟨_, List.getElem?_eq_getElem (by omega)⟩
  have hsm : s9 ∈ lsu1 := by have h9 := List.mem_of_getElem? hks; rw [hdl] at h9; exact (List.dropLast_sublist _).subset h9
  have hsl8 : s9.length ≤ text.length := spl_mem_len (c := 10) (by rw [← hlsu1]; exact hsm)
  refine Zsk ?_
  refine wp_seq ?_
  refine wp_block ?_
  refine Zsr ?_
  refine Zg5 T (Zq (Zrm rfl (T.e 8 rfl))) rfl (fun _ T => Zq (Zri (size := 1) i rfl (T.e 7 rfl) (T.e 9 rfl) ⟨_, Tryz.underlying37, by kernel_rfl⟩ rfl (by omega) (SAq1.at0 (by omega)))) rfl (fun _ T => Zq (rn_cell (Sp.stC0 SAq1 M (.cons _ (.cons _ (subL (List.Sublist.refl _)))) hks) rfl (T.e 0 rfl))) rfl (Za 2 rfl rfl) rfl (Za 1 rfl rfl) rfl ?_; clear T ac; intro ac T
  replace T := T.pick [0, 1, 6, 7, 8, 9, 10, 11, 12, 13] rfl
  refine Zln ?_
  refine wp_block ?_
  refine Zsr ?_
  refine Zg2 T (Zq (Zrm rfl (T.e 6 rfl))) rfl (Za 0 rfl rfl) rfl ?_; clear T ac; intro ac T
  replace T := T.pick [0, 2, 3, 4, 5, 6, 7, 8, 9, 10, 11] rfl
  refine Zln ?_
  refine wp_cond_split (T.e 0 rfl) ?_ ?_
  ·intro h2
   refine Zsr ?_
   refine Zg5 (v4 := (.agg #[.int .i64 ((i : Int) + 1)])) T (Zq (Zrr (Mem.nth M 0 rfl) rfl (T.e 6 rfl) rfl)) rfl (Zm 3 rfl rfl) rfl (fun _ T => Zq (rn_add rfl (T.e 0 rfl) evc (by omega))) rfl (fun _ T => Zq (rn_build rfl (.cons (T.e 0 rfl) .nil) (fun _ => by kernel_rfl))) rfl (fun _ T => Zq (rn_mi rfl (by kernel_rfl) (T.e 0 rfl))) rfl ?_; clear T ac; intro ac T
   refine Zl2 ?_
   refine Zos M T rfl rfl (T.e 8 rfl) (T.e 4 rfl) rfl (.tail .head) rfl (by simp) rfl (by kernel_rfl) ?_; clear M T; intro wc ac M T
   refine lq T (Zra rfl (T.e 0 rfl)) ?_; clear T ac; intro ac T
   refine wpList_nil ?_
   replace T := T.pick [0, 9] rfl
   replace M := M.mask [false, true] rfl
   refine Znr ?_
   refine Zrb ?_
   refine Zrb ?_
   refine Zrt ?_
   refine Zrt ?_
   refine Zrb ?_
   refine Zrt ?_
   refine rt_ct M T rfl (T.e 1 rfl) (T.e 0 rfl) (Zne (i := 0) rfl) rfl ?_
   have hb9 := rw_en hks H (by assumption)
   rw [hdl, hlsu1] at hb9
   exact ⟨s, A, c, Ia, _, rfl, hsA, (Mem.subS (L' := (Ia)) ((g1, .cells [.int .i64 s.lo, .int .i64 s.wi, .int .i64 s.a0, .int .i64 s.a1, .int .i64 s.c0, .int .i64 s.c1, .slice A s.ps.length c]) :: Iu1) M (fun f => by simp only [sumF_app, sumF_cons, sumF_nil, List.cons_append, List.nil_append, List.append_nil, Nat.add_zero, Nat.zero_add] <;> omega)), by omega, .inr ⟨_, rfl, (by rw [out_bad hb9]; push_cast; rfl)⟩⟩
  intro h2
  refine cut_seq (fun ac wc => Tm ac 66 [(2, .pointer (some ⟨g1, 0, none⟩)), (4, .slice Au1 lsu1.length cu1), (5, .int .i64 (((lsu1.length : Nat) : Int) - 1)), (6, .pointer (some ⟨g2, 0, none⟩)), (7, .bool en), (8, .int .i64 (i : Int)), (9, sv s9), (17, .slice Aq1 lq1.length (cu1 - 0)), (18, .int .i64 ((lq1.length : Nat) : Int)), (19, .int .i64 (i : Int)), (31, .bool ((decide (0 < (i : Int))) && (decide (s9 = ([115, 97, 119, 110])))))] ∧ Mem w noEx wc ((g2, .cells [.int .i64 s.lo, .int .i64 s.wi, .int .i64 s.a0, .int .i64 s.a1, .int .i64 s.c0, .int .i64 s.c1, .slice A s.ps.length c]) :: (g1, .cells [.int .i64 0, .int .i64 0, .int .i64 0, .int .i64 0, .int .i64 0, .int .i64 0, .slice none 0 0]) :: (Iu1 ++ Ia))) ?_ ?_
  ·refine wp_region_lit ?_
   refine Zg3 T (Zq (Zrm rfl (T.e 2 rfl))) rfl (fun _ T => Zq (rn_gtr rfl (T.e 0 rfl) evc)) rfl (Zm 0 rfl rfl) rfl ?_; clear T ac; intro ac T
   rcases Bool.eq_false_or_eq_true (decide (0 < (i : Int))) with h3 | h3
   ·replace h3 := of_decide_eq_true h3
    refine Zg4 T (Zw (Zwy rfl rfl (T.e 0 rfl) (Zdt h3)) (Zrm rfl (T.e 4 rfl))) rfl (fun _ T => Zw (Zwy rfl rfl (T.e 1 rfl) (Zdt h3)) (rn_seql rfl (T.e 0 rfl) evc)) rfl (fun _ T => Zq (Zr1 rfl (T.e 2 rfl) (Zdt h3) (T.e 0 rfl))) rfl (Za 0 rfl rfl) rfl ?_; clear T ac; intro ac T
    refine wpList_nil ?_
    replace T := T.pick [0, 2, 3, 8, 9, 10, 11, 12, 13, 14, 15, 16, 17] rfl
    exact ⟨(T.pick (E' := [(2, .pointer (some ⟨g1, 0, none⟩)), (4, .slice Au1 lsu1.length cu1), (5, .int .i64 (((lsu1.length : Nat) : Int) - 1)), (6, .pointer (some ⟨g2, 0, none⟩)), (7, .bool en), (8, .int .i64 (i : Int)), (9, sv s9), (17, .slice Aq1 lq1.length (cu1 - 0)), (18, .int .i64 ((lq1.length : Nat) : Int)), (19, .int .i64 (i : Int)), (31, .bool (decide (s9 = ([115, 97, 119, 110]))))]) [5, 6, 7, 8, 9, 4, 3, 10, 11, 12, 0] rfl).as (by (try rw [show (decide (0 < (i : Int))) = true from (Zdt h3)]); (try rfl)), M.mask [true, true] rfl⟩
   replace h3 := of_decide_eq_false h3
   refine Zg4 T (Zp (Zwn rfl rfl (T.e 0 rfl) (Zdf h3))) rfl (fun _ T => Zp (Zwn rfl rfl (T.e 1 rfl) (Zdf h3))) rfl (fun _ T => Zq (Zr0 rfl (T.e 2 rfl) (Zdf h3) evc)) rfl (Za 0 rfl rfl) rfl ?_; clear T ac; intro ac T
   refine wpList_nil ?_
   replace T := T.pick [0, 2, 3, 8, 9, 10, 11, 12, 13, 14, 15, 16, 17] rfl
   exact ⟨(T.pick (E' := [(2, .pointer (some ⟨g1, 0, none⟩)), (4, .slice Au1 lsu1.length cu1), (5, .int .i64 (((lsu1.length : Nat) : Int) - 1)), (6, .pointer (some ⟨g2, 0, none⟩)), (7, .bool en), (8, .int .i64 (i : Int)), (9, sv s9), (17, .slice Aq1 lq1.length (cu1 - 0)), (18, .int .i64 ((lq1.length : Nat) : Int)), (19, .int .i64 (i : Int)), (31, .bool false)]) [5, 6, 7, 8, 9, 4, 3, 10, 11, 12, 0] rfl).as (by (try rw [show (decide (0 < (i : Int))) = false from (Zdf h3)]); (try rfl)), M.mask [true, true] rfl⟩
  clear T M
  rintro ac wc ⟨T, M⟩
  refine wp_cond_split (T.e 10 rfl) ?_ ?_
  ·intro h4
   (have h4' := h4; try simp only [Zb1, Zb2, Zb3, Zb4, Zb5, Zb6, Zb7] at h4')
   refine wp_region_lit ?_
   refine l_q (v := (.bool true)) (T.pick [0, 1, 2, 3, 5, 6, 7, 8, 9, 10] rfl) rfl rfl rfl rfl (Zra rfl evc) ?_; clear T ac; intro ac T
   refine wpList_nil ?_
   replace T := T.pick [0, 1, 2, 3, 4, 7, 8, 9] rfl
   refine Znb ?_
   refine Znb ?_
   refine nm_then ?_
   refine wp_region_lit ?_
   refine lq T (rn_add rfl (T.e 7 rfl) evc (by omega)) ?_; clear T ac; intro ac T
   refine l_q (v := (.int .i64 ((i : Int) + 1))) (T.pick [0, 1, 2, 3, 4, 5, 6, 7] rfl) rfl rfl rfl rfl (Zrm rfl (T.e 0 rfl)) ?_; clear T ac; intro ac T
   replace T := T.pick [0, 2, 3, 4, 5, 6, 7, 8] rfl
   refine Zln ?_
   have hH := rt_sawn hks H (by assumption) (by assumption)
   exact ⟨_, by omega, i + 1, true, s, A, c, Ia, rfl, (by omega), hH, hsA, (by omega), T.pick [2, 3, 4, 5, 1, 6, 7, 0] rfl, (Mem.subS ([]) M (fun f => by simp only [sumF_app, sumF_cons, sumF_nil, List.cons_append, List.nil_append, List.append_nil, Nat.add_zero, Nat.zero_add] <;> omega))⟩
  intro h4
  (have h4' := h4; try simp only [Zb1, Zb2, Zb3, Zb4, Zb5, Zb6, Zb7] at h4')
  refine Zsr ?_
  refine lq T (Zrm rfl (T.e 6 rfl)) ?_; clear T ac; intro ac T
  refine Zl2 ?_
  refine Zoc (first := []) (cap := []) T rfl rfl rfl rfl evf (.cons (T.e 0 rfl) (.cons evc .nil)) Tryz.func46 rfl rfl ?_
  refine Calls.mono (Split2_any s9 32 _ (by omega) (hT.mem0 M)) ?_
  clear T; rintro e wc ⟨Au2, cu2, bu2, ou2, Iu2, rfl, hc9u2, SVu2, N⟩ ac T
  obtain ⟨lsu2, hlsu2⟩ : ∃ q, q = spl 32 s9 := ⟨_, rfl⟩
  rw [← hlsu2] at hc9u2 SVu2 T
  have Su2 := SVu2 w noEx
  replace M := (M.join N).swapI
  clear N
  replace M : Mem w noEx wc ((g2, .cells [.int .i64 s.lo, .int .i64 s.wi, .int .i64 s.a0, .int .i64 s.a1, .int .i64 s.c0, .int .i64 s.c1, .slice A s.ps.length c]) :: (g1, .cells [.int .i64 0, .int .i64 0, .int .i64 0, .int .i64 0, .int .i64 0, .int .i64 0, .slice none 0 0]) :: (Iu1 ++ Ia ++ Iu2)) := (Mem.permS (L' := ((g2, .cells [.int .i64 s.lo, .int .i64 s.wi, .int .i64 s.a0, .int .i64 s.a1, .int .i64 s.c0, .int .i64 s.c1, .slice A s.ps.length c]) :: (g1, .cells [.int .i64 0, .int .i64 0, .int .i64 0, .int .i64 0, .int .i64 0, .int .i64 0, .slice none 0 0]) :: (Iu1 ++ Ia ++ Iu2))) M (fun f => by simp only [sumF_app, sumF_cons, sumF_nil, List.cons_append, List.nil_append, List.append_nil, Nat.add_zero, Nat.zero_add] <;> omega))
  have hlenu2 : lsu2.length ≤ s9.length + 1 := by rw [hlsu2]; exact spl_len _ _
  have hposu2 : 0 < lsu2.length := by rw [hlsu2]; exact spl_pos _ _
  refine Zg2 T (Zq (Zrm rfl (T.e 7 rfl))) rfl (fun _ T => Zq (rn_eql rfl (T.e 0 rfl) evc)) rfl ?_; clear T ac; intro ac T
  refine Zl2 ?_
  have Mq : Mem w noEx wc (((g2, .cells [.int .i64 s.lo, .int .i64 s.wi, .int .i64 s.a0, .int .i64 s.a1, .int .i64 s.c0, .int .i64 s.c1, .slice A s.ps.length c]) :: Ia) ++ ((g1, .cells [.int .i64 0, .int .i64 0, .int .i64 0, .int .i64 0, .int .i64 0, .int .i64 0, .slice none 0 0]) :: (Iu1 ++ Iu2))) := M.permS (fun f => by simp only [sumF_app, sumF_cons, sumF_nil, List.cons_append, List.nil_append, List.append_nil, Nat.add_zero, Nat.zero_add] <;> omega)
  have My : Mem w noEx wc ((g2, .cells [.int .i64 s.lo, .int .i64 s.wi, .int .i64 s.a0, .int .i64 s.a1, .int .i64 s.c0, .int .i64 s.c1, .slice A s.ps.length c]) :: Ia) := Mq.sub (Zsl _ _)
  have Sx := Sp.of (ex' := inL ((g2, .cells [.int .i64 s.lo, .int .i64 s.wi, .int .i64 s.a0, .int .i64 s.a1, .int .i64 s.c0, .int .i64 s.c1, .slice A s.ps.length c]) :: Ia)) Mq (fun _ h => h) (SVu2 w noEx) (.cons _ (Zsq _ _))
  refine Zoc (first := []) (cap := []) T rfl rfl rfl rfl evf (.cons (T.e 7 rfl) (.cons (T.e 2 rfl) (.cons (T.e 0 rfl) .nil))) Tryz.func144 rfl rfl ?_
  refine Calls.mono (stake_any g2 s A c Ia (inL ((g2, .cells [.int .i64 s.lo, .int .i64 s.wi, .int .i64 s.a0, .int .i64 s.a1, .int .i64 s.c0, .int .i64 s.c1, .slice A s.ps.length c]) :: Ia)) Au2 cu2 bu2 ou2 lsu2 (decide ((i : Int) = 0)) _ (fun wq Lq Mx => hT.mem0 (Mem.joinX (X := ((g2, .cells [.int .i64 s.lo, .int .i64 s.wi, .int .i64 s.a0, .int .i64 s.a1, .int .i64 s.c0, .int .i64 s.c1, .slice A s.ps.length c]) :: Ia)) (F := ((g1, .cells [.int .i64 0, .int .i64 0, .int .i64 0, .int .i64 0, .int .i64 0, .int .i64 0, .slice none 0 0]) :: (Iu1 ++ Iu2))) Mq Mx (fun b h => h))) Sx hposu2 (by omega) (fun p hp => by rw [hlsu2] at hp; have := spl_mem_len (c := 32) (s := s9) hp; omega) (by omega) hsA My.rebase) ?_
  clear T; rintro e wc ⟨rfl, squ3, Lqu3, N9, ⟨Acu3, ccu3, Iqu3, rfl, hsqu3⟩, hnqu3, hvqu3⟩ ac T
  replace M := Mem.joinX (X := ((g2, .cells [.int .i64 s.lo, .int .i64 s.wi, .int .i64 s.a0, .int .i64 s.a1, .int .i64 s.c0, .int .i64 s.c1, .slice A s.ps.length c]) :: Ia)) (X' := ((g2, .cells [.int .i64 squ3.lo, .int .i64 squ3.wi, .int .i64 squ3.a0, .int .i64 squ3.a1, .int .i64 squ3.c0, .int .i64 squ3.c1, .slice Acu3 squ3.ps.length ccu3]) :: Iqu3)) (F := ((g1, .cells [.int .i64 0, .int .i64 0, .int .i64 0, .int .i64 0, .int .i64 0, .int .i64 0, .slice none 0 0]) :: (Iu1 ++ Iu2))) Mq N9 (fun b h => h)
  clear N9 Mq My Sx
  replace M : Mem w noEx wc ((g2, .cells [.int .i64 squ3.lo, .int .i64 squ3.wi, .int .i64 squ3.a0, .int .i64 squ3.a1, .int .i64 squ3.c0, .int .i64 squ3.c1, .slice Acu3 squ3.ps.length ccu3]) :: (g1, .cells [.int .i64 0, .int .i64 0, .int .i64 0, .int .i64 0, .int .i64 0, .int .i64 0, .slice none 0 0]) :: (Iqu3 ++ Iu1 ++ Iu2)) := (Mem.permS (L' := ((g2, .cells [.int .i64 squ3.lo, .int .i64 squ3.wi, .int .i64 squ3.a0, .int .i64 squ3.a1, .int .i64 squ3.c0, .int .i64 squ3.c1, .slice Acu3 squ3.ps.length ccu3]) :: (g1, .cells [.int .i64 0, .int .i64 0, .int .i64 0, .int .i64 0, .int .i64 0, .int .i64 0, .slice none 0 0]) :: (Iqu3 ++ Iu1 ++ Iu2))) M (fun f => by simp only [sumF_app, sumF_cons, sumF_nil, List.cons_append, List.nil_append, List.append_nil, Nat.add_zero, Nat.zero_add] <;> omega))
  obtain ⟨oku3, hoku3⟩ : ∃ q, q = (if (decide ((i : Int) = 0)) = true then headS lsu2 s else partS lsu2 s).isSome := ⟨_, rfl⟩
  rw [← hoku3] at T
  refine Zg2 T (Zq (rn_not rfl (T.e 0 rfl))) rfl (Za 0 rfl rfl) rfl ?_; clear T ac; intro ac T
  replace T := T.pick [0, 7, 8, 9, 10, 11, 12, 14, 15, 16] rfl
  refine Zln ?_
  refine wp_cond_split (T.e 0 rfl) ?_ ?_
  ·intro h5
   (have h5' := h5; try simp only [Zb1, Zb2, Zb3, Zb4, Zb5, Zb6, Zb7] at h5')
   refine Zsr ?_
   refine Zg5 (v4 := (.agg #[.int .i64 ((i : Int) + 1)])) T (Zq (Zrr (Mem.nth M 0 rfl) rfl (T.e 4 rfl) rfl)) rfl (Zm 7 rfl rfl) rfl (fun _ T => Zq (rn_add rfl (T.e 0 rfl) evc (by omega))) rfl (fun _ T => Zq (rn_build rfl (.cons (T.e 0 rfl) .nil) (fun _ => by kernel_rfl))) rfl (fun _ T => Zq (rn_mi rfl (by kernel_rfl) (T.e 0 rfl))) rfl ?_; clear T ac; intro ac T
   refine Zl2 ?_
   refine Zos M T rfl rfl (T.e 6 rfl) (T.e 4 rfl) rfl (.tail .head) rfl (by simp) rfl (by kernel_rfl) ?_; clear M T; intro wc ac M T
   refine lq T (Zra rfl (T.e 0 rfl)) ?_; clear T ac; intro ac T
   refine wpList_nil ?_
   replace T := T.pick [0, 7] rfl
   replace M := M.mask [false, true] rfl
   replace M : Mem w noEx wc ((g1, .cells [.int .i64 squ3.lo, .int .i64 squ3.wi, .int .i64 squ3.a0, .int .i64 squ3.a1, .int .i64 squ3.c0, .int .i64 squ3.c1, .slice Acu3 squ3.ps.length ccu3]) :: (Iqu3 ++ Iu1 ++ Iu2)) := M
   refine Znr ?_
   refine Zrb ?_
   refine Zrb ?_
   refine Zrt ?_
   refine Zrt ?_
   refine Zrb ?_
   refine Zrt ?_
   refine rt_ct M T rfl (T.e 1 rfl) (T.e 0 rfl) (Zne (i := 0) rfl) rfl ?_
   have hn9 : (if (decide ((i : Int) = 0)) = true then headS lsu2 s else partS lsu2 s) = none := no_some (by rw [← hoku3]; simp_all)
   have hb9 := rt_no hks H (by assumption) (by assumption) hlsu2 hn9
   rw [hdl, hlsu1] at hb9
   exact ⟨squ3, Acu3, ccu3, Iqu3, _, rfl, hsqu3, (Mem.subS (L' := (Iqu3)) ((g1, .cells [.int .i64 squ3.lo, .int .i64 squ3.wi, .int .i64 squ3.a0, .int .i64 squ3.a1, .int .i64 squ3.c0, .int .i64 squ3.c1, .slice Acu3 squ3.ps.length ccu3]) :: (Iu1 ++ Iu2)) M (fun f => by simp only [sumF_app, sumF_cons, sumF_nil, List.cons_append, List.nil_append, List.append_nil, Nat.add_zero, Nat.zero_add] <;> omega)), by omega, .inr ⟨_, rfl, (by rw [out_bad hb9]; push_cast; rfl)⟩⟩
  intro h5
  (have h5' := h5; try simp only [Zb1, Zb2, Zb3, Zb4, Zb5, Zb6, Zb7] at h5')
  refine wp_skip ?_
  refine Znb ?_
  refine Znb ?_
  refine nm_then ?_
  refine wp_region_lit ?_
  refine lq T (rn_add rfl (T.e 9 rfl) evc (by omega)) ?_; clear T ac; intro ac T
  refine l_q (v := (.int .i64 ((i : Int) + 1))) (T.pick [0, 1, 2, 3, 4, 5, 6, 7, 8, 9] rfl) rfl rfl rfl rfl (Zrm rfl (T.e 0 rfl)) ?_; clear T ac; intro ac T
  replace T := T.pick [0, 3, 4, 5, 6, 7, 9, 10] rfl
  refine Zln ?_
  obtain ⟨t9, ht9⟩ := Option.isSome_iff_exists.1 (show (if (decide ((i : Int) = 0)) = true then headS lsu2 s else partS lsu2 s).isSome = true by rw [← hoku3]; simp_all)
  have hsq := hvqu3 t9 ht9
  subst hsq
  have hH := rt_go hks H (by assumption) (by assumption) hlsu2 ht9
  exact ⟨_, by omega, i + 1, en, squ3, Acu3, ccu3, Iqu3, rfl, (by omega), hH, hsqu3, (by omega), T.pick [1, 2, 3, 4, 5, 6, 7, 0] rfl, (Mem.subS (Iu2) M (fun f => by simp only [sumF_app, sumF_cons, sumF_nil, List.cons_append, List.nil_append, List.append_nil, Nat.add_zero, Nat.zero_add] <;> omega))⟩
 intro h1
 obtain ⟨zl, hzl⟩ : ∃ q, lsu1[lsu1.length - 1]? = some q := ⟨_, List.getElem?_eq_getElem (by omega)⟩
 rw [List.drop_of_length_le (by omega)] at H
 replace H : rowsS false 0 lq1 zeroS = .inr (en, s) := H
 refine wp_exit ?_
 refine Zet ?_
 refine Zet ?_
 refine ex_hit ?_
 refine Zns ?_
 refine cut_seq (fun ac wc => Tm ac 66 [(2, .pointer (some ⟨g1, 0, none⟩)), (5, .int .i64 (((lsu1.length : Nat) : Int) - 1)), (6, .pointer (some ⟨g2, 0, none⟩)), (59, .bool ((!en) || (!(decide (zl = ([]))))))] ∧ Mem w noEx wc ((g2, .cells [.int .i64 s.lo, .int .i64 s.wi, .int .i64 s.a0, .int .i64 s.a1, .int .i64 s.c0, .int .i64 s.c1, .slice A s.ps.length c]) :: (g1, .cells [.int .i64 0, .int .i64 0, .int .i64 0, .int .i64 0, .int .i64 0, .int .i64 0, .slice none 0 0]) :: (Iu1 ++ Ia))) ?_ ?_
 ·refine wp_region_lit ?_
  refine Zg3 T (Zq (Zrm rfl (T.e 5 rfl))) rfl (fun _ T => Zq (rn_not rfl (T.e 0 rfl))) rfl (Zm 0 rfl rfl) rfl ?_; clear T ac; intro ac T
  rcases Bool.eq_false_or_eq_true (!en) with h6 | h6
  ·refine Zg6 T (Zp (Zwn rfl rfl (T.e 0 rfl) h6)) rfl (fun _ T => Zp (Zwn rfl rfl (T.e 1 rfl) h6)) rfl (fun _ T => Zp (Zwn rfl rfl (T.e 2 rfl) h6)) rfl (fun _ T => Zp (Zwn rfl rfl (T.e 3 rfl) h6)) rfl (fun _ T => Zp (Zwn rfl rfl (T.e 4 rfl) h6)) rfl (fun _ T => Zq (Zr1 rfl (T.e 5 rfl) h6 evc)) rfl ?_; clear T ac; intro ac T
   refine wpList_nil ?_
   replace T := T.pick [0, 10, 12, 13] rfl
   exact ⟨(T.pick (E' := [(2, .pointer (some ⟨g1, 0, none⟩)), (5, .int .i64 (((lsu1.length : Nat) : Int) - 1)), (6, .pointer (some ⟨g2, 0, none⟩)), (59, .bool true)]) [1, 2, 3, 0] rfl).as (by (try rw [show (!en) = true from h6]); (try rfl)), M.mask [true, true] rfl⟩
  refine Zg6 T (Zw (Zwy rfl rfl (T.e 0 rfl) h6) (Zrm rfl (T.e 5 rfl))) rfl (fun _ T => Zw (Zwy rfl rfl (T.e 1 rfl) h6) (Zrm rfl (T.e 7 rfl))) rfl (fun _ T => Zw (Zwy rfl rfl (T.e 2 rfl) h6) (Zri (size := 1) (lsu1.length - 1) rfl (T.e 1 rfl) (T.e 0 rfl) ⟨_, Tryz.underlying37, by kernel_rfl⟩ (by omega) (by omega) (Su1.at0 (by omega)))) rfl (fun _ T => Zw (Zwy rfl rfl (T.e 3 rfl) h6) (rn_cell (Sp.stC0 Su1 M (.cons _ (.cons _ (subL (List.Sublist.refl _)))) hzl) rfl (T.e 0 rfl))) rfl (fun _ T => Zw (Zwy rfl rfl (T.e 4 rfl) h6) (rn_sneq rfl (T.e 0 rfl) evc)) rfl (fun _ T => Zq (Zr0 rfl (T.e 5 rfl) h6 (T.e 0 rfl))) rfl ?_; clear T ac; intro ac T
  refine wpList_nil ?_
  replace T := T.pick [0, 10, 12, 13] rfl
  exact ⟨(T.pick (E' := [(2, .pointer (some ⟨g1, 0, none⟩)), (5, .int .i64 (((lsu1.length : Nat) : Int) - 1)), (6, .pointer (some ⟨g2, 0, none⟩)), (59, .bool (!(decide (zl = ([])))))]) [1, 2, 3, 0] rfl).as (by (try rw [show (!en) = false from h6]); (try rfl)), M.mask [true, true] rfl⟩
 clear T M
 rintro ac wc ⟨T, M⟩
 refine wp_cond_split (T.e 3 rfl) ?_ ?_
 ·intro h7
  (have h7' := h7; try simp only [Zb1, Zb2, Zb3, Zb4, Zb5, Zb6, Zb7] at h7')
  refine Zsr ?_
  refine Zg5 (v4 := (.agg #[.int .i64 ((((lsu1.length : Nat) : Int) - 1) + 1)])) T (Zq (Zrr (Mem.nth M 0 rfl) rfl (T.e 2 rfl) rfl)) rfl (Zm 2 rfl rfl) rfl (fun _ T => Zq (rn_add rfl (T.e 0 rfl) evc (by omega))) rfl (fun _ T => Zq (rn_build rfl (.cons (T.e 0 rfl) .nil) (fun _ => by kernel_rfl))) rfl (fun _ T => Zq (rn_mi rfl (by kernel_rfl) (T.e 0 rfl))) rfl ?_; clear T ac; intro ac T
  refine Zl2 ?_
  refine Zos M T rfl rfl (T.e 5 rfl) (T.e 4 rfl) rfl (.tail .head) rfl (by simp) rfl (by kernel_rfl) ?_; clear M T; intro wc ac M T
  refine lq T (Zra rfl (T.e 0 rfl)) ?_; clear T ac; intro ac T
  refine wpList_nil ?_
  replace T := T.pick [0, 6] rfl
  replace M := M.mask [false, true] rfl
  refine Znr ?_
  refine Zrt ?_
  refine rt_ct M T rfl (T.e 1 rfl) (T.e 0 rfl) (Zne (i := 0) rfl) rfl ?_
  rw [hdl, hlsu1] at H
  rw [hlsu1] at hzl
  have hb9 := out_end H hzl (by assumption)
  exact ⟨s, A, c, Ia, _, rfl, hsA, (Mem.subS (L' := (Ia)) ((g1, .cells [.int .i64 s.lo, .int .i64 s.wi, .int .i64 s.a0, .int .i64 s.a1, .int .i64 s.c0, .int .i64 s.c1, .slice A s.ps.length c]) :: Iu1) M (fun f => by simp only [sumF_app, sumF_cons, sumF_nil, List.cons_append, List.nil_append, List.append_nil, Nat.add_zero, Nat.zero_add] <;> omega)), by omega, .inr ⟨_, rfl, (by rw [hb9, ← hlsu1]; congr 1; omega)⟩⟩
 intro h7
 (have h7' := h7; try simp only [Zb1, Zb2, Zb3, Zb4, Zb5, Zb6, Zb7] at h7')
 refine Zsk ?_
 refine Zsr ?_
 refine lq T (Zrr (Mem.nth M 0 rfl) rfl (T.e 2 rfl) rfl) ?_; clear T ac; intro ac T
 refine Zl2 ?_
 refine Zos M T rfl rfl (T.e 1 rfl) (T.e 0 rfl) rfl (.tail .head) rfl (by simp) rfl (by kernel_rfl) ?_; clear M T; intro wc ac M T
 refine lq T (Zra rfl evc) ?_; clear T ac; intro ac T
 refine wpList_nil ?_
 replace T := T.pick [0, 2] rfl
 replace M := M.mask [false, true] rfl
 refine Znr ?_
 refine rt_ct M T rfl (T.e 1 rfl) (T.e 0 rfl) (Zne (i := 0) rfl) rfl ?_
 rw [hdl, hlsu1] at H
 rw [hlsu1] at hzl
 have hb9 := out_go H hzl (by assumption)
 exact ⟨s, A, c, Ia, _, rfl, hsA, (Mem.subS (L' := (Ia)) ((g1, .cells [.int .i64 s.lo, .int .i64 s.wi, .int .i64 s.a0, .int .i64 s.a1, .int .i64 s.c0, .int .i64 s.c1, .slice A s.ps.length c]) :: Iu1) M (fun f => by simp only [sumF_app, sumF_cons, sumF_nil, List.cons_append, List.nil_append, List.append_nil, Nat.add_zero, Nat.zero_add] <;> omega)), by omega, .inl ⟨rfl, hb9⟩⟩
theorem rd_bad {t : List UInt8} {ev : Value} {r : Int} {s' : Sk} (hs : ¬ 300 < t.length) (hv : (ev = .nilIface ∧ outS t = .inr s') ∨ ∃ r : Int, ev = .iface 137 (.agg #[.int .i64 r]) ∧ outS t = .inl r) {b : Bool} (hb : (b = false ∧ ev = .nilIface ∧ r = 0) ∨ (b = true ∧ ev = .iface 137 (.agg #[.int .i64 r]))) (h : b = true) : readT t = (zeroS, r, 2) := by
 rw [readT_short hs, rd_out]
 rcases hb with ⟨h1, -, -⟩ | ⟨-, h1⟩
 ·rw [h] at h1; cases h1
 ·rcases hv with ⟨h2, -⟩ | ⟨r2, h2, h3⟩
  ·rw [h1] at h2; cases h2
  ·rw [h1] at h2
   injection h2 with _ h2
   injection h2 with h2
   have h4 : r = r2 := by simpa using h2
   rw [h3, h4]
theorem rd_go {t : List UInt8} {ev : Value} {r : Int} {s' : Sk} (hs : ¬ 300 < t.length) (hv : (ev = .nilIface ∧ outS t = .inr s') ∨ ∃ r : Int, ev = .iface 137 (.agg #[.int .i64 r]) ∧ outS t = .inl r) {b : Bool} (hb : (b = false ∧ ev = .nilIface ∧ r = 0) ∨ (b = true ∧ ev = .iface 137 (.agg #[.int .i64 r]))) (h : b = false) : readT t = if skErr s' ≠ 0 then (zeroS, 0, skErr s') else (s', 0, 0) := by
 rw [readT_short hs, rd_out]
 rcases hb with ⟨-, h1, -⟩ | ⟨h1, -⟩
 ·rcases hv with ⟨-, h2⟩ | ⟨r2, h2, -⟩
  ·rw [h2]
  ·rw [h1] at h2; cases h2
 ·rw [h] at h1; cases h1
theorem read_any (text : List UInt8) (w : World) (hT : StrW w)  (hA : AsW w) :
   Calls Tryz.prog 20 #[sv text] w (ReadK (readT text) w) := by
 refine Zpx noEx Tryz.func20 rfl 30 rfl [sv text] rfl rfl (Mem.init w _) ?_
 intro ac wc T M
 refine Zsr ?_
 refine Zl2 ?_
 refine Zoa M T rfl rfl rfl rfl ?_; clear M T; intro g1 wc ac M T
 refine Zg2 T (Zq (Zra rfl evc)) rfl (Zc rfl) rfl ?_; clear T ac; intro ac T
 replace T := T.pick [2, 3] rfl
 refine Zln ?_
 refine wp_seq ?_
 refine Zsr ?_
 refine Zg3 T (Zq (Zrm rfl (T.e 1 rfl))) rfl (fun _ T => Zq (rn_slen rfl Tryz.underlying9 (T.e 0 rfl))) rfl (fun _ T => Zq (rn_gtr rfl (T.e 0 rfl) evc)) rfl ?_; clear T ac; intro ac T
 replace T := T.pick [0, 3, 4] rfl
 refine Zln ?_
 refine wp_if (T.e 0 rfl) ?_ ?_
 ·intro h1
  refine Zsr ?_
  refine lq (v := (.agg #[.int .i64 0, .int .i64 0, .int .i64 0, .int .i64 0, .int .i64 0, .int .i64 0, .slice none 0 0])) T (rn_build rfl .nil (fun _ => by kernel_rfl)) ?_; clear T ac; intro ac T
  refine Zl2 ?_
  refine Zos M T rfl rfl (T.e 2 rfl) (T.e 0 rfl) rfl .head rfl (by simp) rfl (by kernel_rfl) ?_; clear M T; intro wc ac M T
  refine Zg2 T (Zq (Zra rfl evc)) rfl (Zc rfl) rfl ?_; clear T ac; intro ac T
  replace T := T.pick [0, 1, 4] rfl
  refine Zln ?_
  refine wp_ret ?_
  refine Zrt ?_
  refine rt_ctt M T rfl (T.e 2 rfl) (T.e 1 rfl) (T.e 0 rfl) (Zne (i := 0) rfl) rfl ?_
  exact ReadK.zero (readT_long (by omega)) M
 intro h1
 refine Zsk ?_
 refine Zsr ?_
 refine lq T (Zrm rfl (T.e 2 rfl)) ?_; clear T ac; intro ac T
 refine Zl2 ?_
 refine Zoc (first := []) (cap := []) T rfl rfl rfl rfl evf (.cons (T.e 0 rfl) .nil) Tryz.func72 rfl rfl ?_
 refine Calls.mono (sread_any text _ (by omega) (hT.mem0 M)) ?_
 clear T; rintro e wc ⟨squ1, Acu1, ccu1, Iqu1, evu1, rfl, hsqu1, N, hnqu1, hevu1⟩ ac T
 obtain ⟨bAu1, oAu1, SVu1⟩ := Sl.spW hsqu1 (pc_length _)
 have SAu1 := SVu1 w noEx
 replace M := (M.join N).swapI
 clear N
 replace M : Mem w noEx wc ((g1, .cells [.int .i64 0, .int .i64 0, .int .i64 0, .int .i64 0, .int .i64 0, .int .i64 0, .slice none 0 0]) :: Iqu1) := (Mem.permS (L' := ((g1, .cells [.int .i64 0, .int .i64 0, .int .i64 0, .int .i64 0, .int .i64 0, .int .i64 0, .slice none 0 0]) :: Iqu1)) M (fun f => by simp only [sumF_app, sumF_cons, sumF_nil, List.cons_append, List.nil_append, List.append_nil, Nat.add_zero, Nat.zero_add] <;> omega))
 refine Zg3 T (Zq (Zrm rfl (T.e 0 rfl))) rfl (Ze 0 rfl rfl rfl) rfl (Ze 1 rfl rfl rfl) rfl ?_; clear T ac; intro ac T
 refine Zl2 ?_
 refine Zos M T rfl rfl (T.e 6 rfl) (T.e 1 rfl) rfl .head rfl (by simp) rfl (by kernel_rfl) ?_; clear M T; intro wc ac M T
 refine lq T (Zra rfl (T.e 0 rfl)) ?_; clear T ac; intro ac T
 replace T := T.pick [0, 7] rfl
 refine Zln ?_
 refine Zsr ?_
 refine Zl2 ?_
 refine Zoa M T rfl rfl rfl rfl ?_; clear M T; intro g2 wc ac M T
 refine Zln ?_
 refine wp_seq ?_
 refine Zsr ?_
 refine Zg2 T (Zq (Zrm rfl (T.e 1 rfl))) rfl (fun _ T => Zq (rn_mi rfl (by kernel_rfl) (T.e 1 rfl))) rfl ?_; clear T ac; intro ac T
 refine Zl2 ?_
 refine Zoc (first := []) (cap := []) T rfl rfl rfl rfl evf (.cons (T.e 1 rfl) (.cons (T.e 0 rfl) .nil)) Tryz.func73 rfl rfl ?_
 refine Calls.mono (as_any evu1 g2 _ (hA.mem0 M) (M.nth 0 rfl) (hevu1.elim (fun h => .inl h.1) (fun h => .inr (h.elim fun r h => ⟨r, h.1⟩)))) ?_
 clear T; rintro e wc ⟨bu2, ru2, rfl, hb9u2, N⟩ ac T
 replace M := Mem.joinX (X := [(g2, .cells [.int .i64 0])]) (F := ((g1, .cells [.int .i64 squ1.lo, .int .i64 squ1.wi, .int .i64 squ1.a0, .int .i64 squ1.a1, .int .i64 squ1.c0, .int .i64 squ1.c1, .slice Acu1 squ1.ps.length ccu1]) :: Iqu1)) (Mem.permS (L' := [(g2, .cells [.int .i64 0])] ++ ((g1, .cells [.int .i64 squ1.lo, .int .i64 squ1.wi, .int .i64 squ1.a0, .int .i64 squ1.a1, .int .i64 squ1.c0, .int .i64 squ1.c1, .slice Acu1 squ1.ps.length ccu1]) :: Iqu1)) M (fun f => by simp only [sumF_app, sumF_cons, sumF_nil, List.cons_append, List.nil_append, List.append_nil, Nat.add_zero, Nat.zero_add] <;> omega)) N (fun b h => by subst h; exact Zz2)
 clear N
 replace M : Mem w noEx wc ((g2, .cells [.int .i64 ru2]) :: (g1, .cells [.int .i64 squ1.lo, .int .i64 squ1.wi, .int .i64 squ1.a0, .int .i64 squ1.a1, .int .i64 squ1.c0, .int .i64 squ1.c1, .slice Acu1 squ1.ps.length ccu1]) :: Iqu1) := M
 replace T := T.pick [0, 3, 5] rfl
 refine Zln ?_
 refine wp_cond_split (T.e 0 rfl) ?_ ?_
 ·intro h2
  refine wp_seq ?_
  refine Zgs M (M.mask [true, false] rfl) 6 (by kernel_rfl) rfl (by kernel_rfl) ?_
  clear M; intro wc M
  refine g_addG 3 M ?_
  refine gq (v := (.agg #[.int .i64 0, .int .i64 0, .int .i64 0, .int .i64 0, .int .i64 0, .int .i64 0, .slice none 0 0])) T 0 1 rfl (fun _ _ _ _ _ => (rn_build rfl .nil (fun _ => by kernel_rfl))) ?_; clear T ac; intro ac T
  refine gq (v := (.pointer (some ⟨g2, 0, none⟩))) T 1 3 rfl (fun _ _ _ _ _ => (Zrf (off := 0) rfl (T.e 2 rfl) (fun _ _ _ => by kernel_rfl))) ?_; clear T ac; intro ac T
  refine gq T 2 7 rfl (fun B w' hD hl hS => (Zro (Mem.nth (show Mem w noEx w' _ from (MA.rgt hS)) 0 rfl) rfl (T.e 0 rfl) rfl)) ?_; clear T ac; intro ac T
  refine gw 3 15 ?_; intro K hK
  refine Zos M T rfl rfl (T.e 5 rfl) (T.e 2 rfl) rfl (.tail .head) rfl (by simp) rfl (by kernel_rfl) ?_; clear M T; intro wc ac M T
  refine Zso hK _ _ (MA.mk (fun h => (no_of (by kernel_rfl) h).elim) (M.mask [true, false] rfl)) ?_; clear hK K
  refine gq T 4 31 rfl (fun _ _ _ _ _ => (Zra rfl (T.e 0 rfl))) ?_; clear T ac; intro ac T
  refine gq T 5 63 rfl (fun _ _ _ _ _ => (Zra rfl evc)) ?_; clear T ac; intro ac T
  refine Zgd (by kernel_rfl) ?_
  replace T := T.pick [0, 1, 7] rfl
  replace M := M.mask [false, true] rfl
  refine Znr ?_
  refine Zrt ?_
  refine rt_ctt M T rfl (T.e 2 rfl) (T.e 1 rfl) (T.e 0 rfl) (Zne (i := 0) rfl) rfl ?_
  exact ReadK.zero (rd_bad (by omega) hevu1 hb9u2 (by assumption)) M
 intro h2
 refine Zsk ?_
 refine wp_seq ?_
 refine Zsr ?_
 refine lq T (Zrr (Mem.nth M 1 rfl) rfl (T.e 2 rfl) rfl) ?_; clear T ac; intro ac T
 refine Zl2 ?_
 refine Zoc (first := []) (cap := []) T rfl rfl rfl rfl evf (.cons (T.e 0 rfl) .nil) Tryz.func66 rfl rfl ?_
 refine Calls.mono (skCheck_any squ1 Acu1 ccu1 _ (SAu1.rd M (.cons _ (.cons _ (List.Sublist.refl _)))) (by omega)) ?_
 clear T; rintro e wc ⟨rfl, hb⟩ ac T
 replace M := M.call hb; clear hb
 refine lq T (Zra rfl (T.e 0 rfl)) ?_; clear T ac; intro ac T
 refine wpList_nil ?_
 replace T := T.pick [0, 5] rfl
 replace M := M.mask [false, true] rfl
 refine nm_then ?_
 refine Zsr ?_
 refine Zg2 T (Zq (Zrm rfl (T.e 0 rfl))) rfl (fun _ T => Zq (rn_neq rfl (T.e 0 rfl) evc)) rfl ?_; clear T ac; intro ac T
 replace T := T.pick [0, 2, 3] rfl
 refine Zln ?_
 refine wp_ifn (T.e 0 rfl) ?_ ?_
 ·intro h3
  refine Zsr ?_
  refine Zg2 (v1 := (.agg #[.int .i64 0, .int .i64 0, .int .i64 0, .int .i64 0, .int .i64 0, .int .i64 0, .slice none 0 0])) T (Zq (rn_build rfl .nil (fun _ => by kernel_rfl))) rfl (Zm 2 rfl rfl) rfl ?_; clear T ac; intro ac T
  refine Zl2 ?_
  refine Zos M T rfl rfl (T.e 4 rfl) (T.e 1 rfl) rfl .head rfl (by simp) rfl (by kernel_rfl) ?_; clear M T; intro wc ac M T
  refine Zg2 T (Zq (Zra rfl evc)) rfl (Za 1 rfl rfl) rfl ?_; clear T ac; intro ac T
  replace T := T.pick [0, 1, 6] rfl
  refine Zln ?_
  refine wp_ret ?_
  refine Zrt ?_
  refine rt_ctt M T rfl (T.e 2 rfl) (T.e 1 rfl) (T.e 0 rfl) (Zne (i := 0) rfl) rfl ?_
  have hr9 := rd_go (by omega) hevu1 hb9u2 (by first | assumption | simp_all)
  rw [if_pos (by assumption)] at hr9
  exact ReadK.zero hr9 M
 intro h3
 refine Zsk ?_
 refine Zsr ?_
 refine lq T (Zrr (Mem.nth M 0 rfl) rfl (T.e 2 rfl) rfl) ?_; clear T ac; intro ac T
 refine Zl2 ?_
 refine Zos M T rfl rfl (T.e 3 rfl) (T.e 0 rfl) rfl .head rfl (by simp) rfl (by kernel_rfl) ?_; clear M T; intro wc ac M T
 refine Zg2 T (Zq (Zra rfl evc)) rfl (Zc rfl) rfl ?_; clear T ac; intro ac T
 replace T := T.pick [0, 1, 5] rfl
 refine Zln ?_
 refine wp_ret ?_
 refine rt_ctt M T rfl (T.e 2 rfl) (T.e 1 rfl) (T.e 0 rfl) (Zne (i := 0) rfl) rfl ?_
 have hr9 := rd_go (by omega) hevu1 hb9u2 (by first | assumption | simp_all)
 rw [if_neg (fun h => h (by assumption))] at hr9
 rw [hr9]
 exact ⟨Acu1, ccu1, Iqu1, rfl, hsqu1, (Mem.subS (L' := (Iqu1)) ([(g1, .cells [.int .i64 squ1.lo, .int .i64 squ1.wi, .int .i64 squ1.a0, .int .i64 squ1.a1, .int .i64 squ1.c0, .int .i64 squ1.c1, .slice Acu1 squ1.ps.length ccu1])]) M (fun f => by simp only [sumF_app, sumF_cons, sumF_nil, List.cons_append, List.nil_append, List.append_nil, Nat.add_zero, Nat.zero_add] <;> omega))⟩
theorem rows_len9 {s : Sk} (h : s.n3) (h5 : s.ps.length ≤ 5) : (joinC 10 (rowsT s s.ps.length ++ [sawnW])).length ≤ 299 := by
 have h1 := joinC_len (c := 10) (m := 40) (l := rowsT s s.ps.length ++ [sawnW]) (fun x hx => by
  rcases List.mem_append.1 hx with hx | hx
  ·rcases List.mem_cons.1 hx with rfl | hx
   ·exact head_len h
   ·obtain ⟨p, hp, rfl⟩ := List.mem_map.1 hx
    exact part_len (h.ps p ((List.take_sublist _ _).subset hp))
  ·rcases List.mem_singleton.1 hx with rfl
   decide)
 rw [List.length_append, rowsT_len (Nat.le_refl _), List.length_singleton] at h1
 omega
theorem write_len9 {s : Sk} (h : s.n3) (h5 : s.ps.length ≤ 5) : (writeS s).length ≤ 300 := by
 rw [← write_is, List.length_append, List.length_singleton]
 have := rows_len9 h h5
 omega
theorem readT_sh (s : List UInt8) : (readT s).1.ps.length ≤ 5 := by
 have key : ∀ rows r, (endS skErr rows r).1.ps.length ≤ 5 := by
  intro rows r
  unfold endS
  split
  ·exact Nat.zero_le _
  ·split
   ·exact Nat.zero_le _
   ·split
    ·exact Nat.zero_le _
    ·rename_i h
     exact (skErr_iff.1 (by simpa using h)).len
 show (readS skErr 300 s).1.ps.length ≤ 5
 unfold readS
 split
 ·exact Nat.zero_le _
 ·exact key _ _
def ReadZ (s : Sk) (l err : Int) (w : World) (e : Ending) (w' : World) : Prop := ∃ (A : Option Addr) (c : Nat) (I : List (Nat × BA)), e = .returned (.tuple #[.agg #[.int .i64 s.lo, .int .i64 s.wi, .int .i64 s.a0, .int .i64 s.a1, .int .i64 s.c0, .int .i64 s.c1, .slice A s.ps.length c], .int .i64 l, .int .i64 err]) ∧ Sl 119 4 (.slice A s.ps.length c) s.ps.length (pc s.ps) I ∧ Mem w noEx w' I
theorem readZ_any {t : List UInt8} {s : Sk} {l err : Int} (h : readT t = (s, l, err)) (w : World) (hS : StrW w) (hA : AsW w) : Calls Tryz.prog 20 #[sv t] w (ReadZ s l err w) := by
 have h2 := read_any t w hS hA
 rw [h] at h2
 exact h2
theorem writeZ_any {s : Sk} {A : Option Addr} {c : Nat} (t : List UInt8) (h0 : skErr s = 0) (ht : writeS s = t) (w : World) (hA : Rd w w.heap.size 4 A s.ps.length (pc s.ps)) (nA : s.ps.length ≤ 1000000) (hS : StrW w) : Calls Tryz.prog 18 #[.agg #[.int .i64 s.lo, .int .i64 s.wi, .int .i64 s.a0, .int .i64 s.a1, .int .i64 s.c0, .int .i64 s.c1, .slice A s.ps.length c]] w fun e w' => e = .returned (.tuple #[sv t, .int .i64 0]) ∧ Below w.heap.size w w' := by
 have h := swrite_any s A c w hA nA hS
 have e : wrS s = t := by unfold wrS; rw [if_pos h0, ht]
 rw [h0, e] at h
 exact h
theorem SheetRead_any (D : Option Addr) (d n : Nat) (l : List Int) (text : List UInt8) (w : World) (hl : Rd w w.heap.size 1 D n (ic l)) (hm : n ≤ 9223372036854775807) (hT : TabW w) (hS : StrW w) (hA : AsW w) :
   Calls Tryz.prog 6 #[.slice D n d, sv text] w fun e w' => e = .returned (.bool true) ∧ Below w.heap.size w w' := by
 have hll := hl.len1
 obtain ⟨bI, oI, SI⟩ := Sp.old hl
 obtain ⟨jr, lr, er, hr9⟩ : ∃ j l e, readT text = (j, l, e) := ⟨_, _, _, rfl⟩
 have hjr5 : jr.ps.length ≤ 5 := by have h8 := readT_sh text; rw [hr9] at h8; exact h8
 refine Zpx noEx Tryz.func6 rfl 74 rfl [.slice D n d, sv text] rfl rfl (Mem.init w _) ?_
 intro ac wc T M
 refine Zsr ?_
 refine lq T (Zra rfl evc) ?_; clear T ac; intro ac T
 replace T := T.pick [1, 2] rfl
 refine Zln ?_
 refine wp_seq ?_
 refine Zsr ?_
 refine Zg3 T (Zq (Zrm rfl (T.e 1 rfl))) rfl (fun _ T => Zq (rn_slen rfl Tryz.underlying9 (T.e 0 rfl))) rfl (fun _ T => Zq (rn_gtr rfl (T.e 0 rfl) evc)) rfl ?_; clear T ac; intro ac T
 replace T := T.pick [0, 3, 4] rfl
 refine Zln ?_
 refine wp_if (T.e 0 rfl) ?_ ?_
 ·intro h1
  refine Zsr ?_
  refine Zl2 ?_
  refine Zoc (first := []) (cap := []) T rfl rfl rfl rfl evf .nil Tryz.func16 rfl rfl ?_
  refine Calls.mono (sawn8_any _ (hT.mem M (fun h => h))) ?_
  clear T; rintro e wc ⟨rfl, hb⟩ ac T
  replace M := M.call hb; clear hb
  refine lq T (Zra rfl (T.e 0 rfl)) ?_; clear T ac; intro ac T
  replace T := T.pick [0] rfl
  refine Zln ?_
  refine wp_ret ?_
  refine Zrt ?_
  refine rt_1 T rfl (T.e 0 rfl) ?_
  exact ⟨rfl, M.below⟩
 intro h1
 refine Zsk ?_
 refine Zsr ?_
 refine lq T (Zrm rfl (T.e 1 rfl)) ?_; clear T ac; intro ac T
 refine Zl2 ?_
 refine Zoc (first := []) (cap := []) T rfl rfl rfl rfl evf (.cons (T.e 0 rfl) .nil) Tryz.func9 rfl rfl ?_
 refine Calls.mono (newPot_any _ _ _ l _ (SI.rd M (Zz9 _)) (by omega)) ?_
 clear T; rintro e wc ⟨bpu2, su2, hsu2, rfl, N⟩ ac T
 replace M := M.join N; clear N
 replace M := M.mask [true] rfl
 refine Zl2 ?_
 refine Zoc (first := []) (cap := []) T rfl rfl rfl rfl evf (.cons (T.e 0 rfl) (.cons evc (.cons evc .nil))) Tryz.func17 rfl rfl ?_
 refine Calls.mono (sheetOf_any _ bpu2 12 5 _ (by omega) (by omega) (M.nth 0 rfl) hsu2) ?_
 clear T; rintro e wc ⟨s, AKu3, cKu3, sdu3, IKu3, rfl, hsgs, ⟨⟨hbls, hbws⟩, hbps⟩, hsu3, hcpKu3, SVKu3, N⟩ ac T
 obtain ⟨bAKu3, oAKu3, SVKu3⟩ := SVKu3
 have SAKu3 := SVKu3 w noEx
 replace M := M.joinEI N .head
 clear N
 replace M : Mem w noEx wc ((bpu2, .cells [.int .u64 sdu3]) :: IKu3) := M
 have hlns := hsgs.len
 obtain ⟨hg1s, hg2s, hg3s, hg4s, -, -⟩ := id hsgs
 refine Zl2 ?_
 refine Zoa M T rfl rfl rfl rfl ?_; clear M T; intro g1 wc ac M T
 refine Zl2 ?_
 refine Zos M T rfl rfl (T.e 0 rfl) (T.e 1 rfl) rfl .head rfl (by simp) rfl (by kernel_rfl) ?_; clear M T; intro wc ac M T
 refine wpList_nil ?_
 replace T := T.pick [0, 6] rfl
 replace M := M.mask [true, false] rfl
 refine nm_then ?_
 refine Zsr ?_
 refine lq T (Zrr (Mem.nth M 0 rfl) rfl (T.e 0 rfl) rfl) ?_; clear T ac; intro ac T
 refine Zl2 ?_
 refine Zoc (first := []) (cap := []) T rfl rfl rfl rfl evf (.cons (T.e 0 rfl) .nil) Tryz.func18 rfl rfl ?_
 refine Calls.mono (writeZ_any (writeS s) (skErr_iff.2 hsgs) rfl _ (SAKu3.rd M (.cons _ (List.Sublist.refl _))) (by omega) (hS.mem0 M)) ?_
 clear T; rintro e wc ⟨rfl, hb⟩ ac T
 replace M := M.call hb; clear hb
 refine Zg5 T (Zq (Zrm rfl (T.e 0 rfl))) rfl (Ze 0 rfl rfl rfl) rfl (Ze 1 rfl rfl rfl) rfl (Za 1 rfl rfl) rfl (Za 1 rfl rfl) rfl ?_; clear T ac; intro ac T
 replace T := T.pick [0, 1, 7, 8] rfl
 refine Zln ?_
 refine Zsr ?_
 refine lq T (Zrm rfl (T.e 1 rfl)) ?_; clear T ac; intro ac T
 refine Zl2 ?_
 refine Zoc (first := []) (cap := []) T rfl rfl rfl rfl evf (.cons (T.e 0 rfl) .nil) Tryz.func20 rfl rfl ?_
 refine Calls.mono (readZ_any (writeS_read (good_n3 hsgs) (write_len9 (good_n3 hsgs) hsgs.len) (skErr_iff.2 hsgs)) _ (hS.mem0 M) (hA.mem0 M)) ?_
 clear T; rintro e wc ⟨Au5, cu5, Iau5, rfl, hsAu5, N⟩ ac T
 obtain ⟨bAu5, oAu5, SVAu5⟩ := Sl.spW hsAu5 (pc_length _)
 have SAu5 := SVAu5 w noEx
 replace M := M.join N
 clear N
 replace M : Mem w noEx wc ((g1, .cells [.int .i64 s.lo, .int .i64 s.wi, .int .i64 s.a0, .int .i64 s.a1, .int .i64 s.c0, .int .i64 s.c1, .slice AKu3 s.ps.length cKu3]) :: (Iau5 ++ IKu3)) := (Mem.permS (L' := ((g1, .cells [.int .i64 s.lo, .int .i64 s.wi, .int .i64 s.a0, .int .i64 s.a1, .int .i64 s.c0, .int .i64 s.c1, .slice AKu3 s.ps.length cKu3]) :: (Iau5 ++ IKu3))) M (fun f => by simp only [sumF_app, sumF_cons, sumF_nil, List.cons_append, List.nil_append, List.append_nil, Nat.add_zero, Nat.zero_add] <;> omega))
 refine Zg4 T (Zq (Zrm rfl (T.e 0 rfl))) rfl (Ze 0 rfl rfl rfl) rfl (Ze 1 rfl rfl rfl) rfl (Ze 2 rfl rfl rfl) rfl ?_; clear T ac; intro ac T
 refine Zl2 ?_
 refine Zoa M T rfl rfl rfl rfl ?_; clear M T; intro g2 wc ac M T
 refine Zl2 ?_
 refine Zos M T rfl rfl (T.e 0 rfl) (T.e 3 rfl) rfl .head rfl (by simp) rfl (by kernel_rfl) ?_; clear M T; intro wc ac M T
 refine Zg2 T (Zq (Zra rfl (T.e 2 rfl))) rfl (Za 2 rfl rfl) rfl ?_; clear T ac; intro ac T
 replace T := T.pick [0, 1, 2, 9, 11, 12] rfl
 refine Zln ?_
 refine wp_seq ?_
 refine Zsr ?_
 refine Zg8 (v2 := (.bool false)) (v5 := (.bool false)) T (Zq (Zrm rfl (T.e 3 rfl))) rfl (fun _ T => Zq (Zrq (rn_neq rfl (T.e 0 rfl) evc) (by simp))) rfl (Zm 0 rfl rfl) rfl (fun _ T => Zw (Zwy rfl rfl (T.e 0 rfl) rfl) (Zrm rfl (T.e 3 rfl))) rfl (fun _ T => Zw (Zwy rfl rfl (T.e 1 rfl) rfl) (Zrq (rn_neq rfl (T.e 0 rfl) evc) (by simp))) rfl (fun _ T => Zq (Zr0 rfl (T.e 2 rfl) rfl (T.e 0 rfl))) rfl (Zm 0 rfl rfl) rfl (fun _ T => Zw (Zwy rfl rfl (T.e 0 rfl) rfl) (Zrm rfl (T.e 8 rfl))) rfl ?_; clear T ac; intro ac T
 refine Zg5 (v1 := (.bool false)) T (Zw (Zwy rfl rfl (T.e 1 rfl) rfl) (Zrq (rn_neq rfl (T.e 0 rfl) evc) (by simp))) rfl (fun _ T => Zq (Zr0 rfl (T.e 2 rfl) rfl (T.e 0 rfl))) rfl (Zm 0 rfl rfl) rfl (fun _ T => Zw (Zwy rfl rfl (T.e 0 rfl) rfl) (Zrr (Mem.nth M 1 rfl) rfl (T.e 15 rfl) rfl)) rfl (fun _ T => Zw (Zwy rfl rfl (T.e 1 rfl) rfl) (Zrr (Mem.nth M 0 rfl) rfl (T.e 14 rfl) rfl)) rfl ?_; clear T ac; intro ac T
 refine l_w (Zwy rfl rfl (T.e 2 rfl) rfl) ?_; intro K hK
 refine Zoc (first := []) (cap := []) T rfl rfl rfl rfl evf (.cons (T.e 1 rfl) (.cons (T.e 0 rfl) .nil)) Tryz.func22 rfl rfl ?_
 refine Calls.mono (sameSheets_any s AKu3 cKu3 s Au5 cu5 _ (SAKu3.rd M (.cons _ (.cons _ (Zsq _ _)))) (SAu5.rd M (.cons _ (.cons _ (subL (List.Sublist.refl _))))) (by omega) (by omega)) ?_
 clear T; rintro e wc ⟨rfl, hb⟩ ac T
 replace M := M.call hb; clear hb
 rw [Zdt (@rfl Sk s)] at T
 refine Zso hK _ _ ?_; clear hK K
 refine Zg2 (v1 := (.bool false)) T (Zw (Zwy rfl rfl (T.e 3 rfl) rfl) (Zrq (rn_not rfl (T.e 0 rfl)) (by simp))) rfl (fun _ T => Zq (Zr0 rfl (T.e 4 rfl) rfl (T.e 0 rfl))) rfl ?_; clear T ac; intro ac T
 refine wpList_nil ?_
 replace T := T.pick [0, 21] rfl
 replace M := M.mask [false, false] rfl
 refine nm_then ?_
 refine wp_cond_false (T.e 0 rfl) ?_
 refine Zsk ?_
 refine Zsr ?_
 refine lq T (Zrm rfl (T.e 1 rfl)) ?_; clear T ac; intro ac T
 refine Zl2 ?_
 refine Zoc (first := []) (cap := []) T rfl rfl rfl rfl evf (.cons (T.e 0 rfl) .nil) Tryz.func20 rfl rfl ?_
 refine Calls.mono (readZ_any hr9 _ (hS.mem0 M) (hA.mem0 M)) ?_
 clear T; rintro e wc ⟨Au7, cu7, Iau7, rfl, hsAu7, N⟩ ac T
 obtain ⟨bAu7, oAu7, SVAu7⟩ := Sl.spW hsAu7 (pc_length _)
 have SAu7 := SVAu7 w noEx
 replace M := M.join N
 clear N
 replace M : Mem w noEx wc ((Iau7 ++ Iau5 ++ IKu3)) := (Mem.permS (L' := ((Iau7 ++ Iau5 ++ IKu3))) M (fun f => by simp only [sumF_app, sumF_cons, sumF_nil, List.cons_append, List.nil_append, List.append_nil, Nat.add_zero, Nat.zero_add] <;> omega))
 refine Zg4 T (Zq (Zrm rfl (T.e 0 rfl))) rfl (Ze 0 rfl rfl rfl) rfl (Ze 1 rfl rfl rfl) rfl (Ze 2 rfl rfl rfl) rfl ?_; clear T ac; intro ac T
 refine Zl2 ?_
 refine Zoa M T rfl rfl rfl rfl ?_; clear M T; intro g3 wc ac M T
 refine Zl2 ?_
 refine Zos M T rfl rfl (T.e 0 rfl) (T.e 3 rfl) rfl .head rfl (by simp) rfl (by kernel_rfl) ?_; clear M T; intro wc ac M T
 refine Zg2 T (Zq (Zra rfl (T.e 2 rfl))) rfl (Za 2 rfl rfl) rfl ?_; clear T ac; intro ac T
 replace T := T.pick [0, 2, 10] rfl
 refine Zln ?_
 refine wp_seq ?_
 refine Zsr ?_
 refine Zg2 T (Zq (Zrm rfl (T.e 0 rfl))) rfl (fun _ T => Zq (rn_neq rfl (T.e 0 rfl) evc)) rfl ?_; clear T ac; intro ac T
 replace T := T.pick [0, 3, 4] rfl
 refine Zln ?_
 refine wp_ifn (T.e 0 rfl) ?_ ?_
 ·intro h2
  refine Zsr ?_
  refine Zl2 ?_
  refine Zoc (first := []) (cap := []) T rfl rfl rfl rfl evf .nil Tryz.func16 rfl rfl ?_
  refine Calls.mono (sawn8_any _ (hT.mem M (fun h => h))) ?_
  clear T; rintro e wc ⟨rfl, hb⟩ ac T
  replace M := M.call hb; clear hb
  refine lq T (Zra rfl (T.e 0 rfl)) ?_; clear T ac; intro ac T
  refine wpList_nil ?_
  replace T := T.pick [0] rfl
  replace M := M.mask [false] rfl
  replace M : Mem w noEx wc ((Iau7 ++ Iau5 ++ IKu3)) := M
  refine Znr ?_
  refine Zrt ?_
  refine rt_1 T rfl (T.e 0 rfl) ?_
  exact ⟨rfl, M.below⟩
 intro h2
 refine Zsk ?_
 refine Zsr ?_
 refine lq T (Zrr (Mem.nth M 0 rfl) rfl (T.e 1 rfl) rfl) ?_; clear T ac; intro ac T
 refine Zl2 ?_
 refine Zoc (first := []) (cap := []) T rfl rfl rfl rfl evf (.cons (T.e 0 rfl) .nil) Tryz.func18 rfl rfl ?_
 refine Calls.mono (writeZ_any text (readS_write (by rw [show readS skErr 300 text = _ from hr9, (by assumption : er = 0)])).1 (readS_write (by rw [show readS skErr 300 text = _ from hr9, (by assumption : er = 0)])).2.1 _ (SAu7.rd M (.cons _ (subL (subL (List.Sublist.refl _))))) (by omega) (hS.mem0 M)) ?_
 clear T; rintro e wc ⟨rfl, hb⟩ ac T
 replace M := M.call hb; clear hb
 refine Zg5 T (Zq (Zrm rfl (T.e 0 rfl))) rfl (Ze 0 rfl rfl rfl) rfl (Ze 1 rfl rfl rfl) rfl (Za 1 rfl rfl) rfl (Za 1 rfl rfl) rfl ?_; clear T ac; intro ac T
 refine wpList_nil ?_
 replace T := T.pick [0, 1, 9] rfl
 replace M := M.mask [false] rfl
 replace M : Mem w noEx wc ((Iau7 ++ Iau5 ++ IKu3)) := M
 refine nm_then ?_
 refine Zsr ?_
 refine Zg8 (v2 := (.bool true)) (v6 := (.bool true)) T (Zq (Zrm rfl (T.e 0 rfl))) rfl (fun _ T => Zq (Zrq (rn_eql rfl (T.e 0 rfl) evc) (by simp))) rfl (Zm 0 rfl rfl) rfl (fun _ T => Zw (Zwy rfl rfl (T.e 0 rfl) rfl) (Zrm rfl (T.e 4 rfl))) rfl (fun _ T => Zw (Zwy rfl rfl (T.e 1 rfl) rfl) (Zrm rfl (T.e 6 rfl))) rfl (fun _ T => Zw (Zwy rfl rfl (T.e 2 rfl) rfl) (Zrq (rn_seql rfl (T.e 1 rfl) (T.e 0 rfl)) (by simp))) rfl (fun _ T => Zq (Zr1 rfl (T.e 3 rfl) rfl (T.e 0 rfl))) rfl (Zm 0 rfl rfl) rfl ?_; clear T ac; intro ac T
 refine l_w (Zwy rfl rfl (T.e 0 rfl) rfl) ?_; intro K hK
 refine Zoc (first := []) (cap := []) T rfl rfl rfl rfl evf .nil Tryz.func16 rfl rfl ?_
 refine Calls.mono (sawn8_any _ (hT.mem M (fun h => h))) ?_
 clear T; rintro e wc ⟨rfl, hb⟩ ac T
 replace M := M.call hb; clear hb
 refine Zso hK _ _ ?_; clear hK K
 refine Zg2 T (Zq (Zr1 rfl (T.e 1 rfl) rfl (T.e 0 rfl))) rfl (Za 0 rfl rfl) rfl ?_; clear T ac; intro ac T
 replace T := T.pick [0] rfl
 refine Zln ?_
 refine wp_ret ?_
 refine rt_1 T rfl (T.e 0 rfl) ?_
 exact ⟨rfl, M.below⟩
end Go.Proofs.YtaikhendogcflaaGreatDoor


/-
  Walks of functions, and plain laws (texts put together). No condition.
-/
import Derived.Laws.BytesArg
import Derived.Test.YtmdbdaofjepelaaGreatDoorMReedRead1
import Derived.Test.YtmdbdaofjepelaaGreatDoorMReedRead2
import Derived.Test.YtmdbdaofjepelaaGreatDoorMReedRead3
import Derived.Test.YtmdbdaofjepelaaGreatDoorMReedRead4
set_option maxRecDepth 100000
set_option maxHeartbeats 1000000
set_option linter.unusedSimpArgs false
set_option linter.unusedVariables false
namespace Go.Proofs.YtmdbdaofjepelaaGreatDoor
open Go.RowKit
theorem readV_any (q : Nat) (hk : q < 4) (s : List UInt8) (bj : Nat) (j : Jb) (A : Option Addr) (c : Nat) (I0 : List (Nat × BA)) (exq : Nat → Prop) (w : World) (hs : s.length ≤ 800000) (hj : j.sh.length ≤ 800000) (hT : ∀ wc L, Mem w exq wc L → StrW wc) (hsl : Sl 23 2 (.slice A j.sh.length c) j.sh.length (rc j.sh) I0) (M0 : Mem w exq w ((bj, .cells (jobL j A c)) :: I0)) :
  Calls Tryz.prog 55 #[.agg #[sv (kW q), .int .i64 (kR q), .int .i64 (kN q), kF q], .pointer (some ⟨bj, 0, none⟩), sv s] w (LineP ((kdAt KT KF KS KP q).rd s) w exq bj q j) := by
 rw [kd_val q hk]
 exact readK_any q hk s bj j A c I0 exq w hs hj hT hsl M0
theorem kd_at {q : Nat} (h : q < 4) : ([0, 1, 2, 3] : List Nat)[q]? = some q := by
 match q, h with
 | 0, _ => rfl
 | 1, _ => rfl
 | 2, _ => rfl
 | 3, _ => rfl
section
variable {P : Program} {fn : Func} {R : Ending → World → Prop} {a : Act} {w0 w : World} {ex : Nat → Prop} {L : List (Nat × BA)} {n : Nat} {E : List (Nat × Value)}
theorem rt_ctt {t t' t2 : Tmp} {ty : TypeId} {m g : Nat} [hT : RowTy P ty m] {v v2 : Value} {cs : List Value} (M : Mem w0 ex w L) (T : Tm a n E) (hr : fn.results = #[.cell t ty, .tmp t', .tmp t2])
  (hx : a.eval (.tmp t) = .pointer (some ⟨g, 0, none⟩)) (hx' : a.eval (.tmp t') = v) (hx2 : a.eval (.tmp t2) = v2) (hm : (g, BA.cells cs) ∈ L) (hn : cs.length = m) (h : R (.returned (.tuple #[.agg cs.toArray, v, v2])) w) : bodyPost P fn R .ret a w := by
 obtain ⟨d, hu, hw⟩ := hT.row
 refine ⟨T.defers, .tuple #[.agg cs.toArray, v, v2], ?_, h⟩
 have hB := M.get hm
 have hl := run_loadVar_mid w g 0 ty cs d hB.range hu hw (by rw [hn]; exact hT.size)
 have e : a.tmps[t]?.getD undef = .pointer (some ⟨g, 0, none⟩) := by simpa [Act.eval] using hx
 have e' : a.tmps[t']?.getD undef = v := by simpa [Act.eval] using hx'
 have e2 : a.tmps[t2]?.getD undef = v2 := by simpa [Act.eval] using hx2
 simp [results, hr, e, e', e2, asAddr, hl, Sem.run_bind]
theorem Mem.fore2 {b g : Nat × BA} {X Y : List (Nat × BA)} (M : Mem w0 ex w (b :: g :: (X ++ Y))) : Mem w0 ex w ((b :: X) ++ (g :: Y)) :=
 have hp : (b :: g :: (X ++ Y)).Perm ((b :: X) ++ (g :: Y)) := List.Perm.cons _ (List.perm_middle (a := g) (l₁ := X) (l₂ := Y)).symm
 ⟨M.os, M.tape, M.output, M.size, M.block, fun p h => M.blk p (hp.mem_iff.2 h), (hp.map _).nodup_iff.1 M.nd⟩
theorem Mem.hind2 {b g : Nat × BA} {X Y : List (Nat × BA)} (M : Mem w0 ex w ((b :: X) ++ (g :: Y))) : Mem w0 ex w (b :: g :: (X ++ Y)) :=
 have hp : ((b :: X) ++ (g :: Y)).Perm (b :: g :: (X ++ Y)) := List.Perm.cons _ (List.perm_middle (a := g) (l₁ := X) (l₂ := Y))
 ⟨M.os, M.tape, M.output, M.size, M.block, fun p h => M.blk p (hp.mem_iff.2 h), (hp.map _).nodup_iff.1 M.nd⟩
end
def ReadP (r : Jb × Int × Int) (w : World) (e : Ending) (w' : World) : Prop := ∃ (A : Option Addr) (c : Nat) (I : List (Nat × BA)), e = .returned (.tuple #[jobV r.1 A c, .int .i64 r.2.1, .int .i64 r.2.2]) ∧ Sl 23 2 (.slice A r.1.sh.length c) r.1.sh.length (rc r.1.sh) I ∧ Mem w noEx w' I
theorem ReadP.zero {r : Jb × Int × Int} {w w' : World} {L : List (Nat × BA)} {r1 e1 : Int} (h : r = (zeroJ, r1, e1)) (M : Mem w noEx w' L) : ReadP r w (.returned (.tuple #[jobV zeroJ none 0, .int .i64 r1, .int .i64 e1])) w' := by
 subst h
 exact ⟨none, 0, [], rfl, Sl.nil _ _, M.sub (Zz9 _)⟩
theorem next_sh {p : Nat} {s : List UInt8} (h : (decide ((p : Int) = 2) && (!(List.isPrefixOf shiftW s))) = true) : 3 = nextAt shiftW p s := by
 simp only [Bool.and_eq_true, decide_eq_true_eq, Bool.not_eq_true'] at h
 unfold nextAt
 rw [if_pos ⟨by omega, h.2⟩]
theorem next_no {p : Nat} {s : List UInt8} (h : (decide ((p : Int) = 2) && (!(List.isPrefixOf shiftW s))) = false) : p = nextAt shiftW p s := by
 unfold nextAt
 rw [if_neg]
 rintro ⟨rfl, h2⟩
 rw [h2] at h
 simp at h
section
variable {q i : Nat} {s : List UInt8} {R : RdE} {l : List (Nat × List Int)} {r : RdE}
theorem bad_at {o : Option (List Int)} {f : List Int → RdE} (H : r = RdE.app l (if 4 ≤ q then .bad (i + 1) else match o with | none => .bad (i + 1) | some x => f x)) (h : 4 ≤ (q : Int)) : r = .bad (i + 1) := by
 rw [if_pos (by omega), app_bad] at H
 exact H
theorem bad_line {o : Option (List Int)} {f : List Int → RdE} (H : r = RdE.app l (if 4 ≤ q then .bad (i + 1) else match o with | none => .bad (i + 1) | some x => f x)) (h4 : ¬ 4 ≤ (q : Int)) (h : (!o.isSome) = true) : r = .bad (i + 1) := by
 rw [if_neg (by omega)] at H
 cases o with
 | none => rw [app_bad] at H; exact H
 | some x => cases h
theorem good_line {o : Option (List Int)} {f : List Int → RdE} (H : r = RdE.app l (if 4 ≤ q then .bad (i + 1) else match o with | none => .bad (i + 1) | some x => (f x).cons (q, x))) (h4 : ¬ 4 ≤ (q : Int)) (h : (!o.isSome) = false) : ∃ x, o = some x ∧ r = RdE.app (l ++ [(q, x)]) (f x) := by
 rw [if_neg (by omega)] at H
 cases o with
 | none => cases h
 | some x =>
  refine ⟨x, rfl, ?_⟩
  rw [← app_cons]
  exact H
end
theorem endR_bad {rows : List (List UInt8)} {l : List (Nat × List Int)} {d : Bool} {zl : List UInt8} (hz : rows[rows.length - 1]? = some zl) (h : d = false ∨ zl ≠ []) : endR rows (.ok d l) = (zeroJ, (rows.length : Int), 2) := by
 unfold endR
 dsimp only
 rw [if_pos]
 rcases h with h | h
 ·exact .inl h
 ·refine .inr fun e => h ?_
  rw [List.getLast?_eq_getElem?, hz] at e
  injection e
theorem endR_go {rows : List (List UInt8)} {l : List (Nat × List Int)} {d : Bool} {zl : List UInt8} (hz : rows[rows.length - 1]? = some zl) (h : d = true ∧ zl = []) : endR rows (.ok d l) = if checkJ (foldK l zeroJ) ≠ 0 then (zeroJ, 0, checkJ (foldK l zeroJ)) else (foldK l zeroJ, 0, 0) := by
 unfold endR
 dsimp only
 rw [if_neg]
 rintro (h1 | h1)
 ·rw [h.1] at h1; cases h1
 ·rw [List.getLast?_eq_getElem?, hz, h.2] at h1
  exact h1 rfl
theorem or_bad {p : Nat} {zl : List UInt8} (h : (decide ((p : Int) < 4) || (!decide (zl = []))) = true) : decide (4 ≤ p) = false ∨ zl ≠ [] := by
 simp only [Bool.or_eq_true, decide_eq_true_eq, Bool.not_eq_true', decide_eq_false_iff_not] at h
 rcases h with h | h
 · exact .inl (Zdf (by omega))
 · exact .inr h
theorem or_go {p : Nat} {zl : List UInt8} (h : (decide ((p : Int) < 4) || (!decide (zl = []))) = false) : decide (4 ≤ p) = true ∧ zl = [] := by
 simp only [Bool.or_eq_false_iff, decide_eq_false_iff_not, Bool.not_eq_false', decide_eq_true_eq] at h
 exact ⟨Zdt (by omega), h.2⟩
theorem readT_long {t : List UInt8} (h : 300 < t.length) : readT t = (zeroJ, 0, 10) := by unfold readT; rw [if_pos h]
theorem readT_short {t : List UInt8} (h : ¬ 300 < t.length) : readT t = endR (spl 10 t) (progL KT KF KS KP shiftW 0 0 (spl 10 t).dropLast) := by unfold readT; rw [if_neg h]
theorem read_any (text : List UInt8) (w : World) (hT : StrW w)  :
   Calls Tryz.prog 15 #[sv text] w (ReadP (readT text) w) := by
 refine Zpx noEx Tryz.func15 rfl 80 rfl [sv text] rfl rfl (Mem.init w _) ?_
 intro ac wc T M
 refine Zsr ?_
 refine Zl2 ?_
 refine Zoa M T rfl rfl rfl rfl ?_; clear M T; intro g1 wc ac M T
 refine Zg2 T (Zq (Zra rfl evc)) rfl (Zc rfl) rfl ?_; clear T ac; intro ac T
 replace T := T.pick [2, 3] rfl
 refine Zln ?_
 refine wp_seq ?_
 refine Zsr ?_
 refine Zg3 T (Zq (Zrm rfl (T.e 1 rfl))) rfl (fun _ T => Zq (rn_slen rfl Tryz.underlying9 (T.e 0 rfl))) rfl (fun _ T => Zq (rn_gtr rfl (T.e 0 rfl) evc)) rfl ?_; clear T ac; intro ac T
 replace T := T.pick [0, 3, 4] rfl
 refine Zln ?_
 refine wp_if (T.e 0 rfl) ?_ ?_
 ·intro h1
  refine Zsr ?_
  refine lq (v := (.agg #[.int .i64 0, .int .i64 0, .int .i64 0, .int .i64 0, .int .i64 0, .int .i64 0, .int .i64 0, .int .i64 0, .int .i64 0, .int .i64 0, .int .i64 0, .int .i64 0, .int .i64 0, .int .i64 0, .int .i64 0, .slice none 0 0, .int .i64 0, .int .i64 0])) T (rn_build rfl .nil (fun _ => by kernel_rfl)) ?_; clear T ac; intro ac T
  refine Zl2 ?_
  refine Zos M T rfl rfl (T.e 2 rfl) (T.e 0 rfl) rfl .head rfl (by simp) rfl (by kernel_rfl) ?_; clear M T; intro wc ac M T
  refine Zg2 T (Zq (Zra rfl evc)) rfl (Zc rfl) rfl ?_; clear T ac; intro ac T
  replace T := T.pick [0, 1, 4] rfl
  refine Zln ?_
  refine wp_ret ?_
  refine Zrt ?_
  refine rt_ctt M T rfl (T.e 2 rfl) (T.e 1 rfl) (T.e 0 rfl) (Zne (i := 0) rfl) rfl ?_
  exact ReadP.zero (readT_long (by omega)) M
 intro h1
 refine Zsk ?_
 refine Zsr ?_
 refine lq T (Zrm rfl (T.e 2 rfl)) ?_; clear T ac; intro ac T
 refine Zl2 ?_
 refine Zoc (first := []) (cap := []) T rfl rfl rfl rfl evf (.cons (T.e 0 rfl) (.cons evc .nil)) Tryz.func52 rfl rfl ?_
 refine Calls.mono (Split2_any text 10 _ (by omega) (hT.mem0 M)) ?_
 clear T; rintro e wc ⟨Au1, cu1, bu1, ou1, Iu1, rfl, hc9u1, SVu1, N⟩ ac T
 obtain ⟨lsu1, hlsu1⟩ : ∃ q, q = spl 10 text := ⟨_, rfl⟩
 rw [← hlsu1] at hc9u1 SVu1 T
 have Su1 := SVu1 w noEx
 replace M := (M.join N).swapI
 clear N
 replace M : Mem w noEx wc ((g1, .cells [.int .i64 0, .int .i64 0, .int .i64 0, .int .i64 0, .int .i64 0, .int .i64 0, .int .i64 0, .int .i64 0, .int .i64 0, .int .i64 0, .int .i64 0, .int .i64 0, .int .i64 0, .int .i64 0, .int .i64 0, .slice none 0 0, .int .i64 0, .int .i64 0]) :: Iu1) := M
 have hlenu1 : lsu1.length ≤ text.length + 1 := by rw [hlsu1]; exact spl_len _ _
 have hposu1 : 0 < lsu1.length := by rw [hlsu1]; exact spl_pos _ _
 refine lq T (Zra rfl (T.e 0 rfl)) ?_; clear T ac; intro ac T
 replace T := T.pick [0, 4] rfl
 refine Zln ?_
 refine Zsr ?_
 refine Zg4 T (Zq (Zrm rfl (T.e 0 rfl))) rfl (Zl Tryz.underlying37 0 rfl rfl) rfl (fun _ T => Zq (rn_sub rfl (T.e 0 rfl) evc (by omega))) rfl (Za 0 rfl rfl) rfl ?_; clear T ac; intro ac T
 replace T := T.pick [0, 4, 5] rfl
 refine Zln ?_
 refine Zsr ?_
 refine Zl2 ?_
 refine Zoc (first := []) (cap := []) T rfl rfl rfl rfl evf .nil Tryz.func53 rfl rfl ?_
 refine Calls.mono (lines_any _) ?_
 clear T; rintro e wc ⟨gk, rfl, N⟩ ac T
 replace N : Mem _ noEx _ [(gk, .cells (kd [0, 1, 2, 3] ++ []))] := N
 replace M := M.join N
 clear N
 replace M : Mem w noEx wc ((gk, .cells (kd [0, 1, 2, 3] ++ [])) :: (g1, .cells [.int .i64 0, .int .i64 0, .int .i64 0, .int .i64 0, .int .i64 0, .int .i64 0, .int .i64 0, .int .i64 0, .int .i64 0, .int .i64 0, .int .i64 0, .int .i64 0, .int .i64 0, .int .i64 0, .int .i64 0, .slice none 0 0, .int .i64 0, .int .i64 0]) :: Iu1) := M
 have Sk := Sp.pre (w := w) (ex := noEx) (size := 4) (n := 4) (g := gk) (xs := kd [0, 1, 2, 3]) (ys := []) (by rfl)
 refine lq T (Zra rfl (T.e 0 rfl)) ?_; clear T ac; intro ac T
 replace T := T.pick [0, 2, 3, 4] rfl
 refine Zln ?_
 refine Zsr ?_
 refine lq T (Zra rfl evc) ?_; clear T ac; intro ac T
 refine Zln ?_
 refine wp_seq ?_
 refine Zsr ?_
 refine Zg3 T (Zq (Zrm rfl (T.e 3 rfl))) rfl (Zm 3 rfl rfl) rfl (fun _ T => Zq (rn_slice (size := 1) (l := 0) (h := (lsu1.length - 1)) rfl Tryz.underlying37 (by kernel_rfl) (T.e 1 rfl) rfl ((T.e 0 rfl).trans (congrArg (Value.int .i64) (by omega))) (by omega) (by omega))) rfl ?_; clear T ac; intro ac T
 obtain ⟨Aq1, hAq1⟩ : ∃ q : Option Addr, q = (if cu1 = 0 then Au1 else Option.map (fun x : Addr => x.add (0 * 1)) Au1) := ⟨_, rfl⟩
 rw [← hAq1] at T
 obtain ⟨lq1, hlq1⟩ : ∃ q, q = (lsu1.drop 0).take ((lsu1.length - 1) - 0) := ⟨_, rfl⟩
 have nlq1 : lq1.length = (lsu1.length - 1) - 0 := by rw [hlq1, List.length_take, List.length_drop]; (try simp only [List.length_cons, List.length_append, List.length_nil]); omega
 rw [← nlq1] at T
 have SAq1 : Sp w noEx Iu1 Aq1 lq1.length 1 bu1 (ou1 + 0 * 1) (st lq1) := by rw [nlq1, hAq1, hlq1, ← st_part]; exact Su1.sub (by omega) (by omega) (by omega)
 refine Zg2 T (Zq (Zrl rfl Tryz.underlying37 (T.e 0 rfl))) rfl (fun _ T => Zq (Zrm rfl evc)) rfl ?_; clear T ac; intro ac T
 replace T := T.pick [0, 1, 2, 5, 6, 7, 8, 9] rfl
 refine Zln ?_
 refine wp_block ?_
 have hdl : lq1 = lsu1.dropLast := by rw [hlq1, List.dropLast_eq_take]; rfl
 refine wp_loop_n (fun mz ac wc => ∃ (i p : Nat) (j : Jb) (A : Option Addr) (c : Nat) (It : List (Nat × BA)) (l : List (Nat × List Int)), mz = lq1.length - i ∧ (i ≤ lq1.length) ∧ (p ≤ 4) ∧ (progL KT KF KS KP shiftW 0 0 lq1 = RdE.app l (progL KT KF KS KP shiftW p i (lq1.drop i))) ∧ (j = foldK l zeroJ) ∧ (Sl 23 2 (.slice A j.sh.length c) j.sh.length (rc j.sh) It) ∧ (j.sh.length ≤ i) ∧ Tm ac 80 [(2, .pointer (some ⟨g1, 0, none⟩)), (5, .slice Au1 lsu1.length cu1), (6, .int .i64 (((lsu1.length : Nat) : Int) - 1)), (7, .slice (some ⟨gk, 0, none⟩) 4 4), (8, .int .i64 (p : Int)), (24, .slice Aq1 lq1.length (cu1 - 0)), (25, .int .i64 ((lq1.length : Nat) : Int)), (26, .int .i64 (i : Int))] ∧ Mem w noEx wc ((gk, .cells (kd [0, 1, 2, 3] ++ [])) :: (g1, .cells (jobL j A c)) :: (It ++ Iu1))) ?_ ?_
 ·exact ⟨_, 0, 0, zeroJ, none, 0, [], [], rfl, (Nat.zero_le _), (Nat.zero_le _), rfl, rfl, (Sl.nil _ _), (Nat.zero_le _), T.pick [7, 6, 5, 4, 3, 2, 1, 0] rfl, M⟩
 clear T M
 rintro mz ac wc ⟨i, p, j, A, c, It, l, hmm1, hi, hp, H, hj, hsl, hjl, T, M⟩
 refine Zsr ?_
 refine lq T (rn_lss rfl (T.e 7 rfl) (T.e 6 rfl)) ?_; clear T ac; intro ac T
 refine Zln ?_
 refine wp_seq ?_
 refine wp_if (T.e 0 rfl) ?_ ?_
 ·intro h2
  obtain ⟨s, hks⟩ : ∃ q, lq1[i]? = some q := ⟨_, List.getElem?_eq_getElem (by omega)⟩
  have hsm : s ∈ lsu1 := by have h9 := List.mem_of_getElem? hks; rw [hdl] at h9; exact (List.dropLast_sublist _).subset h9
  have hsl8 : s.length ≤ text.length := spl_mem_len (c := 10) (by rw [← hlsu1]; exact hsm)
  rw [progL_at hks] at H
  refine Zsk ?_
  refine wp_seq ?_
  refine wp_block ?_
  refine Zsr ?_
  refine Zg5 T (Zq (Zrm rfl (T.e 8 rfl))) rfl (fun _ T => Zq (Zri (size := 1) i rfl (T.e 7 rfl) (T.e 9 rfl) ⟨_, Tryz.underlying37, by kernel_rfl⟩ rfl (by omega) (SAq1.at0 (by omega)))) rfl (fun _ T => Zq (rn_cell (Sp.stC0 SAq1 M (.cons _ (.cons _ (Zsq _ _))) hks) rfl (T.e 0 rfl))) rfl (Za 2 rfl rfl) rfl (Za 1 rfl rfl) rfl ?_; clear T ac; intro ac T
  replace T := T.pick [0, 1, 6, 7, 8, 9, 10, 11, 12, 13] rfl
  refine Zln ?_
  refine cut_seq (fun ac wc => ∃ (q : Nat), (q = nextAt shiftW p s) ∧ Tm ac 80 [(2, .pointer (some ⟨g1, 0, none⟩)), (5, .slice Au1 lsu1.length cu1), (6, .int .i64 (((lsu1.length : Nat) : Int) - 1)), (7, .slice (some ⟨gk, 0, none⟩) 4 4), (8, .int .i64 (q : Int)), (9, .int .i64 (i : Int)), (10, sv s), (24, .slice Aq1 lq1.length (cu1 - 0)), (25, .int .i64 ((lq1.length : Nat) : Int)), (26, .int .i64 (i : Int))] ∧ Mem w noEx wc ((gk, .cells (kd [0, 1, 2, 3] ++ [])) :: (g1, .cells (jobL j A c)) :: (It ++ Iu1))) ?_ ?_
  ·refine cut_seq (fun ac wc => Tm ac 80 [(2, .pointer (some ⟨g1, 0, none⟩)), (5, .slice Au1 lsu1.length cu1), (6, .int .i64 (((lsu1.length : Nat) : Int) - 1)), (7, .slice (some ⟨gk, 0, none⟩) 4 4), (8, .int .i64 (p : Int)), (9, .int .i64 (i : Int)), (10, sv s), (24, .slice Aq1 lq1.length (cu1 - 0)), (25, .int .i64 ((lq1.length : Nat) : Int)), (26, .int .i64 (i : Int)), (37, .bool ((decide ((p : Int) = 2)) && (!(List.isPrefixOf shiftW s))))] ∧ Mem w noEx wc ((gk, .cells (kd [0, 1, 2, 3] ++ [])) :: (g1, .cells (jobL j A c)) :: (It ++ Iu1))) ?_ ?_
   ·refine wp_region_lit ?_
    refine Zg3 T (Zq (Zrm rfl (T.e 6 rfl))) rfl (fun _ T => Zq (rn_eql rfl (T.e 0 rfl) evc)) rfl (Zm 0 rfl rfl) rfl ?_; clear T ac; intro ac T
    rcases Bool.eq_false_or_eq_true (decide ((p : Int) = 2)) with h3 | h3
    ·replace h3 := of_decide_eq_true h3
     refine lw T (Zwy rfl rfl (T.e 0 rfl) (Zdt h3)) (Zrm rfl (T.e 3 rfl)) ?_; clear T ac; intro ac T
     refine l_w (Zwy rfl rfl (T.e 1 rfl) (Zdt h3)) ?_; intro K hK
     refine Zoc (first := []) (cap := []) T rfl rfl rfl rfl evf (.cons (T.e 0 rfl) (.cons evc .nil)) Tryz.func54 rfl rfl ?_
     refine Calls.mono (HasPrefix_any s shiftW _) ?_
     clear T; rintro e wc ⟨rfl, hb⟩ ac T
     replace M := M.call hb; clear hb
     refine Zso hK _ _ ?_; clear hK K
     refine Zg2 T (Zw (Zwy rfl rfl (T.e 2 rfl) (Zdt h3)) (rn_not rfl (T.e 0 rfl))) rfl (fun _ T => Zq (Zr1 rfl (T.e 3 rfl) (Zdt h3) (T.e 0 rfl))) rfl ?_; clear T ac; intro ac T
     refine wpList_nil ?_
     replace T := T.pick [0, 1, 2, 3, 7, 8, 9, 10, 11, 12, 13, 14, 15, 16] rfl
     exact ⟨(T.pick (E' := [(2, .pointer (some ⟨g1, 0, none⟩)), (5, .slice Au1 lsu1.length cu1), (6, .int .i64 (((lsu1.length : Nat) : Int) - 1)), (7, .slice (some ⟨gk, 0, none⟩) 4 4), (8, .int .i64 (p : Int)), (9, .int .i64 (i : Int)), (10, sv s), (24, .slice Aq1 lq1.length (cu1 - 0)), (25, .int .i64 ((lq1.length : Nat) : Int)), (26, .int .i64 (i : Int)), (37, .bool (!(List.isPrefixOf shiftW s)))]) [6, 7, 8, 9, 10, 5, 4, 11, 12, 13, 0] rfl).as (by (try rw [show (decide ((p : Int) = 2)) = true from (Zdt h3)]); (try rfl)), M.mask [true, true] rfl⟩
    replace h3 := of_decide_eq_false h3
    refine Zg4 T (Zp (Zwn rfl rfl (T.e 0 rfl) (Zdf h3))) rfl (fun _ T => Zp (Zwn rfl rfl (T.e 1 rfl) (Zdf h3))) rfl (fun _ T => Zp (Zwn rfl rfl (T.e 2 rfl) (Zdf h3))) rfl (fun _ T => Zq (Zr0 rfl (T.e 3 rfl) (Zdf h3) evc)) rfl ?_; clear T ac; intro ac T
    refine wpList_nil ?_
    replace T := T.pick [0, 1, 2, 3, 7, 8, 9, 10, 11, 12, 13, 14, 15, 16] rfl
    exact ⟨(T.pick (E' := [(2, .pointer (some ⟨g1, 0, none⟩)), (5, .slice Au1 lsu1.length cu1), (6, .int .i64 (((lsu1.length : Nat) : Int) - 1)), (7, .slice (some ⟨gk, 0, none⟩) 4 4), (8, .int .i64 (p : Int)), (9, .int .i64 (i : Int)), (10, sv s), (24, .slice Aq1 lq1.length (cu1 - 0)), (25, .int .i64 ((lq1.length : Nat) : Int)), (26, .int .i64 (i : Int)), (37, .bool false)]) [6, 7, 8, 9, 10, 5, 4, 11, 12, 13, 0] rfl).as (by (try rw [show (decide ((p : Int) = 2)) = false from (Zdf h3)]); (try rfl)), M.mask [true, true] rfl⟩
   clear T M
   rintro ac wc ⟨T, M⟩
   refine wp_cond_split (T.e 10 rfl) ?_ ?_
   ·intro h4
    (have h4' := h4; try simp only [Zb1, Zb2, Zb3, Zb4, Zb5, Zb6, Zb7] at h4')
    refine wp_region_lit ?_
    refine l_q (v := (.int .i64 3)) (T.pick [0, 1, 2, 3, 5, 6, 7, 8, 9, 10] rfl) rfl rfl rfl rfl (Zra rfl evc) ?_; clear T ac; intro ac T
    refine wpList_nil ?_
    replace T := T.pick [0, 1, 2, 3, 4, 5, 6, 7, 8, 9] rfl
    exact ⟨3, (next_sh h4), T.pick [1, 2, 3, 4, 0, 5, 6, 7, 8, 9] rfl, M⟩
   intro h4
   (have h4' := h4; try simp only [Zb1, Zb2, Zb3, Zb4, Zb5, Zb6, Zb7] at h4')
   refine wp_skip ?_
   exact ⟨p, (next_no h4), T.pick [0, 1, 2, 3, 4, 5, 6, 7, 8, 9] rfl, M⟩
  clear T M
  rintro ac wc ⟨q, hq, T, M⟩
  have hq4 : q ≤ 4 := by rw [hq]; unfold nextAt; split <;> omega
  rw [← hq] at H
  refine wp_seq ?_
  refine Zsr ?_
  refine Zg5 (v3 := (.int .i64 4)) T (Zq (Zrm rfl (T.e 4 rfl))) rfl (Zm 4 rfl rfl) rfl (Zl Tryz.underlying97 0 rfl rfl) rfl (fun _ T => Zq (rn_geq rfl (T.e 2 rfl) (T.e 0 rfl))) rfl (Zm 0 rfl rfl) rfl ?_; clear T ac; intro ac T
  rcases Bool.eq_false_or_eq_true (decide (4 ≤ (q : Int))) with h5 | h5
  ·replace h5 := of_decide_eq_true h5
   refine Zg8 T (Zp (Zwn rfl rfl (T.e 0 rfl) (Zdt h5))) rfl (fun _ T => Zp (Zwn rfl rfl (T.e 1 rfl) (Zdt h5))) rfl (fun _ T => Zp (Zwn rfl rfl (T.e 2 rfl) (Zdt h5))) rfl (fun _ T => Zp (Zwn rfl rfl (T.e 3 rfl) (Zdt h5))) rfl (fun _ T => Zp (Zwn rfl rfl (T.e 4 rfl) (Zdt h5))) rfl (fun _ T => Zp (Zwn rfl rfl (T.e 5 rfl) (Zdt h5))) rfl (fun _ T => Zp (Zwn rfl rfl (T.e 6 rfl) (Zdt h5))) rfl (fun _ T => Zq (Zr1 rfl (T.e 7 rfl) (Zdt h5) evc)) rfl ?_; clear T ac; intro ac T
   replace T := T.pick [0, 1, 2, 3, 4, 5, 6, 7, 13, 14, 15, 16, 17, 18, 20, 21, 22] rfl
   refine Zln ?_
   refine wp_cond_true (T.e 0 rfl) ?_
   refine Zsr ?_
   refine Zg3 (v1 := (.agg #[.int .i64 0, .int .i64 0, .int .i64 0, .int .i64 0, .int .i64 0, .int .i64 0, .int .i64 0, .int .i64 0, .int .i64 0, .int .i64 0, .int .i64 0, .int .i64 0, .int .i64 0, .int .i64 0, .int .i64 0, .slice none 0 0, .int .i64 0, .int .i64 0])) T (Zq (rn_build rfl .nil (fun _ => by kernel_rfl))) rfl (Zm 14 rfl rfl) rfl (fun _ T => Zq (rn_add rfl (T.e 0 rfl) evc (by omega))) rfl ?_; clear T ac; intro ac T
   refine Zl2 ?_
   refine Zos M T rfl rfl (T.e 11 rfl) (T.e 2 rfl) rfl (.tail .head) rfl (by simp) rfl (by kernel_rfl) ?_; clear M T; intro wc ac M T
   refine Zg2 T (Zq (Zra rfl (T.e 0 rfl))) rfl (Zc rfl) rfl ?_; clear T ac; intro ac T
   replace T := T.pick [0, 1, 13] rfl
   refine Zln ?_
   refine wp_ret ?_
   refine Zrt ?_
   refine Zrb ?_
   refine Zrt ?_
   refine Zrt ?_
   refine Zrb ?_
   refine Zrt ?_
   refine rt_ctt M T rfl (T.e 2 rfl) (T.e 1 rfl) (T.e 0 rfl) (Zne (i := 1) rfl) rfl ?_
   have hb9 := by first | exact bad_at H (by assumption) | exact bad_line H (by assumption) (by assumption)
   exact ReadP.zero (by rw [readT_short (by omega), ← hlsu1, ← hdl, hb9]; rfl) M
  replace h5 := of_decide_eq_false h5
  refine Zg5 (v4 := (.agg #[sv (kW q), .int .i64 (kR q), .int .i64 (kN q), kF q])) T (Zw (Zwy rfl rfl (T.e 0 rfl) (Zdf h5)) (Zrm rfl (T.e 8 rfl))) rfl (fun _ T => Zw (Zwy rfl rfl (T.e 1 rfl) (Zdf h5)) (Zrm rfl (T.e 10 rfl))) rfl (fun _ T => Zw (Zwy rfl rfl (T.e 2 rfl) (Zdf h5)) (Zri (size := 4) q rfl (T.e 1 rfl) (T.e 0 rfl) ⟨_, Tryz.underlying97, by kernel_rfl⟩ rfl (by omega) rfl)) rfl (fun _ T => Zw (Zwy rfl rfl (T.e 3 rfl) (Zdf h5)) (rn_rowat (Sp.kdR Sk M (List.Sublist.cons_cons _ (Zz9 _)) (kd_at (by omega))) rfl (T.e 0 rfl) rfl)) rfl (fun _ T => Zw (Zwy rfl rfl (T.e 4 rfl) (Zdf h5)) (Zrm rfl (T.e 15 rfl))) rfl ?_; clear T ac; intro ac T
  refine l_w (Zwy rfl rfl (T.e 5 rfl) (Zdf h5)) ?_; intro K hK
  have Mq := Mem.fore2 (b := (g1, .cells (jobL j A c))) (g := (gk, .cells (kd [0, 1, 2, 3] ++ []))) (X := It) (Y := Iu1) (M.permT [1, 0] 2 rfl rfl rfl rfl)
  have My : Mem w noEx wc ((g1, .cells (jobL j A c)) :: It) := Mq.sub (Zsl _ _)
  refine Zoc (first := []) (cap := []) T rfl rfl rfl rfl evf (.cons (T.e 1 rfl) (.cons (T.e 10 rfl) (.cons (T.e 0 rfl) .nil))) Tryz.func55 rfl rfl ?_
  refine Calls.mono (readV_any q (by omega) s g1 j A c It (inL ((g1, .cells (jobL j A c)) :: It)) _ (by omega) (by omega) (fun wq Lq Mx => hT.mem0 (Mem.joinX (X := ((g1, .cells (jobL j A c)) :: It)) (F := ((gk, .cells (kd [0, 1, 2, 3] ++ [])) :: Iu1)) Mq Mx (fun b h => h))) hsl My.rebase) ?_
  clear T; rintro e wc ⟨rfl, Lqu4, N, Acu4, ccu4, Iqu4, rfl, hslqu4⟩ ac T
  obtain ⟨jqu4, hjqu4⟩ : ∃ x, x = putO q ((kdAt KT KF KS KP q).rd s) j := ⟨_, rfl⟩
  rw [← hjqu4] at N hslqu4
  replace M := Mem.joinX (X := ((g1, .cells (jobL j A c)) :: It)) (F := ((gk, .cells (kd [0, 1, 2, 3] ++ [])) :: Iu1)) Mq N (fun b h => h)
  clear N Mq My
  replace M : Mem w noEx wc ((g1, .cells (jobL jqu4 Acu4 ccu4)) :: (gk, .cells (kd [0, 1, 2, 3] ++ [])) :: (Iqu4 ++ Iu1)) := Mem.hind2 M
  refine Zso hK _ _ ?_; clear hK K
  refine Zg2 T (Zw (Zwy rfl rfl (T.e 6 rfl) (Zdf h5)) (rn_not rfl (T.e 0 rfl))) rfl (fun _ T => Zq (Zr0 rfl (T.e 7 rfl) (Zdf h5) (T.e 0 rfl))) rfl ?_; clear T ac; intro ac T
  replace T := T.pick [0, 1, 2, 3, 4, 5, 6, 7, 13, 14, 15, 16, 17, 18, 20, 21, 22] rfl
  refine Zln ?_
  refine wp_cond_split (T.e 0 rfl) ?_ ?_
  ·intro h6
   (have h6' := h6; try simp only [Zb1, Zb2, Zb3, Zb4, Zb5, Zb6, Zb7] at h6')
   refine Zsr ?_
   refine Zg3 (v1 := (.agg #[.int .i64 0, .int .i64 0, .int .i64 0, .int .i64 0, .int .i64 0, .int .i64 0, .int .i64 0, .int .i64 0, .int .i64 0, .int .i64 0, .int .i64 0, .int .i64 0, .int .i64 0, .int .i64 0, .int .i64 0, .slice none 0 0, .int .i64 0, .int .i64 0])) T (Zq (rn_build rfl .nil (fun _ => by kernel_rfl))) rfl (Zm 14 rfl rfl) rfl (fun _ T => Zq (rn_add rfl (T.e 0 rfl) evc (by omega))) rfl ?_; clear T ac; intro ac T
   refine Zl2 ?_
   refine Zos M T rfl rfl (T.e 11 rfl) (T.e 2 rfl) rfl .head rfl (by simp) rfl (by kernel_rfl) ?_; clear M T; intro wc ac M T
   refine Zg2 T (Zq (Zra rfl (T.e 0 rfl))) rfl (Zc rfl) rfl ?_; clear T ac; intro ac T
   replace T := T.pick [0, 1, 13] rfl
   refine Zln ?_
   refine wp_ret ?_
   refine Zrt ?_
   refine Zrb ?_
   refine Zrt ?_
   refine Zrt ?_
   refine Zrb ?_
   refine Zrt ?_
   refine rt_ctt M T rfl (T.e 2 rfl) (T.e 1 rfl) (T.e 0 rfl) (Zne (i := 0) rfl) rfl ?_
   have hb9 := by first | exact bad_at H (by assumption) | exact bad_line H (by assumption) (by assumption)
   exact ReadP.zero (by rw [readT_short (by omega), ← hlsu1, ← hdl, hb9]; rfl) M
  intro h6
  (have h6' := h6; try simp only [Zb1, Zb2, Zb3, Zb4, Zb5, Zb6, Zb7] at h6')
  refine Zsk ?_
  refine Zsr ?_
  refine Zg2 T (Zq (Zrm rfl (T.e 12 rfl))) rfl (fun _ T => Zq (rn_neq rfl (T.e 0 rfl) evc)) rfl ?_; clear T ac; intro ac T
  replace T := T.pick [0, 3, 4, 5, 6, 7, 8, 9, 10, 11, 12, 13, 14, 16, 17, 18] rfl
  refine Zln ?_
  refine wp_ifn (T.e 0 rfl) ?_ ?_
  ·intro h7
   refine wp_region_lit ?_
   refine Zg2 T (Zq (Zrm rfl (T.e 12 rfl))) rfl (fun _ T => Zq (rn_add rfl (T.e 0 rfl) evc (by omega))) rfl ?_; clear T ac; intro ac T
   refine l_q (v := (.int .i64 ((q : Int) + 1))) (T.pick [0, 1, 2, 3, 4, 5, 6, 7, 8, 9, 10, 11, 12, 13, 15, 16, 17] rfl) rfl rfl rfl rfl (Zra rfl (T.e 0 rfl)) ?_; clear T ac; intro ac T
   refine wpList_nil ?_
   replace T := T.pick [0, 4, 5, 6, 7, 8, 9, 10, 11, 12, 13, 14, 15, 16, 17] rfl
   refine Znb ?_
   refine nm_then ?_
   refine wp_region_lit ?_
   refine lq T (rn_add rfl (T.e 14 rfl) evc (by omega)) ?_; clear T ac; intro ac T
   refine l_q (v := (.int .i64 ((i : Int) + 1))) (T.pick [0, 1, 2, 3, 4, 5, 6, 7, 8, 9, 10, 11, 12, 13, 14] rfl) rfl rfl rfl rfl (Zrm rfl (T.e 0 rfl)) ?_; clear T ac; intro ac T
   replace T := T.pick [0, 2, 3, 4, 5, 6, 7, 8, 9, 10, 11, 12, 13, 14, 15] rfl
   refine Zln ?_
   obtain ⟨xq, hxq, hH⟩ := good_line H (by assumption) (by assumption)
   have hjn : jqu4 = foldK (l ++ [(q, xq)]) zeroJ := by rw [hjqu4, hxq, foldK_snoc, ← hj]; rfl
   have hjm : jqu4.sh.length ≤ j.sh.length + 1 := by rw [hjqu4, hxq]; exact putK_len _ _ _
   exact ⟨_, by omega, i + 1, q + 1, jqu4, Acu4, ccu4, Iqu4, (l ++ [(q, xq)]), rfl, (by omega), (by omega), (by rw [if_pos (show q ≠ 2 by omega)] at hH; exact hH), hjn, hslqu4, (by omega), T.pick [9, 10, 11, 12, 1, 13, 14, 0] rfl, (M.permT [1, 0] 2 rfl rfl rfl rfl)⟩
  intro h7
  refine wp_skip ?_
  refine Znb ?_
  refine nm_then ?_
  refine wp_region_lit ?_
  refine lq T (rn_add rfl (T.e 15 rfl) evc (by omega)) ?_; clear T ac; intro ac T
  refine l_q (v := (.int .i64 ((i : Int) + 1))) (T.pick [0, 1, 2, 3, 4, 5, 6, 7, 8, 9, 10, 11, 12, 13, 14, 15] rfl) rfl rfl rfl rfl (Zrm rfl (T.e 0 rfl)) ?_; clear T ac; intro ac T
  replace T := T.pick [0, 3, 4, 5, 6, 7, 8, 9, 10, 11, 12, 13, 14, 15, 16] rfl
  refine Zln ?_
  obtain ⟨xq, hxq, hH⟩ := good_line H (by assumption) (by assumption)
  have hjn : jqu4 = foldK (l ++ [(q, xq)]) zeroJ := by rw [hjqu4, hxq, foldK_snoc, ← hj]; rfl
  have hjm : jqu4.sh.length ≤ j.sh.length + 1 := by rw [hjqu4, hxq]; exact putK_len _ _ _
  exact ⟨_, by omega, i + 1, q, jqu4, Acu4, ccu4, Iqu4, (l ++ [(q, xq)]), rfl, (by omega), (by omega), (by rw [if_neg (show ¬ q ≠ 2 by omega)] at hH; exact hH), hjn, hslqu4, (by omega), T.pick [8, 9, 10, 11, 12, 13, 14, 0] rfl, (M.permT [1, 0] 2 rfl rfl rfl rfl)⟩
 intro h2
 obtain ⟨zl, hzl⟩ : ∃ q, lsu1[lsu1.length - 1]? = some q := ⟨_, List.getElem?_eq_getElem (by omega)⟩
 have hzm : zl.length ≤ text.length := spl_mem_len (c := 10) (by rw [← hlsu1]; exact List.mem_of_getElem? hzl)
 obtain ⟨bJ, oJ, SJ0⟩ := hsl.spW (rc_length _)
 have SJ := SJ0 w noEx
 rw [List.drop_of_length_le (by omega)] at H
 replace H : progL KT KF KS KP shiftW 0 0 lq1 = .ok (decide (4 ≤ p)) l := by rw [H]; exact (app_ok l [] _).trans (by rw [List.append_nil])
 refine wp_exit ?_
 refine Zet ?_
 refine Zet ?_
 refine ex_hit ?_
 refine Zns ?_
 refine cut_seq (fun ac wc => Tm ac 80 [(2, .pointer (some ⟨g1, 0, none⟩)), (6, .int .i64 (((lsu1.length : Nat) : Int) - 1)), (69, .bool ((decide ((p : Int) < 4)) || (!(decide (zl = ([]))))))] ∧ Mem w noEx wc ((gk, .cells (kd [0, 1, 2, 3] ++ [])) :: (g1, .cells (jobL j A c)) :: (It ++ Iu1))) ?_ ?_
 ·refine wp_region_lit ?_
  refine Zg5 (v3 := (.int .i64 4)) T (Zq (Zrm rfl (T.e 5 rfl))) rfl (Zm 5 rfl rfl) rfl (Zl Tryz.underlying97 0 rfl rfl) rfl (fun _ T => Zq (rn_lss rfl (T.e 2 rfl) (T.e 0 rfl))) rfl (Zm 0 rfl rfl) rfl ?_; clear T ac; intro ac T
  rcases Bool.eq_false_or_eq_true (decide ((p : Int) < 4)) with h8 | h8
  ·replace h8 := of_decide_eq_true h8
   refine Zg6 T (Zp (Zwn rfl rfl (T.e 0 rfl) (Zdt h8))) rfl (fun _ T => Zp (Zwn rfl rfl (T.e 1 rfl) (Zdt h8))) rfl (fun _ T => Zp (Zwn rfl rfl (T.e 2 rfl) (Zdt h8))) rfl (fun _ T => Zp (Zwn rfl rfl (T.e 3 rfl) (Zdt h8))) rfl (fun _ T => Zp (Zwn rfl rfl (T.e 4 rfl) (Zdt h8))) rfl (fun _ T => Zq (Zr1 rfl (T.e 5 rfl) (Zdt h8) evc)) rfl ?_; clear T ac; intro ac T
   refine wpList_nil ?_
   replace T := T.pick [0, 12, 14] rfl
   exact ⟨(T.pick (E' := [(2, .pointer (some ⟨g1, 0, none⟩)), (6, .int .i64 (((lsu1.length : Nat) : Int) - 1)), (69, .bool true)]) [1, 2, 0] rfl).as (by (try rw [show (decide ((p : Int) < 4)) = true from (Zdt h8)]); (try rfl)), M.mask [true, true] rfl⟩
  replace h8 := of_decide_eq_false h8
  refine Zg6 T (Zw (Zwy rfl rfl (T.e 0 rfl) (Zdf h8)) (Zrm rfl (T.e 7 rfl))) rfl (fun _ T => Zw (Zwy rfl rfl (T.e 1 rfl) (Zdf h8)) (Zrm rfl (T.e 9 rfl))) rfl (fun _ T => Zw (Zwy rfl rfl (T.e 2 rfl) (Zdf h8)) (Zri (size := 1) (lsu1.length - 1) rfl (T.e 1 rfl) (T.e 0 rfl) ⟨_, Tryz.underlying37, by kernel_rfl⟩ (by omega) (by omega) (Su1.at0 (by omega)))) rfl (fun _ T => Zw (Zwy rfl rfl (T.e 3 rfl) (Zdf h8)) (rn_cell (Sp.stC0 Su1 M (.cons _ (.cons _ (Zsq _ _))) hzl) rfl (T.e 0 rfl))) rfl (fun _ T => Zw (Zwy rfl rfl (T.e 4 rfl) (Zdf h8)) (rn_sneq rfl (T.e 0 rfl) evc)) rfl (fun _ T => Zq (Zr0 rfl (T.e 5 rfl) (Zdf h8) (T.e 0 rfl))) rfl ?_; clear T ac; intro ac T
  refine wpList_nil ?_
  replace T := T.pick [0, 12, 14] rfl
  exact ⟨(T.pick (E' := [(2, .pointer (some ⟨g1, 0, none⟩)), (6, .int .i64 (((lsu1.length : Nat) : Int) - 1)), (69, .bool (!(decide (zl = ([])))))]) [1, 2, 0] rfl).as (by (try rw [show (decide ((p : Int) < 4)) = false from (Zdf h8)]); (try rfl)), M.mask [true, true] rfl⟩
 clear T M
 rintro ac wc ⟨T, M⟩
 refine wp_cond_split (T.e 2 rfl) ?_ ?_
 ·intro h9
  (have h9' := h9; try simp only [Zb1, Zb2, Zb3, Zb4, Zb5, Zb6, Zb7] at h9')
  refine Zsr ?_
  refine Zg3 (v1 := (.agg #[.int .i64 0, .int .i64 0, .int .i64 0, .int .i64 0, .int .i64 0, .int .i64 0, .int .i64 0, .int .i64 0, .int .i64 0, .int .i64 0, .int .i64 0, .int .i64 0, .int .i64 0, .int .i64 0, .int .i64 0, .slice none 0 0, .int .i64 0, .int .i64 0])) T (Zq (rn_build rfl .nil (fun _ => by kernel_rfl))) rfl (Zm 2 rfl rfl) rfl (fun _ T => Zq (rn_add rfl (T.e 0 rfl) evc (by omega))) rfl ?_; clear T ac; intro ac T
  refine Zl2 ?_
  refine Zos M T rfl rfl (T.e 3 rfl) (T.e 2 rfl) rfl (.tail .head) rfl (by simp) rfl (by kernel_rfl) ?_; clear M T; intro wc ac M T
  refine Zg2 T (Zq (Zra rfl (T.e 0 rfl))) rfl (Zc rfl) rfl ?_; clear T ac; intro ac T
  replace T := T.pick [0, 1, 5] rfl
  refine Zln ?_
  refine wp_ret ?_
  refine Zrt ?_
  refine rt_ctt M T rfl (T.e 2 rfl) (T.e 1 rfl) (T.e 0 rfl) (Zne (i := 1) rfl) rfl ?_
  have hb9 := endR_bad (l := l) hzl (or_bad (p := p) (by assumption))
  exact ReadP.zero (by rw [readT_short (by omega), ← hlsu1, ← hdl, H, hb9, show (((lsu1.length : Nat) : Int) - 1 + 1) = ((lsu1.length : Nat) : Int) by omega]) M
 intro h9
 (have h9' := h9; try simp only [Zb1, Zb2, Zb3, Zb4, Zb5, Zb6, Zb7] at h9')
 refine Zsk ?_
 refine wp_seq ?_
 refine Zsr ?_
 refine lq T (Zrr (Mem.nth M 1 rfl) rfl (T.e 0 rfl) rfl) ?_; clear T ac; intro ac T
 refine Zl2 ?_
 refine Zoc (first := []) (cap := []) T rfl rfl rfl rfl evf (.cons (T.e 0 rfl) .nil) Tryz.func46 rfl rfl ?_
 refine Calls.mono (check_any j _ _ _ (SJ.rd M (.cons _ (.cons _ (subL (List.Sublist.refl _))))) (by omega)) ?_
 clear T; rintro e wc ⟨rfl, hb⟩ ac T
 replace M := M.call hb; clear hb
 refine lq T (Zra rfl (T.e 0 rfl)) ?_; clear T ac; intro ac T
 replace T := T.pick [0, 3] rfl
 refine Zln ?_
 refine Zsr ?_
 refine Zg2 T (Zq (Zrm rfl (T.e 0 rfl))) rfl (fun _ T => Zq (rn_neq rfl (T.e 0 rfl) evc)) rfl ?_; clear T ac; intro ac T
 replace T := T.pick [0, 2, 3] rfl
 refine Zln ?_
 refine wp_ifn (T.e 0 rfl) ?_ ?_
 ·intro h10
  refine Zsr ?_
  refine Zg2 (v1 := (.agg #[.int .i64 0, .int .i64 0, .int .i64 0, .int .i64 0, .int .i64 0, .int .i64 0, .int .i64 0, .int .i64 0, .int .i64 0, .int .i64 0, .int .i64 0, .int .i64 0, .int .i64 0, .int .i64 0, .int .i64 0, .slice none 0 0, .int .i64 0, .int .i64 0])) T (Zq (rn_build rfl .nil (fun _ => by kernel_rfl))) rfl (Zm 2 rfl rfl) rfl ?_; clear T ac; intro ac T
  refine Zl2 ?_
  refine Zos M T rfl rfl (T.e 4 rfl) (T.e 1 rfl) rfl (.tail .head) rfl (by simp) rfl (by kernel_rfl) ?_; clear M T; intro wc ac M T
  refine Zg2 T (Zq (Zra rfl evc)) rfl (Za 1 rfl rfl) rfl ?_; clear T ac; intro ac T
  replace T := T.pick [0, 1, 6] rfl
  refine Zln ?_
  refine wp_ret ?_
  refine Zrt ?_
  refine rt_ctt M T rfl (T.e 2 rfl) (T.e 1 rfl) (T.e 0 rfl) (Zne (i := 1) rfl) rfl ?_
  have hb9 := endR_go (l := l) hzl (or_go (p := p) (by assumption))
  rw [← hj] at hb9
  have hr9 : readT text = if checkJ j ≠ 0 then (zeroJ, 0, checkJ j) else (j, 0, 0) := by rw [readT_short (by omega), ← hlsu1, ← hdl, H]; exact hb9
  rw [if_pos (by assumption)] at hr9
  exact ReadP.zero hr9 M
 intro h10
 refine Zsk ?_
 refine Zsr ?_
 refine lq T (Zrr (Mem.nth M 1 rfl) rfl (T.e 2 rfl) rfl) ?_; clear T ac; intro ac T
 refine Zl2 ?_
 refine Zos M T rfl rfl (T.e 3 rfl) (T.e 0 rfl) rfl (.tail .head) rfl (by simp) rfl (by kernel_rfl) ?_; clear M T; intro wc ac M T
 refine Zg2 T (Zq (Zra rfl evc)) rfl (Zc rfl) rfl ?_; clear T ac; intro ac T
 replace T := T.pick [0, 1, 5] rfl
 refine Zln ?_
 refine wp_ret ?_
 refine rt_ctt M T rfl (T.e 2 rfl) (T.e 1 rfl) (T.e 0 rfl) (Zne (i := 1) rfl) rfl ?_
 have hb9 := endR_go (l := l) hzl (or_go (p := p) (by assumption))
 rw [← hj] at hb9
 have hr9 : readT text = if checkJ j ≠ 0 then (zeroJ, 0, checkJ j) else (j, 0, 0) := by rw [readT_short (by omega), ← hlsu1, ← hdl, H]; exact hb9
 rw [if_neg (fun h => h (by assumption))] at hr9
 rw [hr9]
 exact ⟨A, c, It, rfl, hsl, M.sub (.cons _ (.cons _ (subL (List.Sublist.refl _))))⟩
section
variable {en : Bool} {i : Nat} {ls : List (List UInt8)} {s : List UInt8} {l : List (Nat × List Int)} {r : RdE} {x : List Int}
end
section
variable {P : Program} {op : Oper} {a : Act} {w w0 : World} {ex : Nat → Prop} {L : List (Nat × BA)} {df : List Deferred} {nn : Nat} {E : List (Nat × Value)} {t : Tmp} {K : Act → World → Prop} {Q : Exit → Act → World → Prop}
end
def ReadJ (j : Jb) (l err : Int) (w : World) (e : Ending) (w' : World) : Prop := ∃ (A : Option Addr) (c : Nat) (I : List (Nat × BA)), e = .returned (.tuple #[jobV j A c, .int .i64 l, .int .i64 err]) ∧ Sl 23 2 (.slice A j.sh.length c) j.sh.length (rc j.sh) I ∧ Mem w noEx w' I
theorem readJ_any {s : List UInt8} {j : Jb} {l err : Int} (h : readT s = (j, l, err)) (w : World) (hT : StrW w) : Calls Tryz.prog 15 #[sv s] w (ReadJ j l err w) := by
 have h2 := read_any s w hT
 rw [h] at h2
 exact h2
theorem readT_sh (s : List UInt8) : (readT s).1.sh.length ≤ 4 := by
 have key : ∀ rows r, (endR rows r).1.sh.length ≤ 4 := by
  intro rows r
  unfold endR
  split
  ·exact Nat.zero_le _
  ·split
   ·exact Nat.zero_le _
   ·split
    ·exact Nat.zero_le _
    ·rename_i h
     exact (good_of (by simpa using h)).few
 unfold readT
 split
 ·exact Nat.zero_le _
 ·exact key _ _
open Go.RowKit
theorem within_ok {n lo hi : Int} (h : lo ≤ n ∧ n ≤ hi) : withinB n lo hi = true := by unfold withinB; simpa using h
theorem chkR_ok {x0 x1 lo hi : Int} (h : lo ≤ x0 ∧ x0 ≤ x1 ∧ x1 ≤ hi) : chkR x0 x1 lo hi = 0 := by
 unfold chkR
 rw [if_pos ⟨within_ok ⟨by omega, by omega⟩, within_ok ⟨by omega, by omega⟩⟩, if_neg (by omega)]
theorem chkAll_ok {lo hi : Int} : ∀ {l : List (Int × Int)}, (∀ p ∈ l, lo ≤ p.1 ∧ p.1 ≤ p.2 ∧ p.2 ≤ hi) → chkAll lo hi l = 0
 | [], _ => rfl
 | q :: r, h => by
  unfold chkAll
  rw [chkR_ok (h q Zz2), if_neg (by decide)]
  exact chkAll_ok fun p hp => h p (Zz1 hp)
theorem good_check {j : Jb} (g : j.good) : checkJ j = 0 := by
 have h4 := g.few
 unfold checkJ
 rw [chkR_ok g.p, if_neg (by decide), chkAll_ok (l := [(j.t0, j.t1), (j.r0, j.r1)]) (by
   intro p hp
   simp only [List.mem_cons, List.not_mem_nil, or_false] at hp
   rcases hp with rfl | rfl
   ·exact g.t
   ·exact g.r), if_neg (by decide), chkAll_ok (l := [(j.u0, j.u1), (j.d0, j.d1), (j.a0, j.a1), (j.b0, j.b1)]) (by
   intro p hp
   simp only [List.mem_cons, List.not_mem_nil, or_false] at hp
   rcases hp with rfl | rfl | rfl | rfl
   ·exact g.u
   ·exact g.d
   ·exact g.a
   ·exact g.b), if_neg (by decide), within_ok g.le, if_neg (by decide), if_neg (by omega), chkAll_ok g.sh, if_neg (by decide), within_ok g.wi, within_ok g.me, if_neg (by decide)]
theorem writeG_any {j : Jb} {A : Option Addr} {c : Nat} (t : List UInt8) (h0 : checkJ j = 0) (ht : writeT j = t) (w : World) (hr : Rd w w.heap.size 2 A j.sh.length (rc j.sh)) (hn : j.sh.length ≤ 1000000) (hT : StrW w) : Calls Tryz.prog 12 #[jobV j A c] w fun e w' => e = .returned (.tuple #[sv t, .int .i64 0]) ∧ Below w.heap.size w w' := by
 have h := write_any j A c w hr hn hT
 have e : wrT j = t := by unfold wrT; rw [if_pos h0, ht]
 rw [h0, e] at h
 exact h
theorem ReedRead_any (D : Option Addr) (d n : Nat) (l : List Int) (text : List UInt8) (w : World) (hl : Rd w w.heap.size 1 D n (ic l)) (hm : n ≤ 9223372036854775807) (hT : StrW w)  :
   Calls Tryz.prog 4 #[.slice D n d, sv text] w fun e w' => e = .returned (.bool true) ∧ Below w.heap.size w w' := by
 have hll := hl.len1
 obtain ⟨bI, oI, SI⟩ := Sp.old hl
 obtain ⟨jr, lr, er, hr9⟩ : ∃ j l e, readT text = (j, l, e) := ⟨_, _, _, rfl⟩
 have hjr4 : jr.sh.length ≤ 4 := by have h8 := readT_sh text; rw [hr9] at h8; exact h8
 refine Zpx noEx Tryz.func4 rfl 74 rfl [.slice D n d, sv text] rfl rfl (Mem.init w _) ?_
 intro ac wc T M
 refine Zsr ?_
 refine lq T (Zra rfl evc) ?_; clear T ac; intro ac T
 replace T := T.pick [1, 2] rfl
 refine Zln ?_
 refine wp_seq ?_
 refine Zsr ?_
 refine Zg3 T (Zq (Zrm rfl (T.e 1 rfl))) rfl (fun _ T => Zq (rn_slen rfl Tryz.underlying9 (T.e 0 rfl))) rfl (fun _ T => Zq (rn_gtr rfl (T.e 0 rfl) evc)) rfl ?_; clear T ac; intro ac T
 replace T := T.pick [0, 3, 4] rfl
 refine Zln ?_
 refine wp_if (T.e 0 rfl) ?_ ?_
 ·intro h1
  refine Zsr ?_
  refine Zl2 ?_
  refine Zoc (first := []) (cap := []) T rfl rfl rfl rfl evf .nil Tryz.func9 rfl rfl ?_
  refine Calls.mono (tuned_any _) ?_
  clear T; rintro e wc ⟨rfl, hb⟩ ac T
  replace M := M.call hb; clear hb
  refine lq T (Zra rfl (T.e 0 rfl)) ?_; clear T ac; intro ac T
  replace T := T.pick [0] rfl
  refine Zln ?_
  refine wp_ret ?_
  refine Zrt ?_
  refine rt_1 T rfl (T.e 0 rfl) ?_
  exact ⟨rfl, M.below⟩
 intro h1
 refine Zsk ?_
 refine Zsr ?_
 refine lq T (Zrm rfl (T.e 1 rfl)) ?_; clear T ac; intro ac T
 refine Zl2 ?_
 refine Zoc (first := []) (cap := []) T rfl rfl rfl rfl evf (.cons (T.e 0 rfl) .nil) Tryz.func11 rfl rfl ?_
 refine Calls.mono (newPot_any _ _ _ l _ (SI.rd M (Zz9 _)) (by omega)) ?_
 clear T; rintro e wc ⟨bpu2, su2, hsu2, rfl, N⟩ ac T
 replace M := M.join N; clear N
 replace M := M.mask [true] rfl
 refine Zl2 ?_
 refine Zoc (first := []) (cap := []) T rfl rfl rfl rfl evf (.cons (T.e 0 rfl) (.cons evc (.cons evc .nil))) Tryz.func10 rfl rfl ?_
 refine Calls.mono (jobOf_any _ bpu2 40 6 _ (by omega) (by omega) (by omega) (by omega) (M.nth 0 rfl) hsu2) ?_
 clear T; rintro e wc ⟨ju3, Au3, cu3, su3, Iu3, rfl, hmu3, hsu3, hslu3, N⟩ ac T
 obtain ⟨bu3, ou3, Su3⟩ := hslu3.sp (w := w) (ex := noEx) (rc_length _)
 replace M := (M.joinW .head N).swapI
 replace M := M.mask [true] rfl
 clear N hslu3
 have hgu3 := hmu3.good
 have hfewu3 := hgu3.few
 have hpu3 := hgu3.p
 have hmeu3 := hgu3.me
 refine Zl2 ?_
 refine Zoa M T rfl rfl rfl rfl ?_; clear M T; intro g1 wc ac M T
 refine Zl2 ?_
 refine Zos M T rfl rfl (T.e 0 rfl) (T.e 1 rfl) rfl .head rfl (by simp) rfl (by kernel_rfl) ?_; clear M T; intro wc ac M T
 refine wpList_nil ?_
 replace T := T.pick [0, 6] rfl
 replace M := M.mask [true, false] rfl
 refine nm_then ?_
 refine Zsr ?_
 refine lq T (Zrr (Mem.nth M 0 rfl) rfl (T.e 0 rfl) rfl) ?_; clear T ac; intro ac T
 refine Zl2 ?_
 refine Zoc (first := []) (cap := []) T rfl rfl rfl rfl evf (.cons (T.e 0 rfl) .nil) Tryz.func12 rfl rfl ?_
 refine Calls.mono (writeG_any (writeT ju3) (good_check hgu3) rfl _ (Su3.rd M (.cons _ (List.Sublist.refl _))) (by omega) (hT.mem0 M)) ?_
 clear T; rintro e wc ⟨rfl, hb⟩ ac T
 replace M := M.call hb; clear hb
 refine Zg5 T (Zq (Zrm rfl (T.e 0 rfl))) rfl (Ze 0 rfl rfl rfl) rfl (Ze 1 rfl rfl rfl) rfl (Za 1 rfl rfl) rfl (Za 1 rfl rfl) rfl ?_; clear T ac; intro ac T
 replace T := T.pick [0, 1, 7, 8] rfl
 refine Zln ?_
 refine Zsr ?_
 refine lq T (Zrm rfl (T.e 1 rfl)) ?_; clear T ac; intro ac T
 refine Zl2 ?_
 refine Zoc (first := []) (cap := []) T rfl rfl rfl rfl evf (.cons (T.e 0 rfl) .nil) Tryz.func15 rfl rfl ?_
 refine Calls.mono (readJ_any (write_read (good_check hgu3)) _ (hT.mem0 M)) ?_
 clear T; rintro e wc ⟨Au5, cu5, Iu5, rfl, hslu5, N⟩ ac T
 obtain ⟨bu5, ou5, SVu5⟩ := hslu5.spW (rc_length _)
 have Su5 := SVu5 w noEx
 replace M := (M.join N).swapI
 clear N
 replace M : Mem w noEx wc ((g1, .cells (jobL ju3 Au3 cu3)) :: (Iu3 ++ Iu5)) := M
 refine Zg4 T (Zq (Zrm rfl (T.e 0 rfl))) rfl (Ze 0 rfl rfl rfl) rfl (Ze 1 rfl rfl rfl) rfl (Ze 2 rfl rfl rfl) rfl ?_; clear T ac; intro ac T
 refine Zl2 ?_
 refine Zoa M T rfl rfl rfl rfl ?_; clear M T; intro g2 wc ac M T
 refine Zl2 ?_
 refine Zos M T rfl rfl (T.e 0 rfl) (T.e 3 rfl) rfl .head rfl (by simp) rfl (by kernel_rfl) ?_; clear M T; intro wc ac M T
 refine Zg2 T (Zq (Zra rfl (T.e 2 rfl))) rfl (Za 2 rfl rfl) rfl ?_; clear T ac; intro ac T
 replace T := T.pick [0, 1, 2, 9, 11, 12] rfl
 refine Zln ?_
 refine wp_seq ?_
 refine Zsr ?_
 refine Zg8 (v2 := (.bool false)) (v5 := (.bool false)) T (Zq (Zrm rfl (T.e 3 rfl))) rfl (fun _ T => Zq (Zrq (rn_neq rfl (T.e 0 rfl) evc) (by simp))) rfl (Zm 0 rfl rfl) rfl (fun _ T => Zw (Zwy rfl rfl (T.e 0 rfl) rfl) (Zrm rfl (T.e 3 rfl))) rfl (fun _ T => Zw (Zwy rfl rfl (T.e 1 rfl) rfl) (Zrq (rn_neq rfl (T.e 0 rfl) evc) (by simp))) rfl (fun _ T => Zq (Zr0 rfl (T.e 2 rfl) rfl (T.e 0 rfl))) rfl (Zm 0 rfl rfl) rfl (fun _ T => Zw (Zwy rfl rfl (T.e 0 rfl) rfl) (Zrm rfl (T.e 8 rfl))) rfl ?_; clear T ac; intro ac T
 refine Zg5 (v1 := (.bool false)) T (Zw (Zwy rfl rfl (T.e 1 rfl) rfl) (Zrq (rn_neq rfl (T.e 0 rfl) evc) (by simp))) rfl (fun _ T => Zq (Zr0 rfl (T.e 2 rfl) rfl (T.e 0 rfl))) rfl (Zm 0 rfl rfl) rfl (fun _ T => Zw (Zwy rfl rfl (T.e 0 rfl) rfl) (Zrr (Mem.nth M 1 rfl) rfl (T.e 15 rfl) rfl)) rfl (fun _ T => Zw (Zwy rfl rfl (T.e 1 rfl) rfl) (Zrr (Mem.nth M 0 rfl) rfl (T.e 14 rfl) rfl)) rfl ?_; clear T ac; intro ac T
 refine l_w (Zwy rfl rfl (T.e 2 rfl) rfl) ?_; intro K hK
 refine Zoc (first := []) (cap := []) T rfl rfl rfl rfl evf (.cons (T.e 1 rfl) (.cons (T.e 0 rfl) .nil)) Tryz.func17 rfl rfl ?_
 refine Calls.mono (sameJobs_same ju3 _ _ _ _ _ (Su3.rd M (.cons _ (.cons _ (subL (List.Sublist.refl _))))) (Su5.rd M (.cons _ (.cons _ (Zsq _ _)))) (by omega)) ?_
 clear T; rintro e wc ⟨rfl, hb⟩ ac T
 replace M := M.call hb; clear hb
 refine Zso hK _ _ ?_; clear hK K
 refine Zg2 (v1 := (.bool false)) T (Zw (Zwy rfl rfl (T.e 3 rfl) rfl) (Zrq (rn_not rfl (T.e 0 rfl)) (by simp))) rfl (fun _ T => Zq (Zr0 rfl (T.e 4 rfl) rfl (T.e 0 rfl))) rfl ?_; clear T ac; intro ac T
 refine wpList_nil ?_
 replace T := T.pick [0, 21] rfl
 replace M := M.mask [false, false] rfl
 refine nm_then ?_
 refine wp_cond_false (T.e 0 rfl) ?_
 refine Zsk ?_
 refine Zsr ?_
 refine lq T (Zrm rfl (T.e 1 rfl)) ?_; clear T ac; intro ac T
 refine Zl2 ?_
 refine Zoc (first := []) (cap := []) T rfl rfl rfl rfl evf (.cons (T.e 0 rfl) .nil) Tryz.func15 rfl rfl ?_
 refine Calls.mono (readJ_any hr9 _ (hT.mem0 M)) ?_
 clear T; rintro e wc ⟨Au7, cu7, Iu7, rfl, hslu7, N⟩ ac T
 obtain ⟨bu7, ou7, SVu7⟩ := hslu7.spW (rc_length _)
 have Su7 := SVu7 w noEx
 replace M := (M.join N).swapI
 clear N
 replace M : Mem w noEx wc ((Iu3 ++ Iu5 ++ Iu7)) := M
 refine Zg4 T (Zq (Zrm rfl (T.e 0 rfl))) rfl (Ze 0 rfl rfl rfl) rfl (Ze 1 rfl rfl rfl) rfl (Ze 2 rfl rfl rfl) rfl ?_; clear T ac; intro ac T
 refine Zl2 ?_
 refine Zoa M T rfl rfl rfl rfl ?_; clear M T; intro g3 wc ac M T
 refine Zl2 ?_
 refine Zos M T rfl rfl (T.e 0 rfl) (T.e 3 rfl) rfl .head rfl (by simp) rfl (by kernel_rfl) ?_; clear M T; intro wc ac M T
 refine Zg2 T (Zq (Zra rfl (T.e 2 rfl))) rfl (Za 2 rfl rfl) rfl ?_; clear T ac; intro ac T
 replace T := T.pick [0, 2, 10] rfl
 refine Zln ?_
 refine wp_seq ?_
 refine Zsr ?_
 refine Zg2 T (Zq (Zrm rfl (T.e 0 rfl))) rfl (fun _ T => Zq (rn_neq rfl (T.e 0 rfl) evc)) rfl ?_; clear T ac; intro ac T
 replace T := T.pick [0, 3, 4] rfl
 refine Zln ?_
 refine wp_ifn (T.e 0 rfl) ?_ ?_
 ·intro h2
  refine Zsr ?_
  refine Zl2 ?_
  refine Zoc (first := []) (cap := []) T rfl rfl rfl rfl evf .nil Tryz.func9 rfl rfl ?_
  refine Calls.mono (tuned_any _) ?_
  clear T; rintro e wc ⟨rfl, hb⟩ ac T
  replace M := M.call hb; clear hb
  refine lq T (Zra rfl (T.e 0 rfl)) ?_; clear T ac; intro ac T
  refine wpList_nil ?_
  replace T := T.pick [0] rfl
  replace M := M.mask [false] rfl
  replace M : Mem w noEx wc ((Iu3 ++ Iu5 ++ Iu7)) := M
  refine Znr ?_
  refine Zrt ?_
  refine rt_1 T rfl (T.e 0 rfl) ?_
  exact ⟨rfl, M.below⟩
 intro h2
 refine Zsk ?_
 refine Zsr ?_
 refine lq T (Zrr (Mem.nth M 0 rfl) rfl (T.e 1 rfl) rfl) ?_; clear T ac; intro ac T
 refine Zl2 ?_
 refine Zoc (first := []) (cap := []) T rfl rfl rfl rfl evf (.cons (T.e 0 rfl) .nil) Tryz.func12 rfl rfl ?_
 refine Calls.mono (writeG_any text (read_write (by rw [hr9, (by assumption : er = 0)])).1 (read_write (by rw [hr9, (by assumption : er = 0)])).2.1 _ (Su7.rd M (.cons _ (Zsq _ _))) (by omega) (hT.mem0 M)) ?_
 clear T; rintro e wc ⟨rfl, hb⟩ ac T
 replace M := M.call hb; clear hb
 refine Zg5 T (Zq (Zrm rfl (T.e 0 rfl))) rfl (Ze 0 rfl rfl rfl) rfl (Ze 1 rfl rfl rfl) rfl (Za 1 rfl rfl) rfl (Za 1 rfl rfl) rfl ?_; clear T ac; intro ac T
 refine wpList_nil ?_
 replace T := T.pick [0, 1, 9] rfl
 replace M := M.mask [false] rfl
 replace M : Mem w noEx wc ((Iu3 ++ Iu5 ++ Iu7)) := M
 refine nm_then ?_
 refine Zsr ?_
 refine Zg8 (v2 := (.bool true)) (v6 := (.bool true)) T (Zq (Zrm rfl (T.e 0 rfl))) rfl (fun _ T => Zq (Zrq (rn_eql rfl (T.e 0 rfl) evc) (by simp))) rfl (Zm 0 rfl rfl) rfl (fun _ T => Zw (Zwy rfl rfl (T.e 0 rfl) rfl) (Zrm rfl (T.e 4 rfl))) rfl (fun _ T => Zw (Zwy rfl rfl (T.e 1 rfl) rfl) (Zrm rfl (T.e 6 rfl))) rfl (fun _ T => Zw (Zwy rfl rfl (T.e 2 rfl) rfl) (Zrq (rn_seql rfl (T.e 1 rfl) (T.e 0 rfl)) (by simp))) rfl (fun _ T => Zq (Zr1 rfl (T.e 3 rfl) rfl (T.e 0 rfl))) rfl (Zm 0 rfl rfl) rfl ?_; clear T ac; intro ac T
 refine l_w (Zwy rfl rfl (T.e 0 rfl) rfl) ?_; intro K hK
 refine Zoc (first := []) (cap := []) T rfl rfl rfl rfl evf .nil Tryz.func9 rfl rfl ?_
 refine Calls.mono (tuned_any _) ?_
 clear T; rintro e wc ⟨rfl, hb⟩ ac T
 replace M := M.call hb; clear hb
 refine Zso hK _ _ ?_; clear hK K
 refine Zg2 T (Zq (Zr1 rfl (T.e 1 rfl) rfl (T.e 0 rfl))) rfl (Za 0 rfl rfl) rfl ?_; clear T ac; intro ac T
 replace T := T.pick [0] rfl
 refine Zln ?_
 refine wp_ret ?_
 refine rt_1 T rfl (T.e 0 rfl) ?_
 exact ⟨rfl, M.below⟩
end Go.Proofs.YtmdbdaofjepelaaGreatDoor


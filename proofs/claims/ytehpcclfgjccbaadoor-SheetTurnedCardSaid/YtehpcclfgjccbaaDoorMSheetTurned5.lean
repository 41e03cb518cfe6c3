/-
  Walks of functions, and plain laws (texts put together). No condition.
-/
import Derived.Test.YtehpcclfgjccbaaDoorMSheetTurned1
import Derived.Test.YtehpcclfgjccbaaDoorMSheetTurned2
import Derived.Test.YtehpcclfgjccbaaDoorMSheetTurned3
import Derived.Test.YtehpcclfgjccbaaDoorMSheetTurned4
set_option maxRecDepth 100000
set_option maxHeartbeats 1000000
section
/-
 Sheets, in plain Lean: room for more, what is easier, another order, turned stocks, bounds.
-/
namespace Go.Proofs.YtehpcclfgjccbaaDoor
set_option linter.unusedSimpArgs false
set_option linter.unusedVariables false
def skA (s : Sk) (p : Pt) (k : Nat) : Sk := skP s (s.ps ++ List.replicate k p)
def easier (p q : Pt) : Prop := q.l = p.l ∧ q.w = p.w ∧ (q.gr = p.gr ∨ q.gr = false) ∧ (q.pa = p.pa ∨ q.pa = 0)
theorem easier.rfl' (p : Pt) : easier p p := ⟨rfl, rfl, .inl rfl, .inl rfl⟩
theorem easier.good {p q : Pt} (h : easier p q) (hp : p.good) : q.good := by
 obtain ⟨h1, h2, -, h4⟩ := h
 obtain ⟨g1, g2, g3⟩ := hp
 exact ⟨by omega, by omega, by omega⟩
def easierL (ps qs : List Pt) : Prop := qs.length = ps.length ∧ ∀ (i : Nat) (p q : Pt), ps[i]? = some p → qs[i]? = some q → easier p q
theorem easierL.refl (ps : List Pt) : easierL ps ps := ⟨rfl, fun i p q h1 h2 => by rw [h1] at h2; injection h2 with h2; subst h2; exact easier.rfl' p⟩
theorem easierL.set {ps qs : List Pt} (h : easierL ps qs) {i : Nat} {q q' : Pt} (hq : qs[i]? = some q) (hs : ∀ p, easier p q → easier p q') : easierL ps (qs.set i q') :=
 ⟨by rw [List.length_set]; exact h.1, fun j p r h1 h2 => by
   by_cases hj : i = j
   · subst hj
     rw [List.getElem?_set_self (List.getElem?_eq_some_iff.1 hq).1] at h2
     injection h2 with h2
     subst h2
     exact hs p (h.2 i p q h1 hq)
   · rw [List.getElem?_set_ne hj] at h2
     exact h.2 j p r h1 h2⟩
theorem easierL.good {ps qs : List Pt} (h : easierL ps qs) (hg : ∀ p ∈ ps, p.good) : ∀ q ∈ qs, q.good := fun q hq => by
 obtain ⟨i, hi, rfl⟩ := List.mem_iff_getElem.1 hq
 have hi2 : i < ps.length := by have := h.1; omega
 exact (h.2 i _ _ (List.getElem?_eq_getElem hi2) (List.getElem?_eq_getElem hi)).good (hg _ (List.getElem_mem hi2))
theorem sh_eq {s x : Sk} {su sx : Bool} (hg : s.good) (hx : x.good) (h : ∀ n, ColP (Fit (cutA s su) (cutC s su)) s.lo s.wi s.ps n ↔ ColP (Fit (cutA x sx) (cutC x sx)) x.lo x.wi x.ps n) : shE s su = shE x sx ∧ shN s su = shN x sx := by
 rcases shE_cases hg su with h1 | h1
 · obtain ⟨h2, h3⟩ := sh_mono hg hx (fun n => (h n).1) h1
   obtain ⟨h4, h5⟩ := sh_mono hx hg (fun n => (h n).2) h2
   exact ⟨by omega, by omega⟩
 · rcases shE_cases hx sx with h2 | h2
   · obtain ⟨h4, h5⟩ := sh_mono hx hg (fun n => (h n).2) h2
     omega
   · refine ⟨by omega, ?_⟩
     unfold shN
     rw [if_neg (by omega), if_neg (by omega)]
def turnP (p : Pt) : Pt := ⟨p.w, p.l, p.gr, p.pa⟩
def trnS (s : Sk) : Sk := ⟨s.wi, s.lo, s.c0, s.c1, s.a0, s.a1, s.ps.map turnP⟩
theorem trn_trn (s : Sk) : trnS (trnS s) = s := by
 cases s
 simp only [trnS, List.map_map, Sk.mk.injEq, true_and]
 exact List.map_id' _
theorem trn_good {s : Sk} (hg : s.good) : (trnS s).good :=
 ⟨hg.wi, hg.lo, hg.c, hg.a, by simp only [trnS, List.length_map]; exact hg.len, fun q hq => by
   obtain ⟨p, hp, rfl⟩ := List.mem_map.1 hq
   have := hg.ps p hp
   exact ⟨this.w, this.l, this.pa⟩⟩
theorem fit_turn {a c lo wi : Int} {p : Pt} (h : Fit a c p lo wi) : Fit c a (turnP p) wi lo := by
 obtain ⟨t, h⟩ := h
 refine ⟨t, ?_⟩
 simp only [fitsT, Bool.and_eq_true, decide_eq_true_eq, sizeL, sizeW, turnP] at h ⊢
 obtain ⟨⟨f1, f2⟩, f3⟩ := h
 exact ⟨⟨f2, f1⟩, f3⟩
theorem cut_turn {a c lo wi : Int} {xs : List Pt} (h : Cut (Fit a c) xs lo wi) : Cut (Fit c a) (xs.map turnP) wi lo := h.turn turnP fun p _ lo wi hf => fit_turn hf
theorem col_turn {a c lo wi : Int} {ps : List Pt} {n : Nat} (h : ColP (Fit a c) lo wi ps n) : ColP (Fit c a) wi lo (ps.map turnP) n :=
 ColP.map turnP (fun p _ q _ h1 h2 => ⟨h1, h2⟩) (fun xs _ hc => cut_turn hc) h
theorem turn_law {s : Sk} (hg : s.good) (su : Bool) : shE s su = shE (trnS s) su ∧ shN s su = shN (trnS s) su :=
 sh_eq hg (trn_good hg) fun n => ⟨fun h => col_turn h, fun h => by
   have h2 := col_turn h
   have e : (trnS s).ps.map turnP = s.ps := by simp only [trnS, List.map_map]; exact List.map_id' _
   rw [e] at h2
   exact h2⟩
theorem turn_can {s : Sk} {su : Bool} {L : List Pt} : canS s su L = canS (trnS s) su (L.map turnP) := by
 rw [Bool.eq_iff_iff, canS_iff, canS_iff]
 refine ⟨fun h => cut_turn h, fun h => ?_⟩
 have h2 := cut_turn h
 have e : (L.map turnP).map turnP = L := by rw [List.map_map]; exact List.map_id' _
 rw [e] at h2
 exact h2
theorem gP_turn {s : Sk} {g : List Int} (h : ∀ x ∈ g, 0 ≤ x ∧ x < s.ps.length) : gP (trnS s) g = (gP s g).map turnP := by
 unfold gP
 rw [List.map_map]
 refine List.map_congr_left fun x hx => ?_
 obtain ⟨h1, h2⟩ := h x hx
 have hk : x.toNat < s.ps.length := by omega
 simp only [trnS, Function.comp_def, List.getD_eq_getElem?_getD, List.getElem?_map, List.getElem?_eq_getElem hk, Option.map_some, Option.getD_some]
theorem areaP_turn (a c : Int) (p : Pt) : areaP c a (turnP p) = areaP a c p := by
 have e1 : ∀ t, sizeL c a (turnP p) t = sizeW a c p t := fun t => by cases t <;> rfl
 have e2 : ∀ t, sizeW c a (turnP p) t = sizeL a c p t := fun t => by cases t <;> rfl
 unfold areaP
 simp only [e1, e2]
 rw [Int.mul_comm (sizeW a c p false), Int.mul_comm (sizeW a c p true)]
 rfl
theorem areas_turn (a c : Int) : ∀ l : List Pt, areasP c a (l.map turnP) = areasP a c l
 | [] => rfl
 | p :: l => by rw [List.map_cons, areasP, areasP, areaP_turn, areas_turn a c l]
theorem fit_turn_law {s : Sk} {g : List Int} (hg : s.good) (h : ∀ x ∈ g, 0 ≤ x ∧ x < s.ps.length) (hn : g.Nodup) : lstE s g = 0 ∧ lstE (trnS s) g = 0 ∧ fitV s g = fitV (trnS s) g := by
 have h1 : lstE s g = 0 := lstE_iff.2 ⟨hg, h, hn⟩
 have h2 : lstE (trnS s) g = 0 := lstE_iff.2 ⟨trn_good hg, by simpa only [trnS, List.length_map] using h, hn⟩
 refine ⟨h1, h2, ?_⟩
 unfold fitV
 rw [if_neg (show ¬ lstE s g ≠ 0 by omega), if_neg (show ¬ lstE (trnS s) g ≠ 0 by omega), gP_turn h, ← turn_can, ← turn_can]
theorem scr_turn_law {s : Sk} (hg : s.good) (su : Bool) : scrV s su = scrV (trnS s) su := by
 obtain ⟨h1, h2⟩ := turn_law hg su
 unfold scrV
 rw [← h1, ← h2]
 split
 · rfl
 · have e : areasS (trnS s) su = areasS s su := areas_turn (cutA s su) (cutC s su) s.ps
   rw [e]
   show _ = (shN s su : Int) * s.wi * s.lo - _
   rw [Int.mul_assoc, Int.mul_comm s.lo, ← Int.mul_assoc]
end Go.Proofs.YtehpcclfgjccbaaDoor
end

section
/-
 kit: copies of stocks, stocks that are equal.
-/
namespace Go.Proofs.YtehpcclfgjccbaaDoor
set_option linter.unusedSimpArgs false
set_option linter.unusedVariables false
open Go.RowKit
theorem eqT23 {x y : Operand} {a0 a1 b0 b1 : Int} {w : World} : (do eqGuard .eql 23 x y (.agg #[.int .i64 a0, .int .i64 a1]) (.agg #[.int .i64 b0, .int .i64 b1]); binOp .eql 23 (.agg #[.int .i64 a0, .int .i64 a1]) (.agg #[.int .i64 b0, .int .i64 b1]) : Sem Value).run Tryd.prog w = .ok (.bool ((decide (a0 = b0) && decide (a1 = b1)))) w := by
 go_simp
 (repeat' split) <;> simp_all
theorem eqT63 {x y : Operand} {a0 a1 a3 b0 b1 b3 : Int} {a2 b2 : Bool} {w : World} : (do eqGuard .eql 63 x y (.agg #[.int .i64 a0, .int .i64 a1, .bool a2, .int .i64 a3]) (.agg #[.int .i64 b0, .int .i64 b1, .bool b2, .int .i64 b3]); binOp .eql 63 (.agg #[.int .i64 a0, .int .i64 a1, .bool a2, .int .i64 a3]) (.agg #[.int .i64 b0, .int .i64 b1, .bool b2, .int .i64 b3]) : Sem Value).run Tryd.prog w = .ok (.bool (decide (a0 = b0) && (decide (a1 = b1) && (decide (a2 = b2) && decide (a3 = b3))))) w := by
 go_simp
 (repeat' split) <;> simp_all
def CopySkPost (s : Sk) (w : World) (e : Ending) (w' : World) : Prop := ∃ A c I, e = .returned (.agg #[.int .i64 s.lo, .int .i64 s.wi, .int .i64 s.a0, .int .i64 s.a1, .int .i64 s.c0, .int .i64 s.c1, .slice A s.ps.length c]) ∧ Cl 63 4 A s.ps.length c (pc s.ps) I ∧ Mem w noEx w' I
def eqF (s t : Sk) : Prop := s.lo = t.lo ∧ s.wi = t.wi ∧ (s.a0 = t.a0 ∧ s.a1 = t.a1) ∧ (s.c0 = t.c0 ∧ s.c1 = t.c1) ∧ s.ps.length = t.ps.length
theorem sameSheets_any (s : Sk) (A : Option Addr) (c : Nat) (t : Sk) (B : Option Addr) (d : Nat)  (w : World) (hA : Rd w w.heap.size 4 A s.ps.length (pc s.ps)) (hB : Rd w w.heap.size 4 B t.ps.length (pc t.ps)) (nA : s.ps.length ≤ 1000000) (nB : t.ps.length ≤ 1000000) :
   Calls Tryd.prog 29 #[.agg #[.int .i64 s.lo, .int .i64 s.wi, .int .i64 s.a0, .int .i64 s.a1, .int .i64 s.c0, .int .i64 s.c1, .slice A s.ps.length c], .agg #[.int .i64 t.lo, .int .i64 t.wi, .int .i64 t.a0, .int .i64 t.a1, .int .i64 t.c0, .int .i64 t.c1, .slice B t.ps.length d]] w fun e w' => e = .returned (.bool (decide (s = t))) ∧ Below w.heap.size w w' := by
 obtain ⟨bA, oA, SA⟩ := Sp.old hA
 obtain ⟨bB, oB, SB⟩ := Sp.old hB
 refine px_enter noEx Tryd.func29 rfl 64 rfl [.agg #[.int .i64 s.lo, .int .i64 s.wi, .int .i64 s.a0, .int .i64 s.a1, .int .i64 s.c0, .int .i64 s.c1, .slice A s.ps.length c], .agg #[.int .i64 t.lo, .int .i64 t.wi, .int .i64 t.a0, .int .i64 t.a1, .int .i64 t.c0, .int .i64 t.c1, .slice B t.ps.length d]] rfl rfl (Mem.init w _) ?_
 intro ac wc T M
 refine wp_seq ?_
 refine wp_region_lit ?_
 refine l_w rfl ?_; intro K hK
 refine ow_bx M T rfl rfl rfl rfl (T.ev 0 rfl) rfl ?_; clear M T; intro g1 wc ac M T
 refine sh_out hK _ _ ?_; clear hK K
 refine l_w rfl ?_; intro K hK
 refine ow_bx M T rfl rfl rfl rfl (T.ev 2 rfl) rfl ?_; clear M T; intro g2 wc ac M T
 refine sh_out hK _ _ ?_; clear hK K
 refine lq T (rn_assign rfl evc) ?_; clear T ac; intro ac T
 refine wpList_nil ?_
 replace T := T.pick [1, 2] rfl
 refine nm_then ?_
 refine cut_seq (fun ac wc => Tm ac 64 [(2, .pointer (some ⟨g1, 0, none⟩)), (3, .pointer (some ⟨g2, 0, none⟩)), (5, .bool ((decide (s.lo = t.lo)) && ((decide (s.wi = t.wi)) && (((decide (s.a0 = t.a0)) && (decide (s.a1 = t.a1))) && (((decide (s.c0 = t.c0)) && (decide (s.c1 = t.c1))) && (decide (((s.ps.length : Nat) : Int) = ((t.ps.length : Nat) : Int))))))))] ∧ Mem w noEx wc [(g2, .cells [.int .i64 t.lo, .int .i64 t.wi, .int .i64 t.a0, .int .i64 t.a1, .int .i64 t.c0, .int .i64 t.c1, .slice B t.ps.length d]), (g1, .cells [.int .i64 s.lo, .int .i64 s.wi, .int .i64 s.a0, .int .i64 s.a1, .int .i64 s.c0, .int .i64 s.c1, .slice A s.ps.length c])]) ?_ ?_
 ·refine wp_region_lit ?_
  refine lq (v := (.pointer (some ⟨g1, 0, none⟩))) T (rn_fieldAddr (off := 0) rfl (T.ev 1 rfl) (fun _ _ _ => by kernel_rfl)) ?_; clear T ac; intro ac T
  refine lq T (rn_one (Mem.nth M 1 rfl) rfl (T.ev 0 rfl) rfl) ?_; clear T ac; intro ac T
  refine lq (v := (.pointer (some ⟨g2, 0, none⟩))) T (rn_fieldAddr (off := 0) rfl (T.ev 2 rfl) (fun _ _ _ => by kernel_rfl)) ?_; clear T ac; intro ac T
  refine lq T (rn_one (Mem.nth M 0 rfl) rfl (T.ev 0 rfl) rfl) ?_; clear T ac; intro ac T
  refine lq T (rn_eql rfl (T.ev 2 rfl) (T.ev 0 rfl)) ?_; clear T ac; intro ac T
  refine lq T (rn_move rfl (T.ev 0 rfl)) ?_; clear T ac; intro ac T
  rcases Bool.eq_false_or_eq_true (decide (s.lo = t.lo)) with h1 | h1
  ·replace h1 := of_decide_eq_true h1
   refine lw (v := (.pointer (some ⟨g1, 1, none⟩))) T (wanted_yes rfl rfl (T.ev 0 rfl) (decide_eq_true h1)) (rn_fieldAddr (off := 1) rfl (T.ev 7 rfl) (fun _ _ _ => by kernel_rfl)) ?_; clear T ac; intro ac T
   refine lw T (wanted_yes rfl rfl (T.ev 1 rfl) (decide_eq_true h1)) (rn_one (Mem.nth M 1 rfl) rfl (T.ev 0 rfl) rfl) ?_; clear T ac; intro ac T
   refine lw (v := (.pointer (some ⟨g2, 1, none⟩))) T (wanted_yes rfl rfl (T.ev 2 rfl) (decide_eq_true h1)) (rn_fieldAddr (off := 1) rfl (T.ev 8 rfl) (fun _ _ _ => by kernel_rfl)) ?_; clear T ac; intro ac T
   refine lw T (wanted_yes rfl rfl (T.ev 3 rfl) (decide_eq_true h1)) (rn_one (Mem.nth M 0 rfl) rfl (T.ev 0 rfl) rfl) ?_; clear T ac; intro ac T
   refine lw T (wanted_yes rfl rfl (T.ev 4 rfl) (decide_eq_true h1)) (rn_eql rfl (T.ev 2 rfl) (T.ev 0 rfl)) ?_; clear T ac; intro ac T
   refine lq T (rn_pick1 rfl (T.ev 5 rfl) (decide_eq_true h1) (T.ev 0 rfl)) ?_; clear T ac; intro ac T
   refine lq T (rn_move rfl (T.ev 0 rfl)) ?_; clear T ac; intro ac T
   rcases Bool.eq_false_or_eq_true (decide (s.wi = t.wi)) with h2 | h2
   ·replace h2 := of_decide_eq_true h2
    refine lw (v := (.pointer (some ⟨g1, 2, none⟩))) T (wanted_yes rfl rfl (T.ev 0 rfl) (decide_eq_true h2)) (rn_fieldAddr (off := 2) rfl (T.ev 14 rfl) (fun _ _ _ => by kernel_rfl)) ?_; clear T ac; intro ac T
    refine lw T (wanted_yes rfl rfl (T.ev 1 rfl) (decide_eq_true h2)) (rn_rowO (Mem.nth M 1 rfl) rfl (T.ev 0 rfl) rfl) ?_; clear T ac; intro ac T
    refine lw (v := (.pointer (some ⟨g2, 2, none⟩))) T (wanted_yes rfl rfl (T.ev 2 rfl) (decide_eq_true h2)) (rn_fieldAddr (off := 2) rfl (T.ev 15 rfl) (fun _ _ _ => by kernel_rfl)) ?_; clear T ac; intro ac T
    refine lw T (wanted_yes rfl rfl (T.ev 3 rfl) (decide_eq_true h2)) (rn_rowO (Mem.nth M 0 rfl) rfl (T.ev 0 rfl) rfl) ?_; clear T ac; intro ac T
    refine lw (v := (.bool ((decide (s.a0 = t.a0)) && (decide (s.a1 = t.a1))))) T (wanted_yes rfl rfl (T.ev 4 rfl) (decide_eq_true h2)) (rn_bin rfl (T.ev 2 rfl) (T.ev 0 rfl) eqT23) ?_; clear T ac; intro ac T
    refine lq T (rn_pick1 rfl (T.ev 5 rfl) (decide_eq_true h2) (T.ev 0 rfl)) ?_; clear T ac; intro ac T
    refine lq T (rn_move rfl (T.ev 0 rfl)) ?_; clear T ac; intro ac T
    rcases Bool.eq_false_or_eq_true ((decide (s.a0 = t.a0)) && (decide (s.a1 = t.a1))) with h3 | h3
    ·refine lw (v := (.pointer (some ⟨g1, 4, none⟩))) T (wanted_yes rfl rfl (T.ev 0 rfl) h3) (rn_fieldAddr (off := 4) rfl (T.ev 21 rfl) (fun _ _ _ => by kernel_rfl)) ?_; clear T ac; intro ac T
     refine lw T (wanted_yes rfl rfl (T.ev 1 rfl) h3) (rn_rowO (Mem.nth M 1 rfl) rfl (T.ev 0 rfl) rfl) ?_; clear T ac; intro ac T
     refine lw (v := (.pointer (some ⟨g2, 4, none⟩))) T (wanted_yes rfl rfl (T.ev 2 rfl) h3) (rn_fieldAddr (off := 4) rfl (T.ev 22 rfl) (fun _ _ _ => by kernel_rfl)) ?_; clear T ac; intro ac T
     refine lw T (wanted_yes rfl rfl (T.ev 3 rfl) h3) (rn_rowO (Mem.nth M 0 rfl) rfl (T.ev 0 rfl) rfl) ?_; clear T ac; intro ac T
     refine lw (v := (.bool ((decide (s.c0 = t.c0)) && (decide (s.c1 = t.c1))))) T (wanted_yes rfl rfl (T.ev 4 rfl) h3) (rn_bin rfl (T.ev 2 rfl) (T.ev 0 rfl) eqT23) ?_; clear T ac; intro ac T
     refine lq T (rn_pick1 rfl (T.ev 5 rfl) h3 (T.ev 0 rfl)) ?_; clear T ac; intro ac T
     refine lq T (rn_move rfl (T.ev 0 rfl)) ?_; clear T ac; intro ac T
     rcases Bool.eq_false_or_eq_true ((decide (s.c0 = t.c0)) && (decide (s.c1 = t.c1))) with h4 | h4
     ·refine lw (v := (.pointer (some ⟨g1, 6, none⟩))) T (wanted_yes rfl rfl (T.ev 0 rfl) h4) (rn_fieldAddr (off := 6) rfl (T.ev 28 rfl) (fun _ _ _ => by kernel_rfl)) ?_; clear T ac; intro ac T
      refine lw T (wanted_yes rfl rfl (T.ev 1 rfl) h4) (rn_one (Mem.nth M 1 rfl) rfl (T.ev 0 rfl) rfl) ?_; clear T ac; intro ac T
      refine lw T (wanted_yes rfl rfl (T.ev 2 rfl) h4) (rn_lenS rfl Tryd.underlying24 (T.ev 0 rfl)) ?_; clear T ac; intro ac T
      refine lw (v := (.pointer (some ⟨g2, 6, none⟩))) T (wanted_yes rfl rfl (T.ev 3 rfl) h4) (rn_fieldAddr (off := 6) rfl (T.ev 30 rfl) (fun _ _ _ => by kernel_rfl)) ?_; clear T ac; intro ac T
      refine lw T (wanted_yes rfl rfl (T.ev 4 rfl) h4) (rn_one (Mem.nth M 0 rfl) rfl (T.ev 0 rfl) rfl) ?_; clear T ac; intro ac T
      refine lw T (wanted_yes rfl rfl (T.ev 5 rfl) h4) (rn_lenS rfl Tryd.underlying24 (T.ev 0 rfl)) ?_; clear T ac; intro ac T
      refine lw T (wanted_yes rfl rfl (T.ev 6 rfl) h4) (rn_eql rfl (T.ev 3 rfl) (T.ev 0 rfl)) ?_; clear T ac; intro ac T
      refine lq T (rn_pick1 rfl (T.ev 7 rfl) h4 (T.ev 0 rfl)) ?_; clear T ac; intro ac T
      refine lq T (rn_assign rfl (T.ev 0 rfl)) ?_; clear T ac; intro ac T
      refine wpList_nil ?_
      replace T := T.pick [0, 36, 37] rfl
      exact ⟨(T.pick (E' := [(2, .pointer (some ⟨g1, 0, none⟩)), (3, .pointer (some ⟨g2, 0, none⟩)), (5, .bool (decide (((s.ps.length : Nat) : Int) = ((t.ps.length : Nat) : Int))))]) [2, 1, 0] rfl).as (by (try rw [show (decide (s.lo = t.lo)) = true from (decide_eq_true h1)]); (try rw [show (decide (s.wi = t.wi)) = true from (decide_eq_true h2)]); (try rw [show ((decide (s.a0 = t.a0)) && (decide (s.a1 = t.a1))) = true from h3]); (try rw [show ((decide (s.c0 = t.c0)) && (decide (s.c1 = t.c1))) = true from h4]); (try rfl)), M.mask [true, true] rfl⟩
     refine lp T (wanted_no rfl rfl (T.ev 0 rfl) h4) ?_; clear T ac; intro ac T
     refine lp T (wanted_no rfl rfl (T.ev 1 rfl) h4) ?_; clear T ac; intro ac T
     refine lp T (wanted_no rfl rfl (T.ev 2 rfl) h4) ?_; clear T ac; intro ac T
     refine lp T (wanted_no rfl rfl (T.ev 3 rfl) h4) ?_; clear T ac; intro ac T
     refine lp T (wanted_no rfl rfl (T.ev 4 rfl) h4) ?_; clear T ac; intro ac T
     refine lp T (wanted_no rfl rfl (T.ev 5 rfl) h4) ?_; clear T ac; intro ac T
     refine lp T (wanted_no rfl rfl (T.ev 6 rfl) h4) ?_; clear T ac; intro ac T
     refine lq T (rn_pick0 rfl (T.ev 7 rfl) h4 evc) ?_; clear T ac; intro ac T
     refine lq T (rn_assign rfl (T.ev 0 rfl)) ?_; clear T ac; intro ac T
     refine wpList_nil ?_
     replace T := T.pick [0, 36, 37] rfl
     exact ⟨(T.pick (E' := [(2, .pointer (some ⟨g1, 0, none⟩)), (3, .pointer (some ⟨g2, 0, none⟩)), (5, .bool false)]) [2, 1, 0] rfl).as (by (try rw [show (decide (s.lo = t.lo)) = true from (decide_eq_true h1)]); (try rw [show (decide (s.wi = t.wi)) = true from (decide_eq_true h2)]); (try rw [show ((decide (s.a0 = t.a0)) && (decide (s.a1 = t.a1))) = true from h3]); (try rw [show ((decide (s.c0 = t.c0)) && (decide (s.c1 = t.c1))) = false from h4]); (try rfl)), M.mask [true, true] rfl⟩
    refine lp T (wanted_no rfl rfl (T.ev 0 rfl) h3) ?_; clear T ac; intro ac T
    refine lp T (wanted_no rfl rfl (T.ev 1 rfl) h3) ?_; clear T ac; intro ac T
    refine lp T (wanted_no rfl rfl (T.ev 2 rfl) h3) ?_; clear T ac; intro ac T
    refine lp T (wanted_no rfl rfl (T.ev 3 rfl) h3) ?_; clear T ac; intro ac T
    refine lp T (wanted_no rfl rfl (T.ev 4 rfl) h3) ?_; clear T ac; intro ac T
    refine lq T (rn_pick0 rfl (T.ev 5 rfl) h3 evc) ?_; clear T ac; intro ac T
    refine lq T (rn_move rfl (T.ev 0 rfl)) ?_; clear T ac; intro ac T
    refine lp T (wanted_no rfl rfl (T.ev 0 rfl) rfl) ?_; clear T ac; intro ac T
    refine lp T (wanted_no rfl rfl (T.ev 1 rfl) rfl) ?_; clear T ac; intro ac T
    refine lp T (wanted_no rfl rfl (T.ev 2 rfl) rfl) ?_; clear T ac; intro ac T
    refine lp T (wanted_no rfl rfl (T.ev 3 rfl) rfl) ?_; clear T ac; intro ac T
    refine lp T (wanted_no rfl rfl (T.ev 4 rfl) rfl) ?_; clear T ac; intro ac T
    refine lp T (wanted_no rfl rfl (T.ev 5 rfl) rfl) ?_; clear T ac; intro ac T
    refine lp T (wanted_no rfl rfl (T.ev 6 rfl) rfl) ?_; clear T ac; intro ac T
    refine lq T (rn_pick0 rfl (T.ev 7 rfl) rfl evc) ?_; clear T ac; intro ac T
    refine lq T (rn_assign rfl (T.ev 0 rfl)) ?_; clear T ac; intro ac T
    refine wpList_nil ?_
    replace T := T.pick [0, 36, 37] rfl
    exact ⟨(T.pick (E' := [(2, .pointer (some ⟨g1, 0, none⟩)), (3, .pointer (some ⟨g2, 0, none⟩)), (5, .bool false)]) [2, 1, 0] rfl).as (by (try rw [show (decide (s.lo = t.lo)) = true from (decide_eq_true h1)]); (try rw [show (decide (s.wi = t.wi)) = true from (decide_eq_true h2)]); (try rw [show ((decide (s.a0 = t.a0)) && (decide (s.a1 = t.a1))) = false from h3]); (try rfl)), M.mask [true, true] rfl⟩
   replace h2 := of_decide_eq_false h2
   refine lp T (wanted_no rfl rfl (T.ev 0 rfl) (decide_eq_false h2)) ?_; clear T ac; intro ac T
   refine lp T (wanted_no rfl rfl (T.ev 1 rfl) (decide_eq_false h2)) ?_; clear T ac; intro ac T
   refine lp T (wanted_no rfl rfl (T.ev 2 rfl) (decide_eq_false h2)) ?_; clear T ac; intro ac T
   refine lp T (wanted_no rfl rfl (T.ev 3 rfl) (decide_eq_false h2)) ?_; clear T ac; intro ac T
   refine lp T (wanted_no rfl rfl (T.ev 4 rfl) (decide_eq_false h2)) ?_; clear T ac; intro ac T
   refine lq T (rn_pick0 rfl (T.ev 5 rfl) (decide_eq_false h2) evc) ?_; clear T ac; intro ac T
   refine lq T (rn_move rfl (T.ev 0 rfl)) ?_; clear T ac; intro ac T
   refine lp T (wanted_no rfl rfl (T.ev 0 rfl) rfl) ?_; clear T ac; intro ac T
   refine lp T (wanted_no rfl rfl (T.ev 1 rfl) rfl) ?_; clear T ac; intro ac T
   refine lp T (wanted_no rfl rfl (T.ev 2 rfl) rfl) ?_; clear T ac; intro ac T
   refine lp T (wanted_no rfl rfl (T.ev 3 rfl) rfl) ?_; clear T ac; intro ac T
   refine lp T (wanted_no rfl rfl (T.ev 4 rfl) rfl) ?_; clear T ac; intro ac T
   refine lq T (rn_pick0 rfl (T.ev 5 rfl) rfl evc) ?_; clear T ac; intro ac T
   refine lq T (rn_move rfl (T.ev 0 rfl)) ?_; clear T ac; intro ac T
   refine lp T (wanted_no rfl rfl (T.ev 0 rfl) rfl) ?_; clear T ac; intro ac T
   refine lp T (wanted_no rfl rfl (T.ev 1 rfl) rfl) ?_; clear T ac; intro ac T
   refine lp T (wanted_no rfl rfl (T.ev 2 rfl) rfl) ?_; clear T ac; intro ac T
   refine lp T (wanted_no rfl rfl (T.ev 3 rfl) rfl) ?_; clear T ac; intro ac T
   refine lp T (wanted_no rfl rfl (T.ev 4 rfl) rfl) ?_; clear T ac; intro ac T
   refine lp T (wanted_no rfl rfl (T.ev 5 rfl) rfl) ?_; clear T ac; intro ac T
   refine lp T (wanted_no rfl rfl (T.ev 6 rfl) rfl) ?_; clear T ac; intro ac T
   refine lq T (rn_pick0 rfl (T.ev 7 rfl) rfl evc) ?_; clear T ac; intro ac T
   refine lq T (rn_assign rfl (T.ev 0 rfl)) ?_; clear T ac; intro ac T
   refine wpList_nil ?_
   replace T := T.pick [0, 36, 37] rfl
   exact ⟨(T.pick (E' := [(2, .pointer (some ⟨g1, 0, none⟩)), (3, .pointer (some ⟨g2, 0, none⟩)), (5, .bool false)]) [2, 1, 0] rfl).as (by (try rw [show (decide (s.lo = t.lo)) = true from (decide_eq_true h1)]); (try rw [show (decide (s.wi = t.wi)) = false from (decide_eq_false h2)]); (try rfl)), M.mask [true, true] rfl⟩
  replace h1 := of_decide_eq_false h1
  refine lp T (wanted_no rfl rfl (T.ev 0 rfl) (decide_eq_false h1)) ?_; clear T ac; intro ac T
  refine lp T (wanted_no rfl rfl (T.ev 1 rfl) (decide_eq_false h1)) ?_; clear T ac; intro ac T
  refine lp T (wanted_no rfl rfl (T.ev 2 rfl) (decide_eq_false h1)) ?_; clear T ac; intro ac T
  refine lp T (wanted_no rfl rfl (T.ev 3 rfl) (decide_eq_false h1)) ?_; clear T ac; intro ac T
  refine lp T (wanted_no rfl rfl (T.ev 4 rfl) (decide_eq_false h1)) ?_; clear T ac; intro ac T
  refine lq T (rn_pick0 rfl (T.ev 5 rfl) (decide_eq_false h1) evc) ?_; clear T ac; intro ac T
  refine lq T (rn_move rfl (T.ev 0 rfl)) ?_; clear T ac; intro ac T
  refine lp T (wanted_no rfl rfl (T.ev 0 rfl) rfl) ?_; clear T ac; intro ac T
  refine lp T (wanted_no rfl rfl (T.ev 1 rfl) rfl) ?_; clear T ac; intro ac T
  refine lp T (wanted_no rfl rfl (T.ev 2 rfl) rfl) ?_; clear T ac; intro ac T
  refine lp T (wanted_no rfl rfl (T.ev 3 rfl) rfl) ?_; clear T ac; intro ac T
  refine lp T (wanted_no rfl rfl (T.ev 4 rfl) rfl) ?_; clear T ac; intro ac T
  refine lq T (rn_pick0 rfl (T.ev 5 rfl) rfl evc) ?_; clear T ac; intro ac T
  refine lq T (rn_move rfl (T.ev 0 rfl)) ?_; clear T ac; intro ac T
  refine lp T (wanted_no rfl rfl (T.ev 0 rfl) rfl) ?_; clear T ac; intro ac T
  refine lp T (wanted_no rfl rfl (T.ev 1 rfl) rfl) ?_; clear T ac; intro ac T
  refine lp T (wanted_no rfl rfl (T.ev 2 rfl) rfl) ?_; clear T ac; intro ac T
  refine lp T (wanted_no rfl rfl (T.ev 3 rfl) rfl) ?_; clear T ac; intro ac T
  refine lp T (wanted_no rfl rfl (T.ev 4 rfl) rfl) ?_; clear T ac; intro ac T
  refine lq T (rn_pick0 rfl (T.ev 5 rfl) rfl evc) ?_; clear T ac; intro ac T
  refine lq T (rn_move rfl (T.ev 0 rfl)) ?_; clear T ac; intro ac T
  refine lp T (wanted_no rfl rfl (T.ev 0 rfl) rfl) ?_; clear T ac; intro ac T
  refine lp T (wanted_no rfl rfl (T.ev 1 rfl) rfl) ?_; clear T ac; intro ac T
  refine lp T (wanted_no rfl rfl (T.ev 2 rfl) rfl) ?_; clear T ac; intro ac T
  refine lp T (wanted_no rfl rfl (T.ev 3 rfl) rfl) ?_; clear T ac; intro ac T
  refine lp T (wanted_no rfl rfl (T.ev 4 rfl) rfl) ?_; clear T ac; intro ac T
  refine lp T (wanted_no rfl rfl (T.ev 5 rfl) rfl) ?_; clear T ac; intro ac T
  refine lp T (wanted_no rfl rfl (T.ev 6 rfl) rfl) ?_; clear T ac; intro ac T
  refine lq T (rn_pick0 rfl (T.ev 7 rfl) rfl evc) ?_; clear T ac; intro ac T
  refine lq T (rn_assign rfl (T.ev 0 rfl)) ?_; clear T ac; intro ac T
  refine wpList_nil ?_
  replace T := T.pick [0, 36, 37] rfl
  exact ⟨(T.pick (E' := [(2, .pointer (some ⟨g1, 0, none⟩)), (3, .pointer (some ⟨g2, 0, none⟩)), (5, .bool false)]) [2, 1, 0] rfl).as (by (try rw [show (decide (s.lo = t.lo)) = false from (decide_eq_false h1)]); (try rfl)), M.mask [true, true] rfl⟩
 clear T M
 rintro ac wc ⟨T, M⟩
 refine wp_seq ?_
 refine wp_seq ?_
 refine wp_region_lit ?_
 refine lq T (rn_assign rfl evc) ?_; clear T ac; intro ac T
 refine wpList_nil ?_
 refine nm_then ?_
 refine wp_block ?_
 refine wp_loop_n (fun mz ac wc => ∃ (i : Nat) (sm : Bool), mz = s.ps.length - i ∧ (i ≤ s.ps.length) ∧ (sm = true ↔ eqF s t ∧ s.ps.take i = t.ps.take i) ∧ Tm ac 64 [(2, .pointer (some ⟨g1, 0, none⟩)), (3, .pointer (some ⟨g2, 0, none⟩)), (5, .bool sm), (6, .int .i64 (i : Int))] ∧ Mem w noEx wc [(g2, .cells [.int .i64 t.lo, .int .i64 t.wi, .int .i64 t.a0, .int .i64 t.a1, .int .i64 t.c0, .int .i64 t.c1, .slice B t.ps.length d]), (g1, .cells [.int .i64 s.lo, .int .i64 s.wi, .int .i64 s.a0, .int .i64 s.a1, .int .i64 s.c0, .int .i64 s.c1, .slice A s.ps.length c])]) ?_ ?_
 ·exact ⟨_, 0, _, rfl, (Nat.zero_le _), (by unfold eqF; simp [and_assoc, Int.natCast_inj]), T.pick [1, 2, 3, 0] rfl, M.mask [true, true] rfl⟩
 clear T M
 rintro mz ac wc ⟨i, sm, hmm1, hi, hs, T, M⟩
 refine wp_seq ?_
 refine cut_seq (fun ac wc => Tm ac 64 [(2, .pointer (some ⟨g1, 0, none⟩)), (3, .pointer (some ⟨g2, 0, none⟩)), (5, .bool sm), (6, .int .i64 (i : Int)), (49, .bool (sm && (decide ((i : Int) < ((s.ps.length : Nat) : Int)))))] ∧ Mem w noEx wc [(g2, .cells [.int .i64 t.lo, .int .i64 t.wi, .int .i64 t.a0, .int .i64 t.a1, .int .i64 t.c0, .int .i64 t.c1, .slice B t.ps.length d]), (g1, .cells [.int .i64 s.lo, .int .i64 s.wi, .int .i64 s.a0, .int .i64 s.a1, .int .i64 s.c0, .int .i64 s.c1, .slice A s.ps.length c])]) ?_ ?_
 ·refine wp_region_lit ?_
  refine lq T (rn_move rfl (T.ev 2 rfl)) ?_; clear T ac; intro ac T
  refine lq T (rn_move rfl (T.ev 0 rfl)) ?_; clear T ac; intro ac T
  rcases Bool.eq_false_or_eq_true sm with h5 | h5
  ·refine lw T (wanted_yes rfl rfl (T.ev 0 rfl) h5) (rn_move rfl (T.ev 5 rfl)) ?_; clear T ac; intro ac T
   refine lw (v := (.pointer (some ⟨g1, 6, none⟩))) T (wanted_yes rfl rfl (T.ev 1 rfl) h5) (rn_fieldAddr (off := 6) rfl (T.ev 3 rfl) (fun _ _ _ => by kernel_rfl)) ?_; clear T ac; intro ac T
   refine lw T (wanted_yes rfl rfl (T.ev 2 rfl) h5) (rn_one (Mem.nth M 1 rfl) rfl (T.ev 0 rfl) rfl) ?_; clear T ac; intro ac T
   refine lw T (wanted_yes rfl rfl (T.ev 3 rfl) h5) (rn_lenS rfl Tryd.underlying24 (T.ev 0 rfl)) ?_; clear T ac; intro ac T
   refine lw T (wanted_yes rfl rfl (T.ev 4 rfl) h5) (rn_lss rfl (T.ev 3 rfl) (T.ev 0 rfl)) ?_; clear T ac; intro ac T
   refine lq T (rn_pick1 rfl (T.ev 5 rfl) h5 (T.ev 0 rfl)) ?_; clear T ac; intro ac T
   refine wpList_nil ?_
   replace T := T.pick [0, 1, 2, 3, 4, 5, 8, 9, 10, 11] rfl
   exact ⟨(T.pick (E' := [(2, .pointer (some ⟨g1, 0, none⟩)), (3, .pointer (some ⟨g2, 0, none⟩)), (5, .bool sm), (6, .int .i64 (i : Int)), (49, .bool (decide ((i : Int) < ((s.ps.length : Nat) : Int))))]) [6, 7, 8, 9, 0] rfl).as (by (try rw [show sm = true from h5]); (try rfl)), M.mask [true, true] rfl⟩
  refine lp T (wanted_no rfl rfl (T.ev 0 rfl) h5) ?_; clear T ac; intro ac T
  refine lp T (wanted_no rfl rfl (T.ev 1 rfl) h5) ?_; clear T ac; intro ac T
  refine lp T (wanted_no rfl rfl (T.ev 2 rfl) h5) ?_; clear T ac; intro ac T
  refine lp T (wanted_no rfl rfl (T.ev 3 rfl) h5) ?_; clear T ac; intro ac T
  refine lp T (wanted_no rfl rfl (T.ev 4 rfl) h5) ?_; clear T ac; intro ac T
  refine lq T (rn_pick0 rfl (T.ev 5 rfl) h5 evc) ?_; clear T ac; intro ac T
  refine wpList_nil ?_
  replace T := T.pick [0, 1, 2, 3, 4, 5, 8, 9, 10, 11] rfl
  exact ⟨(T.pick (E' := [(2, .pointer (some ⟨g1, 0, none⟩)), (3, .pointer (some ⟨g2, 0, none⟩)), (5, .bool sm), (6, .int .i64 (i : Int)), (49, .bool false)]) [6, 7, 8, 9, 0] rfl).as (by (try rw [show sm = false from h5]); (try rfl)), M.mask [true, true] rfl⟩
 clear T M
 rintro ac wc ⟨T, M⟩
 refine wp_cond_split (T.ev 4 rfl) ?_ ?_
 ·intro h6
  (try have h6' := h6; try simp only [Bool.and_eq_true, Bool.or_eq_true, Bool.not_eq_true', Bool.and_eq_false_imp, Bool.or_eq_false_iff, decide_eq_true_eq, decide_eq_false_iff_not] at h6')
  have hlr : sm = true ∧ i < s.ps.length := by simpa using h6
  have heF := (hs.1 hlr.1).1
  have hlen := heF.2.2.2.2
  have htk := (hs.1 hlr.1).2
  obtain ⟨p, hkp, -⟩ := pc_next (l := s.ps) (k := i) (by omega)
  obtain ⟨q, hkq, -⟩ := pc_next (l := t.ps) (k := i) (by omega)
  refine wp_skip ?_
  refine nm_then ?_
  refine wp_seq ?_
  refine wp_block ?_
  refine g_start2 M (M.mask [true, true] rfl) 12 (by kernel_rfl) rfl (by kernel_rfl) ?_
  clear M; intro wc M
  refine gq (v := (.pointer (some ⟨g1, 6, none⟩))) T 0 1 rfl (fun _ _ _ _ _ => (rn_fieldAddr (off := 6) rfl (T.ev 0 rfl) (fun _ _ _ => by kernel_rfl))) ?_; clear T ac; intro ac T
  refine gq T 1 3 rfl (fun B w' hD hl hS => (rn_one (Mem.nth (show Mem w noEx w' _ from hS) 1 rfl) rfl (T.ev 0 rfl) rfl)) ?_; clear T ac; intro ac T
  refine gq T 2 7 rfl (fun _ _ _ _ _ => (rn_move rfl (T.ev 5 rfl))) ?_; clear T ac; intro ac T
  refine gq T 3 15 rfl (fun _ _ _ _ _ => (rn_indexAddr (size := 4) i rfl (T.ev 1 rfl) (T.ev 0 rfl) ⟨_, Tryd.underlying24, by kernel_rfl⟩ rfl (by omega) (SA.at0 (by omega)))) ?_; clear T ac; intro ac T
  refine gq (v := (.agg #[.int .i64 p.l, .int .i64 p.w, .bool p.gr, .int .i64 p.pa])) T 4 31 rfl (fun B w' hD hl hS => (rn_rowat (Sp.pcR SA (show Mem w noEx w' _ from hS) (List.nil_sublist _) hkp) rfl (T.ev 0 rfl) rfl)) ?_; clear T ac; intro ac T
  refine gq (v := (.pointer (some ⟨g2, 6, none⟩))) T 5 63 rfl (fun _ _ _ _ _ => (rn_fieldAddr (off := 6) rfl (T.ev 6 rfl) (fun _ _ _ => by kernel_rfl))) ?_; clear T ac; intro ac T
  refine gq T 6 127 rfl (fun B w' hD hl hS => (rn_one (Mem.nth (show Mem w noEx w' _ from hS) 0 rfl) rfl (T.ev 0 rfl) rfl)) ?_; clear T ac; intro ac T
  refine gq T 7 255 rfl (fun _ _ _ _ _ => (rn_move rfl (T.ev 10 rfl))) ?_; clear T ac; intro ac T
  refine gq T 8 511 rfl (fun _ _ _ _ _ => (rn_indexAddr (size := 4) i rfl (T.ev 1 rfl) (T.ev 0 rfl) ⟨_, Tryd.underlying24, by kernel_rfl⟩ rfl (by omega) (SB.at0 (by omega)))) ?_; clear T ac; intro ac T
  refine gq (v := (.agg #[.int .i64 q.l, .int .i64 q.w, .bool q.gr, .int .i64 q.pa])) T 9 1023 rfl (fun B w' hD hl hS => (rn_rowat (Sp.pcR SB (show Mem w noEx w' _ from hS) (List.nil_sublist _) hkq) rfl (T.ev 0 rfl) rfl)) ?_; clear T ac; intro ac T
  refine gq (v := (.bool ((decide (p.l = q.l)) && ((decide (p.w = q.w)) && ((decide (p.gr = q.gr)) && (decide (p.pa = q.pa))))))) T 10 2047 rfl (fun _ _ _ _ _ => (rn_bin rfl (T.ev 5 rfl) (T.ev 0 rfl) eqT63)) ?_; clear T ac; intro ac T
  refine g_q (v := (.bool ((decide (p.l = q.l)) && ((decide (p.w = q.w)) && ((decide (p.gr = q.gr)) && (decide (p.pa = q.pa))))))) (T := T.pick [0, 1, 2, 3, 4, 5, 6, 7, 8, 9, 10, 11, 12, 14, 15] rfl) (i := 11) rfl (by kernel_rfl) (by kernel_rfl : (pbits 12 2047).setIfInBounds 11 true = pbits 12 4095) si_U (fun _ _ _ h => h) rfl rfl rfl rfl (fun _ _ _ _ _ => (rn_assign rfl (T.ev 0 rfl))) ?_; clear T ac; intro ac T
  refine g_done (by kernel_rfl) ?_
  replace T := T.pick [0, 12, 13, 14] rfl
  refine nm_blk ?_
  refine nm_then ?_
  refine wp_region_lit ?_
  refine lq T (rn_move rfl (T.ev 3 rfl)) ?_; clear T ac; intro ac T
  refine lq T (rn_add rfl (T.ev 0 rfl) evc (by omega)) ?_; clear T ac; intro ac T
  refine l_q (v := (.int .i64 ((i : Int) + 1))) (T.pick [0, 1, 2, 3, 4] rfl) rfl rfl rfl rfl (rn_assign rfl (T.ev 0 rfl)) ?_; clear T ac; intro ac T
  refine wpList_nil ?_
  replace T := T.pick [0, 3, 4, 5] rfl
  refine nm_then ?_
  exact ⟨_, by omega, i + 1, ((decide (p.l = q.l)) && ((decide (p.w = q.w)) && ((decide (p.gr = q.gr)) && (decide (p.pa = q.pa))))), rfl, (by omega), (by rw [take_same hkp hkq]; cases p; cases q; simp [heF, htk]), T.pick [2, 3, 1, 0] rfl, M.mask [true, true] rfl⟩
 intro h6
 (try have h6' := h6; try simp only [Bool.and_eq_true, Bool.or_eq_true, Bool.not_eq_true', Bool.and_eq_false_imp, Bool.or_eq_false_iff, decide_eq_true_eq, decide_eq_false_iff_not] at h6')
 refine wp_exit ?_
 refine ex_then ?_
 refine ex_then ?_
 refine ex_hit ?_
 refine nm_then ?_
 refine wp_seq ?_
 refine wp_region_lit ?_
 refine lq T (rn_move rfl (T.ev 2 rfl)) ?_; clear T ac; intro ac T
 refine lq T (rn_assign rfl (T.ev 0 rfl)) ?_; clear T ac; intro ac T
 refine wpList_nil ?_
 replace T := T.pick [0] rfl
 replace M := M.mask [false, false] rfl
 refine nm_then ?_
 refine wp_ret ?_
 refine rt_1 T rfl (T.ev 0 rfl) ?_
 have e9 : sm = decide (s = t) := by
   rw [Bool.eq_iff_iff, decide_eq_true_eq]
   constructor
   · intro hsm
     obtain ⟨⟨k1, k2, ⟨k3, k4⟩, ⟨k5, k6⟩, k7⟩, k8⟩ := hs.1 hsm
     have hi9 : ¬ i < s.ps.length := by simpa [hsm] using h6
     rw [List.take_of_length_le (by omega), List.take_of_length_le (by omega)] at k8
     cases s; cases t; simp_all
   · rintro rfl
     exact hs.2 ⟨⟨rfl, rfl, ⟨rfl, rfl⟩, ⟨rfl, rfl⟩, rfl⟩, rfl⟩
 rw [e9]
 exact ⟨rfl, M.below⟩
def szE (s : Sk) (k : Int) (t : Bool) : Int := if skErr s ≠ 0 then skErr s else if ¬ (0 ≤ k ∧ k ≤ (s.ps.length : Int) - 1) then 3 else if (t && (s.ps.getD k.toNat default).gr) = true then 8 else 0
def szL (s : Sk) (k : Int) (t su : Bool) : Int := if szE s k t ≠ 0 then 0 else sizeL (cutA s su) (cutC s su) (s.ps.getD k.toNat default) t
def szW (s : Sk) (k : Int) (t su : Bool) : Int := if szE s k t ≠ 0 then 0 else sizeW (cutA s su) (cutC s su) (s.ps.getD k.toNat default) t
end Go.Proofs.YtehpcclfgjccbaaDoor
end

section
/-
 sheet's law: blanks that cost a sheet.
-/
namespace Go.Proofs.YtehpcclfgjccbaaDoor
set_option linter.unusedSimpArgs false
set_option linter.unusedVariables false
open Go.RowKit
def SkPost (s : Sk) (w : World) (e : Ending) (w' : World) : Prop := ∃ A c I, e = .returned (.agg #[.int .i64 s.lo, .int .i64 s.wi, .int .i64 s.a0, .int .i64 s.a1, .int .i64 s.c0, .int .i64 s.c1, .slice A s.ps.length c]) ∧ s.ps.length ≤ c ∧ (∃ b o, ∀ (w : World) (ex : Nat → Prop), Sp w ex I A s.ps.length 4 b o (pc s.ps)) ∧ Mem w noEx w' I
end Go.Proofs.YtehpcclfgjccbaaDoor
end

section
/-
 sheet: Turn; its law.
-/
namespace Go.Proofs.YtehpcclfgjccbaaDoor
set_option linter.unusedSimpArgs false
set_option linter.unusedVariables false
open Go.RowKit
def trnZ (s : Sk) : Sk := if skErr s = 0 then trnS s else ⟨0, 0, 0, 0, 0, 0, []⟩
def TrnPost (t : Sk) (er : Int) (w : World) (e : Ending) (w' : World) : Prop := ∃ A c I, e = .returned (.tuple #[.agg #[.int .i64 t.lo, .int .i64 t.wi, .int .i64 t.a0, .int .i64 t.a1, .int .i64 t.c0, .int .i64 t.c1, .slice A t.ps.length c], .int .i64 er]) ∧ t.ps.length ≤ c ∧ (∃ b o, ∀ (w : World) (ex : Nat → Prop), Sp w ex I A t.ps.length 4 b o (pc t.ps)) ∧ Mem w noEx w' I
theorem turn_step {ps L : List Pt} {i : Nat} {p : Pt} (h : L = (ps.take i).map turnP ++ ps.drop i) (hp : ps[i]? = some p) : L[i]? = some p ∧ L.set i (turnP p) = (ps.take (i + 1)).map turnP ++ ps.drop (i + 1) := by
 obtain ⟨hi, rfl⟩ := List.getElem?_eq_some_iff.1 hp
 have hl : ((ps.take i).map turnP).length = i := by simp; omega
 subst h
 rw [List.drop_eq_getElem_cons hi]
 constructor
 · rw [List.getElem?_append_right (by omega), hl, Nat.sub_self, List.getElem?_cons_zero]
 · rw [List.set_append_right _ _ (by omega), hl, Nat.sub_self, List.set_cons_zero, List.take_add_one, List.getElem?_eq_getElem hi, Option.toList_some, List.map_append, List.append_assoc]
   rfl
theorem Turn_any (s : Sk) (A : Option Addr) (d : Nat)  (w : World) (hA : Rd w w.heap.size 4 A s.ps.length (pc s.ps)) (nA : s.ps.length ≤ 1000000)  :
   Calls Tryd.prog 58 #[.agg #[.int .i64 s.lo, .int .i64 s.wi, .int .i64 s.a0, .int .i64 s.a1, .int .i64 s.c0, .int .i64 s.c1, .slice A s.ps.length d]] w (TrnPost (trnZ s) (skErr s) w) := by
 obtain ⟨bA, oA, SA⟩ := Sp.old hA
 refine px_enter noEx Tryd.func58 rfl 53 rfl [.agg #[.int .i64 s.lo, .int .i64 s.wi, .int .i64 s.a0, .int .i64 s.a1, .int .i64 s.c0, .int .i64 s.c1, .slice A s.ps.length d]] rfl rfl (Mem.init w _) ?_
 intro ac wc T M
 refine wp_seq ?_
 refine wp_region_lit ?_
 refine l_w rfl ?_; intro K hK
 refine ow_bx M T rfl rfl rfl rfl (T.ev 0 rfl) rfl ?_; clear M T; intro g1 wc ac M T
 refine sh_out hK _ _ ?_; clear hK K
 refine l_w rfl ?_; intro K hK
 refine ow_al M T rfl rfl rfl rfl ?_; clear M T; intro g2 wc ac M T
 refine sh_out hK _ _ ?_; clear hK K
 refine lq T (rn_assign rfl evc) ?_; clear T ac; intro ac T
 refine wpList_nil ?_
 replace T := T.pick [1, 2] rfl
 refine nm_then ?_
 refine wp_seq ?_
 refine wp_seq ?_
 refine wp_region_lit ?_
 refine lq T (rn_rowO (Mem.nth M 1 rfl) rfl (T.ev 1 rfl) rfl) ?_; clear T ac; intro ac T
 refine l_w rfl ?_; intro K hK
 refine ow_call (first := []) (cap := []) T rfl rfl rfl rfl evf (.cons (T.ev 0 rfl) .nil) Tryd.func60 rfl rfl ?_
 refine Calls.mono (skCheck_any s A d _ (SA.rd M (List.nil_sublist _)) (by omega)) ?_
 clear T
 rintro e wc ⟨rfl, hb⟩
 intro ac T
 replace M := M.call hb; clear hb
 refine sh_out hK _ _ ?_; clear hK K
 refine lq T (rn_assign rfl (T.ev 0 rfl)) ?_; clear T ac; intro ac T
 refine wpList_nil ?_
 replace T := T.pick [0, 3, 4] rfl
 refine nm_then ?_
 refine wp_seq ?_
 refine wp_region_lit ?_
 refine lq T (rn_move rfl (T.ev 0 rfl)) ?_; clear T ac; intro ac T
 refine lq T (rn_neq rfl (T.ev 0 rfl) evc) ?_; clear T ac; intro ac T
 refine wpList_nil ?_
 replace T := T.pick [0, 2, 3, 4] rfl
 refine nm_then ?_
 refine wp_ifn (T.ev 0 rfl) ?_ ?_
 ·intro h1
  refine wp_seq ?_
  refine wp_region_lit ?_
  refine lq (v := (.agg #[.int .i64 0, .int .i64 0, .int .i64 0, .int .i64 0, .int .i64 0, .int .i64 0, .slice none 0 0])) T (rn_build rfl .nil (fun _ => by kernel_rfl)) ?_; clear T ac; intro ac T
  refine lq T (rn_move rfl (T.ev 2 rfl)) ?_; clear T ac; intro ac T
  refine l_w rfl ?_; intro K hK
  refine ow_stO M T rfl rfl (T.ev 4 rfl) (T.ev 1 rfl) rfl .head rfl (by simp) rfl (by kernel_rfl) ?_; clear M T; intro wc ac M T
  refine sh_out hK _ _ ?_; clear hK K
  refine lq T (rn_assign rfl (T.ev 0 rfl)) ?_; clear T ac; intro ac T
  refine wpList_nil ?_
  replace T := T.pick [0, 5] rfl
  replace M := M.mask [true, false] rfl
  refine nm_then ?_
  refine wp_ret ?_
  refine rt_then ?_
  refine rt_ct M T rfl (T.ev 1 rfl) (T.ev 0 rfl) (nthE_mem (i := 0) rfl) rfl ?_
  have e9 : trnZ s = ⟨0, 0, 0, 0, 0, 0, []⟩ := if_neg (by omega)
  rw [e9]
  exact ⟨none, 0, [], rfl, by simp, ⟨0, 0, fun _ _ => Sp.nil⟩, M.sub (List.nil_sublist _)⟩
 intro h1
 refine wp_skip ?_
 refine nm_then ?_
 refine wp_seq ?_
 refine wp_region_lit ?_
 refine lq (v := (.pointer (some ⟨g1, 1, none⟩))) T (rn_fieldAddr (off := 1) rfl (T.ev 3 rfl) (fun _ _ _ => by kernel_rfl)) ?_; clear T ac; intro ac T
 refine lq T (rn_one (Mem.nth M 1 rfl) rfl (T.ev 0 rfl) rfl) ?_; clear T ac; intro ac T
 refine lq (v := (.pointer (some ⟨g1, 0, none⟩))) T (rn_fieldAddr (off := 0) rfl (T.ev 5 rfl) (fun _ _ _ => by kernel_rfl)) ?_; clear T ac; intro ac T
 refine lq T (rn_one (Mem.nth M 1 rfl) rfl (T.ev 0 rfl) rfl) ?_; clear T ac; intro ac T
 refine lq (v := (.pointer (some ⟨g1, 4, none⟩))) T (rn_fieldAddr (off := 4) rfl (T.ev 7 rfl) (fun _ _ _ => by kernel_rfl)) ?_; clear T ac; intro ac T
 refine lq T (rn_rowO (Mem.nth M 1 rfl) rfl (T.ev 0 rfl) rfl) ?_; clear T ac; intro ac T
 refine lq (v := (.pointer (some ⟨g1, 2, none⟩))) T (rn_fieldAddr (off := 2) rfl (T.ev 9 rfl) (fun _ _ _ => by kernel_rfl)) ?_; clear T ac; intro ac T
 refine lq T (rn_rowO (Mem.nth M 1 rfl) rfl (T.ev 0 rfl) rfl) ?_; clear T ac; intro ac T
 refine lq (v := (.pointer (some ⟨g1, 0, none⟩))) T (rn_fieldAddr (off := 0) rfl (T.ev 11 rfl) (fun _ _ _ => by kernel_rfl)) ?_; clear T ac; intro ac T
 refine l_w rfl ?_; intro K hK
 refine ow_stO M T rfl rfl (T.ev 0 rfl) (T.ev 7 rfl) rfl (.tail .head) rfl (by simp) rfl (by kernel_rfl) ?_; clear M T; intro wc ac M T
 refine sh_out hK _ _ ?_; clear hK K
 refine lq (v := (.pointer (some ⟨g1, 1, none⟩))) T (rn_fieldAddr (off := 1) rfl (T.ev 12 rfl) (fun _ _ _ => by kernel_rfl)) ?_; clear T ac; intro ac T
 refine l_w rfl ?_; intro K hK
 refine ow_stO M T rfl rfl (T.ev 0 rfl) (T.ev 6 rfl) rfl (.tail .head) rfl (by simp) rfl (by kernel_rfl) ?_; clear M T; intro wc ac M T
 refine sh_out hK _ _ ?_; clear hK K
 refine lq (v := (.pointer (some ⟨g1, 2, none⟩))) T (rn_fieldAddr (off := 2) rfl (T.ev 13 rfl) (fun _ _ _ => by kernel_rfl)) ?_; clear T ac; intro ac T
 refine l_w rfl ?_; intro K hK
 refine ow_stO M T rfl rfl (T.ev 0 rfl) (T.ev 5 rfl) rfl (.tail .head) rfl (by simp) rfl (by kernel_rfl) ?_; clear M T; intro wc ac M T
 refine sh_out hK _ _ ?_; clear hK K
 refine lq (v := (.pointer (some ⟨g1, 4, none⟩))) T (rn_fieldAddr (off := 4) rfl (T.ev 14 rfl) (fun _ _ _ => by kernel_rfl)) ?_; clear T ac; intro ac T
 refine l_w rfl ?_; intro K hK
 refine ow_stO M T rfl rfl (T.ev 0 rfl) (T.ev 4 rfl) rfl (.tail .head) rfl (by simp) rfl (by kernel_rfl) ?_; clear M T; intro wc ac M T
 refine sh_out hK _ _ ?_; clear hK K
 refine wpList_nil ?_
 replace T := T.pick [14, 15] rfl
 refine nm_then ?_
 refine wp_seq ?_
 refine wp_region_lit ?_
 refine lq (v := (.pointer (some ⟨g1, 6, none⟩))) T (rn_fieldAddr (off := 6) rfl (T.ev 1 rfl) (fun _ _ _ => by kernel_rfl)) ?_; clear T ac; intro ac T
 refine lq T (rn_one (Mem.nth M 1 rfl) rfl (T.ev 0 rfl) rfl) ?_; clear T ac; intro ac T
 refine l_w rfl ?_; intro K hK
 refine ow_call (first := []) (cap := []) T rfl rfl rfl rfl evf (.cons (T.ev 0 rfl) .nil) Tryd.func87 rfl rfl ?_
 refine Calls.mono (cloneP_any A d s.ps _ (SA.rd M (List.nil_sublist _)) (by omega)) ?_
 clear T
 rintro e wc ⟨Acu2, ccu2, Icu2, rfl, hclu2, N⟩
 intro ac T
 obtain ⟨LX, hLX⟩ : ∃ q : List Pt, q = s.ps := ⟨_, rfl⟩
 rw [← hLX] at hclu2
 replace M := (M.join N).swapI
 clear N
 replace M : Mem w noEx wc ((g2, .cells [.int .i64 0, .int .i64 0, .int .i64 0, .int .i64 0, .int .i64 0, .int .i64 0, .slice none 0 0]) :: (g1, .cells [.int .i64 s.wi, .int .i64 s.lo, .int .i64 s.c0, .int .i64 s.c1, .int .i64 s.a0, .int .i64 s.a1, .slice A s.ps.length d]) :: Icu2) := M
 have hcpC := hclu2.capLe M (.cons _ (.cons _ (List.Sublist.refl _)))
 obtain ⟨bX, IX, hswX, M⟩ := hclu2.sw (L := [(g2, .cells [.int .i64 0, .int .i64 0, .int .i64 0, .int .i64 0, .int .i64 0, .int .i64 0, .slice none 0 0]), (g1, .cells [.int .i64 s.wi, .int .i64 s.lo, .int .i64 s.c0, .int .i64 s.c1, .int .i64 s.a0, .int .i64 s.a1, .slice A s.ps.length d])]) M
 replace M : Mem w noEx wc ((g2, .cells [.int .i64 0, .int .i64 0, .int .i64 0, .int .i64 0, .int .i64 0, .int .i64 0, .slice none 0 0]) :: (g1, .cells [.int .i64 s.wi, .int .i64 s.lo, .int .i64 s.c0, .int .i64 s.c1, .int .i64 s.a0, .int .i64 s.a1, .slice A s.ps.length d]) :: IX) := M
 have SX := hswX.sp (w := w) (ex := noEx)
 have hLl9 : LX.length = s.ps.length := by rw [hLX]
 rw [← hLl9] at T
 refine sh_out hK _ _ ?_; clear hK K
 refine lq (v := (.pointer (some ⟨g1, 6, none⟩))) T (rn_fieldAddr (off := 6) rfl (T.ev 4 rfl) (fun _ _ _ => by kernel_rfl)) ?_; clear T ac; intro ac T
 refine l_w rfl ?_; intro K hK
 refine ow_stO M T rfl rfl (T.ev 0 rfl) (T.ev 1 rfl) rfl (.tail .head) rfl (by simp) rfl (by kernel_rfl) ?_; clear M T; intro wc ac M T
 refine sh_out hK _ _ ?_; clear hK K
 refine wpList_nil ?_
 replace T := T.pick [4, 5] rfl
 refine nm_then ?_
 refine wp_seq ?_
 refine wp_seq ?_
 refine wp_region_lit ?_
 refine lq (v := (.pointer (some ⟨g1, 6, none⟩))) T (rn_fieldAddr (off := 6) rfl (T.ev 1 rfl) (fun _ _ _ => by kernel_rfl)) ?_; clear T ac; intro ac T
 refine lq T (rn_one (Mem.nth M 1 rfl) rfl (T.ev 0 rfl) rfl) ?_; clear T ac; intro ac T
 refine lq T (rn_lenS rfl Tryd.underlying24 (T.ev 0 rfl)) ?_; clear T ac; intro ac T
 refine lq T (rn_move rfl evc) ?_; clear T ac; intro ac T
 refine wpList_nil ?_
 replace T := T.pick [0, 1, 2, 4, 5] rfl
 refine nm_then ?_
 refine wp_block ?_
 refine wp_loop_n (fun mz ac wc => ∃ (i : Nat) (L : List Pt) (Iw : List (Nat × BA)), mz = LX.length - i ∧ (i ≤ LX.length) ∧ (L = (s.ps.take i).map turnP ++ s.ps.drop i) ∧ (L.length = LX.length) ∧ (Sw 4 Acu2 LX.length bX (pc L) Iw) ∧ Tm ac 53 [(1, .pointer (some ⟨g1, 0, none⟩)), (2, .pointer (some ⟨g2, 0, none⟩)), (30, .slice Acu2 LX.length ccu2), (31, .int .i64 ((LX.length : Nat) : Int)), (32, .int .i64 (i : Int))] ∧ Mem w noEx wc ((g2, .cells [.int .i64 0, .int .i64 0, .int .i64 0, .int .i64 0, .int .i64 0, .int .i64 0, .slice none 0 0]) :: (g1, .cells [.int .i64 s.wi, .int .i64 s.lo, .int .i64 s.c0, .int .i64 s.c1, .int .i64 s.a0, .int .i64 s.a1, .slice Acu2 LX.length ccu2]) :: Iw)) ?_ ?_
 ·exact ⟨_, 0, LX, IX, rfl, (Nat.zero_le _), (by rw [hLX]; simp), rfl, hswX, T.pick [4, 3, 2, 1, 0] rfl, M.mask [true, true] rfl⟩
 clear T M
 rintro mz ac wc ⟨i, L, Iw, hmm1, hi, hL, hLl, hsw, T, M⟩
 refine wp_seq ?_
 refine wp_region_lit ?_
 refine lq T (rn_lss rfl (T.ev 4 rfl) (T.ev 3 rfl)) ?_; clear T ac; intro ac T
 refine wpList_nil ?_
 refine nm_then ?_
 refine wp_seq ?_
 refine wp_if (T.ev 0 rfl) ?_ ?_
 ·intro h2
  have SL9 := hsw.sp (w := w) (ex := noEx)
  obtain ⟨p, hkp, -⟩ := pc_next (l := s.ps) (k := i) (by omega)
  have hkq := (turn_step hL hkp).1
  refine wp_skip ?_
  refine nm_then ?_
  refine wp_seq ?_
  refine wp_block ?_
  refine wp_seq ?_
  refine wp_region_lit ?_
  refine lq T (rn_move rfl (T.ev 5 rfl)) ?_; clear T ac; intro ac T
  refine lq T (rn_indexAddr (size := 4) i rfl (T.ev 4 rfl) (T.ev 6 rfl) ⟨_, Tryd.underlying24, by kernel_rfl⟩ rfl (by omega) (SL9.at0 (by omega))) ?_; clear T ac; intro ac T
  refine lq (v := (.agg #[.int .i64 p.l, .int .i64 p.w, .bool p.gr, .int .i64 p.pa])) T (rn_rowat (Sp.pcR SL9 M (.cons _ (.cons _ (List.Sublist.refl _))) hkq) rfl (T.ev 0 rfl) rfl) ?_; clear T ac; intro ac T
  refine l_w rfl ?_; intro K hK
  refine ow_al M T rfl rfl rfl rfl ?_; clear M T; intro g3 wc ac M T
  refine sh_out hK _ _ ?_; clear hK K
  refine lq T (rn_assign rfl (T.ev 3 rfl)) ?_; clear T ac; intro ac T
  refine l_w rfl ?_; intro K hK
  refine ow_stO M T rfl rfl (T.ev 1 rfl) (T.ev 2 rfl) rfl .head rfl (by simp) rfl (by kernel_rfl) ?_; clear M T; intro wc ac M T
  refine sh_out hK _ _ ?_; clear hK K
  refine wpList_nil ?_
  replace T := T.pick [0, 1, 6, 7, 8, 9, 10] rfl
  refine nm_then ?_
  refine g_start2 M (M.perm [0, 1, 2] rfl rfl) 16 (by kernel_rfl) rfl (by kernel_rfl) ?_
  clear M; intro wc M
  refine gq (v := (.pointer (some ⟨g1, 6, none⟩))) T 0 1 rfl (fun _ _ _ _ _ => (rn_fieldAddr (off := 6) rfl (T.ev 2 rfl) (fun _ _ _ => by kernel_rfl))) ?_; clear T ac; intro ac T
  refine gq T 1 3 rfl (fun B w' hD hl hS => (rn_one (Mem.nth (show Mem w noEx w' _ from hS) 2 rfl) rfl (T.ev 0 rfl) rfl)) ?_; clear T ac; intro ac T
  refine gq T 2 7 rfl (fun _ _ _ _ _ => (rn_move rfl (T.ev 2 rfl))) ?_; clear T ac; intro ac T
  refine gq (v := (.pointer (some ⟨g1, 6, none⟩))) T 3 15 rfl (fun _ _ _ _ _ => (rn_fieldAddr (off := 6) rfl (T.ev 5 rfl) (fun _ _ _ => by kernel_rfl))) ?_; clear T ac; intro ac T
  refine gq T 4 31 rfl (fun B w' hD hl hS => (rn_one (Mem.nth (show Mem w noEx w' _ from hS) 2 rfl) rfl (T.ev 0 rfl) rfl)) ?_; clear T ac; intro ac T
  refine gq T 5 63 rfl (fun _ _ _ _ _ => (rn_move rfl (T.ev 5 rfl))) ?_; clear T ac; intro ac T
  refine gq (v := (.pointer (some ⟨g3, 1, none⟩))) T 6 127 rfl (fun _ _ _ _ _ => (rn_fieldAddr (off := 1) rfl (T.ev 7 rfl) (fun _ _ _ => by kernel_rfl))) ?_; clear T ac; intro ac T
  refine gq T 7 255 rfl (fun B w' hD hl hS => (rn_one (Mem.nth (show Mem w noEx w' _ from hS) 0 rfl) rfl (T.ev 0 rfl) rfl)) ?_; clear T ac; intro ac T
  refine gq (v := (.pointer (some ⟨g3, 0, none⟩))) T 8 511 rfl (fun _ _ _ _ _ => (rn_fieldAddr (off := 0) rfl (T.ev 9 rfl) (fun _ _ _ => by kernel_rfl))) ?_; clear T ac; intro ac T
  refine gq T 9 1023 rfl (fun B w' hD hl hS => (rn_one (Mem.nth (show Mem w noEx w' _ from hS) 0 rfl) rfl (T.ev 0 rfl) rfl)) ?_; clear T ac; intro ac T
  refine gq T 10 2047 rfl (fun _ _ _ _ _ => (rn_indexAddr (size := 4) i rfl (T.ev 8 rfl) (T.ev 7 rfl) ⟨_, Tryd.underlying24, by kernel_rfl⟩ rfl (by omega) (SL9.at0 (by omega)))) ?_; clear T ac; intro ac T
  refine gq T 11 4095 rfl (fun _ _ _ _ _ => (rn_fieldAddr (off := 0) rfl (T.ev 0 rfl) (fun _ _ _ => by kernel_rfl))) ?_; clear T ac; intro ac T
  refine gw 12 8191 ?_; intro K hK
  refine ow_stTK pcE 4 (fun _ => rfl) 0 (p' := ({ p with l := p.w } : Pt)) ([(g3, .cells [.int .i64 p.l, .int .i64 p.w, .bool p.gr, .int .i64 p.pa]), (g2, .cells [.int .i64 0, .int .i64 0, .int .i64 0, .int .i64 0, .int .i64 0, .int .i64 0, .slice none 0 0]), (g1, .cells [.int .i64 s.wi, .int .i64 s.lo, .int .i64 s.c0, .int .i64 s.c1, .int .i64 s.a0, .int .i64 s.a1, .slice Acu2 LX.length ccu2])]) M (by first | rfl | simp) hsw T rfl rfl (T.ev 0 rfl) (T.ev 4 rfl) rfl hkq (by omega) rfl (Nat.le_of_ble_eq_true rfl) rfl rfl ?_; clear M T; intro Jw1 wc ac hsw1 M T
  replace M : Mem w noEx wc ((g3, .cells [.int .i64 p.l, .int .i64 p.w, .bool p.gr, .int .i64 p.pa]) :: (g2, .cells [.int .i64 0, .int .i64 0, .int .i64 0, .int .i64 0, .int .i64 0, .int .i64 0, .slice none 0 0]) :: (g1, .cells [.int .i64 s.wi, .int .i64 s.lo, .int .i64 s.c0, .int .i64 s.c1, .int .i64 s.a0, .int .i64 s.a1, .slice Acu2 LX.length ccu2]) :: Jw1) := M
  obtain ⟨lo1, hlo1⟩ : ∃ qq9 : List Pt, qq9 = L.set i ({ p with l := p.w }) := ⟨_, rfl⟩
  replace hsw1 : Sw 4 Acu2 LX.length bX (pc lo1) Jw1 := by rw [hlo1]; exact hsw1
  have lhlo1 : lo1.length = L.length := by rw [hlo1, List.length_set]
  have Ss1 := hsw1.sp (w := w) (ex := noEx)
  have hello1 : lo1[i]? = some ({ p with l := p.w } : Pt) := by rw [hlo1]; exact List.getElem?_set_self (by omega)
  refine sh_out hK _ _ (M.perm [0, 1, 2] rfl rfl) ?_; clear hK K
  refine gq T 13 16383 rfl (fun _ _ _ _ _ => (rn_indexAddr (size := 4) i rfl (T.ev 7 rfl) (T.ev 6 rfl) ⟨_, Tryd.underlying24, by kernel_rfl⟩ rfl (by omega) (Ss1.at0 (by omega)))) ?_; clear T ac; intro ac T
  refine gq T 14 32767 rfl (fun _ _ _ _ _ => (rn_fieldAddr (off := 1) rfl (T.ev 0 rfl) (fun _ _ _ => by kernel_rfl))) ?_; clear T ac; intro ac T
  refine gw 15 65535 ?_; intro K hK
  refine ow_stTK pcE 4 (fun _ => rfl) 1 (p' := ({ ({ p with l := p.w } : Pt) with w := p.l } : Pt)) ([(g3, .cells [.int .i64 p.l, .int .i64 p.w, .bool p.gr, .int .i64 p.pa]), (g2, .cells [.int .i64 0, .int .i64 0, .int .i64 0, .int .i64 0, .int .i64 0, .int .i64 0, .slice none 0 0]), (g1, .cells [.int .i64 s.wi, .int .i64 s.lo, .int .i64 s.c0, .int .i64 s.c1, .int .i64 s.a0, .int .i64 s.a1, .slice Acu2 LX.length ccu2])]) M (by first | rfl | simp) hsw1 T rfl rfl (T.ev 0 rfl) (T.ev 4 rfl) rfl hello1 (by omega) rfl (Nat.le_of_ble_eq_true rfl) rfl rfl ?_; clear M T; intro Jw2 wc ac hsw2 M T
  replace M : Mem w noEx wc ((g3, .cells [.int .i64 p.l, .int .i64 p.w, .bool p.gr, .int .i64 p.pa]) :: (g2, .cells [.int .i64 0, .int .i64 0, .int .i64 0, .int .i64 0, .int .i64 0, .int .i64 0, .slice none 0 0]) :: (g1, .cells [.int .i64 s.wi, .int .i64 s.lo, .int .i64 s.c0, .int .i64 s.c1, .int .i64 s.a0, .int .i64 s.a1, .slice Acu2 LX.length ccu2]) :: Jw2) := M
  obtain ⟨lo2, hlo2⟩ : ∃ qq9 : List Pt, qq9 = lo1.set i ({ ({ p with l := p.w } : Pt) with w := p.l }) := ⟨_, rfl⟩
  replace hsw2 : Sw 4 Acu2 LX.length bX (pc lo2) Jw2 := by rw [hlo2]; exact hsw2
  have lhlo2 : lo2.length = lo1.length := by rw [hlo2, List.length_set]
  have Ss2 := hsw2.sp (w := w) (ex := noEx)
  have hello2 : lo2[i]? = some ({ ({ p with l := p.w } : Pt) with w := p.l } : Pt) := by rw [hlo2]; exact List.getElem?_set_self (by omega)
  refine sh_out hK _ _ (M.perm [0, 1, 2] rfl rfl) ?_; clear hK K
  refine g_done (by kernel_rfl) ?_
  replace T := T.pick [16, 17, 18, 19, 20] rfl
  replace M := M.mask [false, true, true] rfl
  refine nm_blk ?_
  refine nm_then ?_
  refine wp_region_lit ?_
  refine lq T (rn_add rfl (T.ev 4 rfl) evc (by omega)) ?_; clear T ac; intro ac T
  refine l_q (v := (.int .i64 ((i : Int) + 1))) (T.pick [0, 1, 2, 3, 4] rfl) rfl rfl rfl rfl (rn_move rfl (T.ev 0 rfl)) ?_; clear T ac; intro ac T
  refine wpList_nil ?_
  replace T := T.pick [0, 2, 3, 4, 5] rfl
  refine nm_then ?_
  exact ⟨_, by omega, i + 1, lo2, Jw2, rfl, (by omega), (by rw [hlo2, hlo1, List.set_set]; exact (turn_step hL hkp).2), (by omega), hsw2, T.pick [1, 2, 3, 4, 0] rfl, (M.permT [0, 1] 2 rfl rfl rfl rfl)⟩
 intro h2
 have hLf : L = (trnS s).ps := by rw [hL, List.take_of_length_le (by omega), List.drop_of_length_le (by omega), List.append_nil]; rfl
 refine wp_exit ?_
 refine ex_then ?_
 refine ex_then ?_
 refine ex_hit ?_
 refine nm_then ?_
 refine wp_seq ?_
 refine wp_region_lit ?_
 refine lq T (rn_rowO (Mem.nth M 1 rfl) rfl (T.ev 1 rfl) rfl) ?_; clear T ac; intro ac T
 refine l_w rfl ?_; intro K hK
 refine ow_stO M T rfl rfl (T.ev 3 rfl) (T.ev 0 rfl) rfl .head rfl (by simp) rfl (by kernel_rfl) ?_; clear M T; intro wc ac M T
 refine sh_out hK _ _ ?_; clear hK K
 refine lq T (rn_assign rfl evc) ?_; clear T ac; intro ac T
 refine wpList_nil ?_
 replace T := T.pick [0, 4] rfl
 replace M := M.mask [true, false] rfl
 refine nm_then ?_
 refine wp_ret ?_
 refine rt_ct M T rfl (T.ev 1 rfl) (T.ev 0 rfl) (nthE_mem (i := 0) rfl) rfl ?_
 have e8 : skErr s = 0 := by omega
 have e9 : trnZ s = trnS s := if_pos e8
 rw [e9, e8]
 have hw9 := hsw
 rw [← hLl, hLf] at hw9
 have hcq : (trnS s).ps.length ≤ ccu2 := by rw [← hLf]; omega
 have hq9 : LX.length = (trnS s).ps.length := by rw [← hLf]; omega
 exact ⟨Acu2, ccu2, Iw, by rw [hq9]; rfl, hcq, ⟨bX, 0, fun w ex => hw9.sp⟩, M.sub (List.sublist_append_right ([(g2, .cells [.int .i64 s.wi, .int .i64 s.lo, .int .i64 s.c0, .int .i64 s.c1, .int .i64 s.a0, .int .i64 s.a1, .slice Acu2 LX.length ccu2])] : List (Nat × BA)) _)⟩
set_option maxHeartbeats 4000000 in
theorem SheetTurned_any (D : Option Addr) (n d : Nat) (l : List Int) (w : World) (hl : Rd w w.heap.size 1 D n (ic l)) (hm : n ≤ 9223372036854775807) (hT : TabW w) :
   Calls Tryd.prog 16 #[.slice D n d] w fun e w' => e = .returned (.bool true) ∧ Below w.heap.size w w' := by
 have hll := hl.len1
 obtain ⟨bI, oI, SI⟩ := Sp.old hl
 refine px_enter noEx Tryd.func16 rfl 130 rfl [.slice D n d] rfl rfl (Mem.init w _) ?_
 intro ac wc T M
 refine wp_seq ?_
 refine wp_region_lit ?_
 refine lq T (rn_assign rfl evc) ?_; clear T ac; intro ac T
 refine wpList_nil ?_
 replace T := T.pick [1] rfl
 refine nm_then ?_
 refine wp_seq ?_
 refine wp_region_lit ?_
 refine lq T (rn_move rfl (T.ev 0 rfl)) ?_; clear T ac; intro ac T
 refine l_w rfl ?_; intro K hK
 refine ow_call (first := []) (cap := []) T rfl rfl rfl rfl evf (.cons (T.ev 0 rfl) .nil) Tryd.func18 rfl rfl ?_
 refine Calls.mono (newPot_any _ _ _ l _ (SI.rd M (List.nil_sublist _)) (by omega)) ?_
 clear T
 rintro e wc ⟨bpu1, su1, hsu1, rfl, N⟩
 intro ac T
 replace M := M.join N; clear N
 replace M := M.mask [true] rfl
 refine sh_out hK _ _ ?_; clear hK K
 refine lq T (rn_assign rfl (T.ev 0 rfl)) ?_; clear T ac; intro ac T
 refine wpList_nil ?_
 replace T := T.pick [0] rfl
 refine nm_then ?_
 refine wp_seq ?_
 refine wp_region_lit ?_
 refine lq T (rn_move rfl (T.ev 0 rfl)) ?_; clear T ac; intro ac T
 refine l_w rfl ?_; intro K hK
 refine ow_call (first := []) (cap := []) T rfl rfl rfl rfl evf (.cons (T.ev 0 rfl) (.cons evc (.cons evc .nil))) Tryd.func19 rfl rfl ?_
 refine Calls.mono (sheetOf_any _ bpu1 5 4 _ (by omega) (by omega) (M.nth 0 rfl) hsu1) ?_
 clear T
 rintro e wc ⟨s, AKu2, cKu2, sdu2, IKu2, rfl, hsgs, ⟨⟨hbls, hbws⟩, hbps⟩, hsu2, hcpKu2, SVKu2, N⟩
 intro ac T
 obtain ⟨bAKu2, oAKu2, SVKu2⟩ := SVKu2
 have SAKu2 := SVKu2 w noEx
 replace M := M.joinEI N .head
 clear N
 replace M : Mem w noEx wc ((bpu1, .cells [.int .u64 sdu2]) :: IKu2) := M
 have hlns := hsgs.len
 obtain ⟨hg1s, hg2s, hg3s, hg4s, -, -⟩ := id hsgs
 refine sh_out hK _ _ ?_; clear hK K
 refine l_w rfl ?_; intro K hK
 refine ow_al M T rfl rfl rfl rfl ?_; clear M T; intro g1 wc ac M T
 refine sh_out hK _ _ ?_; clear hK K
 refine l_w rfl ?_; intro K hK
 refine ow_stO M T rfl rfl (T.ev 0 rfl) (T.ev 1 rfl) rfl .head rfl (by simp) rfl (by kernel_rfl) ?_; clear M T; intro wc ac M T
 refine sh_out hK _ _ ?_; clear hK K
 refine wpList_nil ?_
 replace T := T.pick [0, 3] rfl
 refine nm_then ?_
 refine wp_seq ?_
 refine wp_region_lit ?_
 refine lq T (rn_move rfl (T.ev 1 rfl)) ?_; clear T ac; intro ac T
 refine lq (v := (.pointer (some ⟨g1, 6, none⟩))) T (rn_fieldAddr (off := 6) rfl (T.ev 1 rfl) (fun _ _ _ => by kernel_rfl)) ?_; clear T ac; intro ac T
 refine lq T (rn_one (Mem.nth M 0 rfl) rfl (T.ev 0 rfl) rfl) ?_; clear T ac; intro ac T
 refine lq T (rn_lenS rfl Tryd.underlying24 (T.ev 0 rfl)) ?_; clear T ac; intro ac T
 refine l_w rfl ?_; intro K hK
 refine ow_call (first := []) (cap := []) T rfl rfl rfl rfl evf (.cons (T.ev 3 rfl) (.cons (T.ev 0 rfl) .nil)) Tryd.func48 rfl rfl ?_
 refine Calls.mono (pick_any _ bpu1 ((s.ps.length : Nat) : Int) _ (by omega) (M.nth 1 rfl) hsu2) ?_
 clear T
 rintro e wc ⟨lxu3, AXu3, cXu3, sdu3, IXu3, rfl, hixu3, hsu3, hcpXu3, SVXu3, N⟩
 intro ac T
 obtain ⟨bAXu3, oAXu3, SVXu3⟩ := SVXu3
 have SAXu3 := SVXu3 w noEx
 replace M := M.joinEI N (.tail .head)
 clear N
 replace M : Mem w noEx wc ((g1, .cells [.int .i64 s.lo, .int .i64 s.wi, .int .i64 s.a0, .int .i64 s.a1, .int .i64 s.c0, .int .i64 s.c1, .slice AKu2 s.ps.length cKu2]) :: (bpu1, .cells [.int .u64 sdu3]) :: (IKu2 ++ IXu3)) := M
 refine sh_out hK _ _ ?_; clear hK K
 refine lq T (rn_assign rfl (T.ev 0 rfl)) ?_; clear T ac; intro ac T
 refine wpList_nil ?_
 replace T := T.pick [0, 6] rfl
 replace M := M.mask [true, false] rfl
 refine nm_then ?_
 refine wp_seq ?_
 refine wp_region_lit ?_
 refine lq T (rn_rowO (Mem.nth M 0 rfl) rfl (T.ev 1 rfl) rfl) ?_; clear T ac; intro ac T
 refine l_w rfl ?_; intro K hK
 have hlT := hsgs.len
 have hz : trnZ s = (trnS s) := (if_pos (skErr_iff.2 hsgs)).trans rfl
 have hz2 := skErr_iff.2 hsgs
 refine ow_call (first := []) (cap := []) T rfl rfl rfl rfl evf (.cons (T.ev 0 rfl) .nil) Tryd.func58 rfl rfl ?_
 refine Calls.mono (Turn_any s AKu2 cKu2 _ (SAKu2.rd M (.cons _ (subL (List.Sublist.refl _)))) (by omega)) ?_
 clear T
 rintro e wc ⟨ATu4, cTu4, ITu4, rfl, hcpTu4, SVTu4, N⟩
 intro ac T
 rw [hz] at hcpTu4 SVTu4
 rw [hz, hz2] at T
 clear hz hz2
 obtain ⟨bATu4, oATu4, SVTu4⟩ := SVTu4
 have SATu4 := SVTu4 w noEx
 replace M := (M.join N).swapI
 clear N
 replace M : Mem w noEx wc ((g1, .cells [.int .i64 s.lo, .int .i64 s.wi, .int .i64 s.a0, .int .i64 s.a1, .int .i64 s.c0, .int .i64 s.c1, .slice AKu2 s.ps.length cKu2]) :: (IKu2 ++ IXu3 ++ ITu4)) := M
 refine sh_out hK _ _ ?_; clear hK K
 refine lq T (rn_move rfl (T.ev 0 rfl)) ?_; clear T ac; intro ac T
 refine lq T (rn_extract rfl (T.ev 0 rfl) rfl) ?_; clear T ac; intro ac T
 refine lq T (rn_extract rfl (T.ev 1 rfl) rfl) ?_; clear T ac; intro ac T
 refine l_w rfl ?_; intro K hK
 refine ow_al M T rfl rfl rfl rfl ?_; clear M T; intro g2 wc ac M T
 refine sh_out hK _ _ ?_; clear hK K
 refine l_w rfl ?_; intro K hK
 refine ow_stO M T rfl rfl (T.ev 0 rfl) (T.ev 2 rfl) rfl .head rfl (by simp) rfl (by kernel_rfl) ?_; clear M T; intro wc ac M T
 refine sh_out hK _ _ ?_; clear hK K
 refine lq T (rn_assign rfl (T.ev 1 rfl)) ?_; clear T ac; intro ac T
 refine wpList_nil ?_
 replace T := T.pick [0, 1, 7, 8] rfl
 refine nm_then ?_
 refine wp_seq ?_
 refine wp_region_lit ?_
 refine lq T (rn_rowO (Mem.nth M 0 rfl) rfl (T.ev 1 rfl) rfl) ?_; clear T ac; intro ac T
 refine l_w rfl ?_; intro K hK
 have hlT := (trn_good hsgs).len
 have hz : trnZ (trnS s) = s := (if_pos (skErr_iff.2 (trn_good hsgs))).trans (trn_trn s)
 have hz2 := skErr_iff.2 (trn_good hsgs)
 refine ow_call (first := []) (cap := []) T rfl rfl rfl rfl evf (.cons (T.ev 0 rfl) .nil) Tryd.func58 rfl rfl ?_
 refine Calls.mono (Turn_any (trnS s) ATu4 cTu4 _ (SATu4.rd M (.cons _ (.cons _ (List.sublist_append_right _ _)))) (by omega)) ?_
 clear T
 rintro e wc ⟨ATu5, cTu5, ITu5, rfl, hcpTu5, SVTu5, N⟩
 intro ac T
 rw [hz] at hcpTu5 SVTu5
 rw [hz, hz2] at T
 clear hz hz2
 obtain ⟨bATu5, oATu5, SVTu5⟩ := SVTu5
 have SATu5 := SVTu5 w noEx
 replace M := (M.join N).swapI
 clear N
 replace M : Mem w noEx wc ((g2, .cells [.int .i64 ((trnS s).lo), .int .i64 ((trnS s).wi), .int .i64 ((trnS s).a0), .int .i64 ((trnS s).a1), .int .i64 ((trnS s).c0), .int .i64 ((trnS s).c1), .slice ATu4 ((trnS s).ps.length) cTu4]) :: (g1, .cells [.int .i64 s.lo, .int .i64 s.wi, .int .i64 s.a0, .int .i64 s.a1, .int .i64 s.c0, .int .i64 s.c1, .slice AKu2 s.ps.length cKu2]) :: (IKu2 ++ IXu3 ++ ITu4 ++ ITu5)) := M
 refine sh_out hK _ _ ?_; clear hK K
 refine lq T (rn_move rfl (T.ev 0 rfl)) ?_; clear T ac; intro ac T
 refine lq T (rn_extract rfl (T.ev 0 rfl) rfl) ?_; clear T ac; intro ac T
 refine lq T (rn_extract rfl (T.ev 1 rfl) rfl) ?_; clear T ac; intro ac T
 refine l_w rfl ?_; intro K hK
 refine ow_al M T rfl rfl rfl rfl ?_; clear M T; intro g3 wc ac M T
 refine sh_out hK _ _ ?_; clear hK K
 refine l_w rfl ?_; intro K hK
 refine ow_stO M T rfl rfl (T.ev 0 rfl) (T.ev 2 rfl) rfl .head rfl (by simp) rfl (by kernel_rfl) ?_; clear M T; intro wc ac M T
 refine sh_out hK _ _ ?_; clear hK K
 refine lq T (rn_assign rfl (T.ev 1 rfl)) ?_; clear T ac; intro ac T
 refine wpList_nil ?_
 replace T := T.pick [0, 1, 7, 8, 9, 10] rfl
 refine nm_then ?_
 refine wp_seq ?_
 refine wp_seq ?_
 refine wp_region_lit ?_
 refine lq T (rn_move rfl (T.ev 2 rfl)) ?_; clear T ac; intro ac T
 refine lq (v := (.bool false)) T (rn_neqof (rn_neq rfl (T.ev 0 rfl) evc) (by simp)) ?_; clear T ac; intro ac T
 refine lq T (rn_move rfl (T.ev 0 rfl)) ?_; clear T ac; intro ac T
 refine lw T (wanted_yes rfl rfl (T.ev 0 rfl) rfl) (rn_move rfl (T.ev 3 rfl)) ?_; clear T ac; intro ac T
 refine lw (v := (.bool false)) T (wanted_yes rfl rfl (T.ev 1 rfl) rfl) (rn_neqof (rn_neq rfl (T.ev 0 rfl) evc) (by simp)) ?_; clear T ac; intro ac T
 refine lq T (rn_pick0 rfl (T.ev 2 rfl) rfl (T.ev 0 rfl)) ?_; clear T ac; intro ac T
 refine lq T (rn_move rfl (T.ev 0 rfl)) ?_; clear T ac; intro ac T
 refine lw T (wanted_yes rfl rfl (T.ev 0 rfl) rfl) (rn_rowO (Mem.nth M 0 rfl) rfl (T.ev 8 rfl) rfl) ?_; clear T ac; intro ac T
 refine lw T (wanted_yes rfl rfl (T.ev 1 rfl) rfl) (rn_rowO (Mem.nth M 2 rfl) rfl (T.ev 13 rfl) rfl) ?_; clear T ac; intro ac T
 refine l_w (wanted_yes rfl rfl (T.ev 2 rfl) rfl) ?_; intro K hK
 refine ow_call (first := []) (cap := []) T rfl rfl rfl rfl evf (.cons (T.ev 1 rfl) (.cons (T.ev 0 rfl) .nil)) Tryd.func29 rfl rfl ?_
 refine Calls.mono (sameSheets_any s ATu5 cTu5 s AKu2 cKu2 _ (SATu5.rd M (.cons _ (.cons _ (.cons _ (List.sublist_append_right _ _))))) (SAKu2.rd M (.cons _ (.cons _ (.cons _ (subL (subL (subL (List.Sublist.refl _)))))))) (by omega) (by omega)) ?_
 clear T
 rintro e wc ⟨rfl, hb⟩
 intro ac T
 replace M := M.call hb; clear hb
 rw [decide_eq_true (@rfl Sk s)] at T
 refine sh_out hK _ _ ?_; clear hK K
 refine lw (v := (.bool false)) T (wanted_yes rfl rfl (T.ev 3 rfl) rfl) (rn_neqof (rn_not rfl (T.ev 0 rfl)) (by simp)) ?_; clear T ac; intro ac T
 refine lq T (rn_pick0 rfl (T.ev 4 rfl) rfl (T.ev 0 rfl)) ?_; clear T ac; intro ac T
 refine lq T (rn_move rfl (T.ev 0 rfl)) ?_; clear T ac; intro ac T
 refine lw (v := (.pointer (some ⟨g2, 6, none⟩))) T (wanted_yes rfl rfl (T.ev 0 rfl) rfl) (rn_fieldAddr (off := 6) rfl (T.ev 16 rfl) (fun _ _ _ => by kernel_rfl)) ?_; clear T ac; intro ac T
 refine lw T (wanted_yes rfl rfl (T.ev 1 rfl) rfl) (rn_one (Mem.nth M 1 rfl) rfl (T.ev 0 rfl) rfl) ?_; clear T ac; intro ac T
 refine lw T (wanted_yes rfl rfl (T.ev 2 rfl) rfl) (rn_lenS rfl Tryd.underlying24 (T.ev 0 rfl)) ?_; clear T ac; intro ac T
 refine lw (v := (.pointer (some ⟨g1, 6, none⟩))) T (wanted_yes rfl rfl (T.ev 3 rfl) rfl) (rn_fieldAddr (off := 6) rfl (T.ev 21 rfl) (fun _ _ _ => by kernel_rfl)) ?_; clear T ac; intro ac T
 refine lw T (wanted_yes rfl rfl (T.ev 4 rfl) rfl) (rn_one (Mem.nth M 2 rfl) rfl (T.ev 0 rfl) rfl) ?_; clear T ac; intro ac T
 refine lw T (wanted_yes rfl rfl (T.ev 5 rfl) rfl) (rn_lenS rfl Tryd.underlying24 (T.ev 0 rfl)) ?_; clear T ac; intro ac T
 refine lw T (wanted_yes rfl rfl (T.ev 6 rfl) rfl) (rn_neq rfl (T.ev 3 rfl) (T.ev 0 rfl)) ?_; clear T ac; intro ac T
 refine lq T (rn_pick0 rfl (T.ev 7 rfl) rfl (T.ev 0 rfl)) ?_; clear T ac; intro ac T
 refine wpList_nil ?_
 replace T := T.pick [0, 24, 25, 26] rfl
 replace M := M.mask [false, true, true] rfl
 replace M : Mem w noEx wc ((g2, .cells [.int .i64 ((trnS s).lo), .int .i64 ((trnS s).wi), .int .i64 ((trnS s).a0), .int .i64 ((trnS s).a1), .int .i64 ((trnS s).c0), .int .i64 ((trnS s).c1), .slice ATu4 ((trnS s).ps.length) cTu4]) :: (g1, .cells [.int .i64 s.lo, .int .i64 s.wi, .int .i64 s.a0, .int .i64 s.a1, .int .i64 s.c0, .int .i64 s.c1, .slice AKu2 s.ps.length cKu2]) :: (IKu2 ++ IXu3 ++ ITu4 ++ ITu5)) := M
 refine nm_then ?_
 refine wp_cond_false ((T.ev 0 rfl).trans (congrArg Value.bool (by rw [show (decide ((((trnS s).ps.length : Nat) : Int) = ((s.ps.length : Nat) : Int))) = true from (decide_eq_true (by simp [trnS]))]; rfl))) ?_
 refine wp_skip ?_
 refine nm_then ?_
 refine wp_seq ?_
 refine wp_region_lit ?_
 refine lq T (rn_rowO (Mem.nth M 1 rfl) rfl (T.ev 3 rfl) rfl) ?_; clear T ac; intro ac T
 refine lq T (rn_move rfl (T.ev 3 rfl)) ?_; clear T ac; intro ac T
 refine l_w rfl ?_; intro K hK
 have hgl9 := nodup_short hixu3.1 hixu3.2
 refine ow_call (first := []) (cap := []) T rfl rfl rfl rfl evf (.cons (T.ev 1 rfl) (.cons (T.ev 0 rfl) .nil)) Tryd.func46 rfl rfl ?_
 refine Calls.mono (Fits_any s AKu2 cKu2 AXu3 cXu3 lxu3 _ (SAKu2.rd M (.cons _ (.cons _ (subL (subL (subL (List.Sublist.refl _))))))) (SAXu3.rd M (.cons _ (.cons _ (subL (subL (List.sublist_append_right _ _)))))) (by omega) (by omega) (by omega) (hT.mem M (fun h => h))) ?_
 clear T
 rintro e wc ⟨rfl, hb⟩
 intro ac T
 obtain ⟨f1, f2, f3⟩ := fit_turn_law (g := lxu3) hsgs hixu3.1 hixu3.2
 rw [f1] at T
 clear f1 f2 f3
 replace M := M.call hb; clear hb
 refine sh_out hK _ _ ?_; clear hK K
 refine lq T (rn_move rfl (T.ev 0 rfl)) ?_; clear T ac; intro ac T
 refine lq T (rn_extract rfl (T.ev 0 rfl) rfl) ?_; clear T ac; intro ac T
 refine lq T (rn_extract rfl (T.ev 1 rfl) rfl) ?_; clear T ac; intro ac T
 refine lq T (rn_assign rfl (T.ev 1 rfl)) ?_; clear T ac; intro ac T
 refine lq T (rn_assign rfl (T.ev 1 rfl)) ?_; clear T ac; intro ac T
 refine wpList_nil ?_
 replace T := T.pick [0, 1, 9, 10, 11] rfl
 refine nm_then ?_
 refine wp_seq ?_
 refine wp_region_lit ?_
 refine lq T (rn_rowO (Mem.nth M 0 rfl) rfl (T.ev 2 rfl) rfl) ?_; clear T ac; intro ac T
 refine lq T (rn_move rfl (T.ev 4 rfl)) ?_; clear T ac; intro ac T
 refine l_w rfl ?_; intro K hK
 refine ow_call (first := []) (cap := []) T rfl rfl rfl rfl evf (.cons (T.ev 1 rfl) (.cons (T.ev 0 rfl) .nil)) Tryd.func46 rfl rfl ?_
 refine Calls.mono (Fits_any (trnS s) ATu4 cTu4 AXu3 cXu3 lxu3 _ (SATu4.rd M (.cons _ (.cons _ (subL (List.sublist_append_right _ _))))) (SAXu3.rd M (.cons _ (.cons _ (subL (subL (List.sublist_append_right _ _)))))) (by omega) (by omega) (by omega) (hT.mem M (fun h => h))) ?_
 clear T
 rintro e wc ⟨rfl, hb⟩
 intro ac T
 obtain ⟨f1, f2, f3⟩ := fit_turn_law (g := lxu3) hsgs hixu3.1 hixu3.2
 rw [f2, ← f3] at T
 clear f1 f2 f3
 replace M := M.call hb; clear hb
 refine sh_out hK _ _ ?_; clear hK K
 refine lq T (rn_move rfl (T.ev 0 rfl)) ?_; clear T ac; intro ac T
 refine lq T (rn_extract rfl (T.ev 0 rfl) rfl) ?_; clear T ac; intro ac T
 refine lq T (rn_extract rfl (T.ev 1 rfl) rfl) ?_; clear T ac; intro ac T
 refine lq T (rn_assign rfl (T.ev 1 rfl)) ?_; clear T ac; intro ac T
 refine lq T (rn_assign rfl (T.ev 1 rfl)) ?_; clear T ac; intro ac T
 refine wpList_nil ?_
 replace T := T.pick [0, 1, 8, 9, 10, 12] rfl
 refine nm_then ?_
 refine wp_seq ?_
 refine wp_region_lit ?_
 refine lq T (rn_rowO (Mem.nth M 1 rfl) rfl (T.ev 5 rfl) rfl) ?_; clear T ac; intro ac T
 refine l_w rfl ?_; intro K hK
 refine ow_call (first := []) (cap := []) T rfl rfl rfl rfl evf (.cons (T.ev 0 rfl) (.cons evc .nil)) Tryd.func34 rfl rfl ?_
 refine Calls.mono (Sheets_any s AKu2 cKu2 true _ (SAKu2.rd M (.cons _ (.cons _ (subL (subL (subL (List.Sublist.refl _))))))) (by omega) (by omega) (hT.mem M (fun h => h))) ?_
 clear T
 rintro e wc ⟨ASu9, cSu9, ISu9, rfl, hcpSu9, SVSu9, N⟩
 intro ac T
 obtain ⟨bASu9, oASu9, SVSu9⟩ := SVSu9
 have SASu9 := SVSu9 w noEx
 replace M := (M.join N).swapI
 clear N
 replace M : Mem w noEx wc ((g2, .cells [.int .i64 ((trnS s).lo), .int .i64 ((trnS s).wi), .int .i64 ((trnS s).a0), .int .i64 ((trnS s).a1), .int .i64 ((trnS s).c0), .int .i64 ((trnS s).c1), .slice ATu4 ((trnS s).ps.length) cTu4]) :: (g1, .cells [.int .i64 s.lo, .int .i64 s.wi, .int .i64 s.a0, .int .i64 s.a1, .int .i64 s.c0, .int .i64 s.c1, .slice AKu2 s.ps.length cKu2]) :: (IKu2 ++ IXu3 ++ ITu4 ++ ITu5 ++ ISu9)) := M
 refine sh_out hK _ _ ?_; clear hK K
 refine lq T (rn_move rfl (T.ev 0 rfl)) ?_; clear T ac; intro ac T
 refine lq T (rn_extract rfl (T.ev 0 rfl) rfl) ?_; clear T ac; intro ac T
 refine lq T (rn_extract rfl (T.ev 1 rfl) rfl) ?_; clear T ac; intro ac T
 refine lq T (rn_extract rfl (T.ev 2 rfl) rfl) ?_; clear T ac; intro ac T
 refine lq T (rn_assign rfl (T.ev 2 rfl)) ?_; clear T ac; intro ac T
 refine lq T (rn_assign rfl (T.ev 2 rfl)) ?_; clear T ac; intro ac T
 refine lq T (rn_assign rfl (T.ev 2 rfl)) ?_; clear T ac; intro ac T
 refine wpList_nil ?_
 replace T := T.pick [0, 1, 9, 10, 11, 12, 13, 14] rfl
 refine nm_then ?_
 refine wp_seq ?_
 refine wp_region_lit ?_
 refine lq T (rn_rowO (Mem.nth M 0 rfl) rfl (T.ev 6 rfl) rfl) ?_; clear T ac; intro ac T
 refine l_w rfl ?_; intro K hK
 refine ow_call (first := []) (cap := []) T rfl rfl rfl rfl evf (.cons (T.ev 0 rfl) (.cons evc .nil)) Tryd.func34 rfl rfl ?_
 refine Calls.mono (Sheets_any (trnS s) ATu4 cTu4 true _ (SATu4.rd M (.cons _ (.cons _ (subL (subL (List.sublist_append_right _ _)))))) (by omega) (by omega) (hT.mem M (fun h => h))) ?_
 clear T
 rintro e wc ⟨ASu10, cSu10, ISu10, rfl, hcpSu10, SVSu10, N⟩
 intro ac T
 rw [← (turn_law hsgs true).1, ← (turn_law hsgs true).2] at T
 obtain ⟨bASu10, oASu10, SVSu10⟩ := SVSu10
 have SASu10 := SVSu10 w noEx
 replace M := (M.join N).swapI
 clear N
 replace M : Mem w noEx wc ((g2, .cells [.int .i64 ((trnS s).lo), .int .i64 ((trnS s).wi), .int .i64 ((trnS s).a0), .int .i64 ((trnS s).a1), .int .i64 ((trnS s).c0), .int .i64 ((trnS s).c1), .slice ATu4 ((trnS s).ps.length) cTu4]) :: (g1, .cells [.int .i64 s.lo, .int .i64 s.wi, .int .i64 s.a0, .int .i64 s.a1, .int .i64 s.c0, .int .i64 s.c1, .slice AKu2 s.ps.length cKu2]) :: (IKu2 ++ IXu3 ++ ITu4 ++ ITu5 ++ ISu9 ++ ISu10)) := M
 refine sh_out hK _ _ ?_; clear hK K
 refine lq T (rn_move rfl (T.ev 0 rfl)) ?_; clear T ac; intro ac T
 refine lq T (rn_extract rfl (T.ev 0 rfl) rfl) ?_; clear T ac; intro ac T
 refine lq T (rn_extract rfl (T.ev 1 rfl) rfl) ?_; clear T ac; intro ac T
 refine lq T (rn_extract rfl (T.ev 2 rfl) rfl) ?_; clear T ac; intro ac T
 refine lq T (rn_assign rfl (T.ev 2 rfl)) ?_; clear T ac; intro ac T
 refine lq T (rn_assign rfl (T.ev 2 rfl)) ?_; clear T ac; intro ac T
 refine lq T (rn_assign rfl (T.ev 2 rfl)) ?_; clear T ac; intro ac T
 refine wpList_nil ?_
 replace T := T.pick [0, 1, 9, 10, 11, 12, 13, 14, 15, 16] rfl
 refine nm_then ?_
 refine wp_seq ?_
 refine wp_region_lit ?_
 refine lq T (rn_rowO (Mem.nth M 1 rfl) rfl (T.ev 9 rfl) rfl) ?_; clear T ac; intro ac T
 refine l_w rfl ?_; intro K hK
 refine ow_call (first := []) (cap := []) T rfl rfl rfl rfl evf (.cons (T.ev 0 rfl) (.cons evc .nil)) Tryd.func50 rfl rfl ?_
 refine Calls.mono (Scrap_any s AKu2 cKu2 false _ (SAKu2.rd M (.cons _ (.cons _ (subL (subL (subL (subL (subL (List.Sublist.refl _))))))))) (by omega) (by omega) (hT.mem M (fun h => h))) ?_
 clear T
 rintro e wc ⟨rfl, hb⟩
 intro ac T
 replace M := M.call hb; clear hb
 refine sh_out hK _ _ ?_; clear hK K
 refine lq T (rn_move rfl (T.ev 0 rfl)) ?_; clear T ac; intro ac T
 refine lq T (rn_extract rfl (T.ev 0 rfl) rfl) ?_; clear T ac; intro ac T
 refine lq T (rn_extract rfl (T.ev 1 rfl) rfl) ?_; clear T ac; intro ac T
 refine lq T (rn_assign rfl (T.ev 1 rfl)) ?_; clear T ac; intro ac T
 refine lq T (rn_assign rfl (T.ev 1 rfl)) ?_; clear T ac; intro ac T
 refine wpList_nil ?_
 replace T := T.pick [0, 1, 7, 8, 9, 10, 11, 12, 13, 14, 15] rfl
 replace M := M.mask [true, false] rfl
 replace M : Mem w noEx wc ((g2, .cells [.int .i64 ((trnS s).lo), .int .i64 ((trnS s).wi), .int .i64 ((trnS s).a0), .int .i64 ((trnS s).a1), .int .i64 ((trnS s).c0), .int .i64 ((trnS s).c1), .slice ATu4 ((trnS s).ps.length) cTu4]) :: (IKu2 ++ IXu3 ++ ITu4 ++ ITu5 ++ ISu9 ++ ISu10)) := M
 refine nm_then ?_
 refine wp_seq ?_
 refine wp_region_lit ?_
 refine lq T (rn_rowO (Mem.nth M 0 rfl) rfl (T.ev 10 rfl) rfl) ?_; clear T ac; intro ac T
 refine l_w rfl ?_; intro K hK
 refine ow_call (first := []) (cap := []) T rfl rfl rfl rfl evf (.cons (T.ev 0 rfl) (.cons evc .nil)) Tryd.func50 rfl rfl ?_
 refine Calls.mono (Scrap_any (trnS s) ATu4 cTu4 false _ (SATu4.rd M (.cons _ (subL (subL (subL (List.sublist_append_right _ _)))))) (by omega) (by omega) (hT.mem M (fun h => h))) ?_
 clear T
 rintro e wc ⟨rfl, hb⟩
 intro ac T
 rw [← scr_turn_law hsgs false, ← (turn_law hsgs false).1] at T
 replace M := M.call hb; clear hb
 refine sh_out hK _ _ ?_; clear hK K
 refine lq T (rn_move rfl (T.ev 0 rfl)) ?_; clear T ac; intro ac T
 refine lq T (rn_extract rfl (T.ev 0 rfl) rfl) ?_; clear T ac; intro ac T
 refine lq T (rn_extract rfl (T.ev 1 rfl) rfl) ?_; clear T ac; intro ac T
 refine lq T (rn_assign rfl (T.ev 1 rfl)) ?_; clear T ac; intro ac T
 refine lq T (rn_assign rfl (T.ev 1 rfl)) ?_; clear T ac; intro ac T
 refine wpList_nil ?_
 replace T := T.pick [0, 1, 7, 8, 9, 10, 11, 12, 13, 14, 15, 16] rfl
 replace M := M.mask [false] rfl
 replace M : Mem w noEx wc ((IKu2 ++ IXu3 ++ ITu4 ++ ITu5 ++ ISu9 ++ ISu10)) := M
 refine nm_then ?_
 refine wp_seq ?_
 refine wp_region_lit ?_
 refine lq T (rn_move rfl (T.ev 10 rfl)) ?_; clear T ac; intro ac T
 refine lq (v := (.bool true)) T (rn_neqof (rn_eql rfl (T.ev 0 rfl) evc) (by simp)) ?_; clear T ac; intro ac T
 refine lq T (rn_move rfl (T.ev 0 rfl)) ?_; clear T ac; intro ac T
 refine lw T (wanted_yes rfl rfl (T.ev 0 rfl) rfl) (rn_move rfl (T.ev 11 rfl)) ?_; clear T ac; intro ac T
 refine lw (v := (.bool true)) T (wanted_yes rfl rfl (T.ev 1 rfl) rfl) (rn_neqof (rn_eql rfl (T.ev 0 rfl) evc) (by simp)) ?_; clear T ac; intro ac T
 refine lq T (rn_pick1 rfl (T.ev 2 rfl) rfl (T.ev 0 rfl)) ?_; clear T ac; intro ac T
 refine lq T (rn_move rfl (T.ev 0 rfl)) ?_; clear T ac; intro ac T
 refine lw T (wanted_yes rfl rfl (T.ev 0 rfl) rfl) (rn_move rfl (T.ev 18 rfl)) ?_; clear T ac; intro ac T
 refine lw T (wanted_yes rfl rfl (T.ev 1 rfl) rfl) (rn_move rfl (T.ev 17 rfl)) ?_; clear T ac; intro ac T
 refine lw (v := (.bool true)) T (wanted_yes rfl rfl (T.ev 2 rfl) rfl) (rn_neqof (rn_eql rfl (T.ev 1 rfl) (T.ev 0 rfl)) (by simp)) ?_; clear T ac; intro ac T
 refine lq T (rn_pick1 rfl (T.ev 3 rfl) rfl (T.ev 0 rfl)) ?_; clear T ac; intro ac T
 refine lq T (rn_move rfl (T.ev 0 rfl)) ?_; clear T ac; intro ac T
 refine lw T (wanted_yes rfl rfl (T.ev 0 rfl) rfl) (rn_move rfl (T.ev 18 rfl)) ?_; clear T ac; intro ac T
 refine lw T (wanted_yes rfl rfl (T.ev 1 rfl) rfl) (rn_move rfl (T.ev 17 rfl)) ?_; clear T ac; intro ac T
 refine lw (v := (.bool true)) T (wanted_yes rfl rfl (T.ev 2 rfl) rfl) (rn_neqof (rn_eql rfl (T.ev 1 rfl) (T.ev 0 rfl)) (by simp)) ?_; clear T ac; intro ac T
 refine lq T (rn_pick1 rfl (T.ev 3 rfl) rfl (T.ev 0 rfl)) ?_; clear T ac; intro ac T
 refine lq T (rn_move rfl (T.ev 0 rfl)) ?_; clear T ac; intro ac T
 refine lw T (wanted_yes rfl rfl (T.ev 0 rfl) rfl) (rn_move rfl (T.ev 24 rfl)) ?_; clear T ac; intro ac T
 refine lw T (wanted_yes rfl rfl (T.ev 1 rfl) rfl) (rn_move rfl (T.ev 23 rfl)) ?_; clear T ac; intro ac T
 refine lw (v := (.bool true)) T (wanted_yes rfl rfl (T.ev 2 rfl) rfl) (rn_neqof (rn_eql rfl (T.ev 1 rfl) (T.ev 0 rfl)) (by simp)) ?_; clear T ac; intro ac T
 refine lq T (rn_pick1 rfl (T.ev 3 rfl) rfl (T.ev 0 rfl)) ?_; clear T ac; intro ac T
 refine lq T (rn_move rfl (T.ev 0 rfl)) ?_; clear T ac; intro ac T
 refine lw T (wanted_yes rfl rfl (T.ev 0 rfl) rfl) (rn_move rfl (T.ev 24 rfl)) ?_; clear T ac; intro ac T
 refine lw T (wanted_yes rfl rfl (T.ev 1 rfl) rfl) (rn_move rfl (T.ev 23 rfl)) ?_; clear T ac; intro ac T
 refine lw (v := (.bool true)) T (wanted_yes rfl rfl (T.ev 2 rfl) rfl) (rn_neqof (rn_eql rfl (T.ev 1 rfl) (T.ev 0 rfl)) (by simp)) ?_; clear T ac; intro ac T
 refine lq T (rn_pick1 rfl (T.ev 3 rfl) rfl (T.ev 0 rfl)) ?_; clear T ac; intro ac T
 refine lq T (rn_move rfl (T.ev 0 rfl)) ?_; clear T ac; intro ac T
 refine lw T (wanted_yes rfl rfl (T.ev 0 rfl) rfl) (rn_move rfl (T.ev 30 rfl)) ?_; clear T ac; intro ac T
 refine lw T (wanted_yes rfl rfl (T.ev 1 rfl) rfl) (rn_move rfl (T.ev 29 rfl)) ?_; clear T ac; intro ac T
 refine lw (v := (.bool true)) T (wanted_yes rfl rfl (T.ev 2 rfl) rfl) (rn_neqof (rn_eql rfl (T.ev 1 rfl) (T.ev 0 rfl)) (by simp)) ?_; clear T ac; intro ac T
 refine lq T (rn_pick1 rfl (T.ev 3 rfl) rfl (T.ev 0 rfl)) ?_; clear T ac; intro ac T
 refine lq T (rn_move rfl (T.ev 0 rfl)) ?_; clear T ac; intro ac T
 refine l_w (wanted_yes rfl rfl (T.ev 0 rfl) rfl) ?_; intro K hK
 refine ow_call (first := []) (cap := []) T rfl rfl rfl rfl evf .nil Tryd.func17 rfl rfl ?_
 refine Calls.mono (sawn8_any _ (hT.mem M (fun h => h))) ?_
 clear T
 rintro e wc ⟨rfl, hb⟩
 intro ac T
 replace M := M.call hb; clear hb
 refine sh_out hK _ _ ?_; clear hK K
 refine lq T (rn_pick1 rfl (T.ev 1 rfl) rfl (T.ev 0 rfl)) ?_; clear T ac; intro ac T
 refine lq T (rn_assign rfl (T.ev 0 rfl)) ?_; clear T ac; intro ac T
 refine wpList_nil ?_
 replace T := T.pick [0] rfl
 refine nm_then ?_
 refine wp_ret ?_
 refine rt_1 T rfl (T.ev 0 rfl) ?_
 exact ⟨ret_bool (by simp_all), M.below⟩
end Go.Proofs.YtehpcclfgjccbaaDoor
end

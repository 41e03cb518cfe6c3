/-
  reed: Passes and Worst.
-/
import Derived.Test.YthlpceoajhcliaaRAfterT
import Derived.Test.YthlpceoajhcliaaTypes
namespace Go.Proofs.Ythlpceoajhcliaa
set_option linter.unusedSimpArgs false
set_option linter.unusedVariables false
open Go.RowKit

def passesT (j : Jb) : Int × Int := if checkJ j = 0 then (passesJ j j.p0 j.p1, 0) else (0, checkJ j)

set_option maxRecDepth 100000 in
set_option maxHeartbeats 1000000 in
theorem Passes_any (j : Jb) (A : Option Addr) (c : Nat) (w : World) (hr : Rd w w.heap.size 2 A j.sh.length (rc j.sh)) (hn : j.sh.length ≤ 9223372036854775807) :
    Calls Try.prog 46 #[jobV j A c] w fun e w' => e = .returned (.tuple #[.int .i64 (passesT j).1, .int .i64 (passesT j).2]) ∧ Below w.heap.size w w' := by
  have HR := Lib.hid hr
  clear hr
  by_cases h0 : checkJ j = 0
  · have HO := Lib.hid (good_of h0).ok
    have HW : Hid (passesT j = (passesJ j j.p0 j.p1, 0)) := by show _ = _; unfold passesT; rw [if_pos h0]
    have H0 := Lib.hid h0
    clear h0
    generalize passesT j = gj at *
    go_enter Try.func46, Try.ntmps46
    refine start noEx ?_
    intro wc M
    go_wp2_with (first | (refine m_ld1 M rfl rfl rfl (by (repeat' (first | exact List.mem_cons_self | refine List.mem_cons_of_mem _ ?_))) (by rfl) ?_) | (refine m_ldr M rfl rfl rfl (by (repeat' (first | exact List.mem_cons_self | refine List.mem_cons_of_mem _ ?_))) (by (try simp only [List.take_succ_cons, List.take_zero, List.take_nil, List.drop_succ_cons, List.drop_zero, List.drop_nil, List.cons_append, List.nil_append, List.append_nil, List.length_cons, List.length_nil, Nat.reduceAdd, Nat.zero_add, Nat.add_zero]); rfl) (by rfl) ?_) | (refine m_st M rfl rfl rfl (by first | exact (rfl : _ = Value.agg _) | exact (rfl : _ = Value.int _ _) | exact (rfl : _ = Value.bool _) | exact (rfl : _ = Value.slice _ _ _) | exact (rfl : _ = Value.pointer _) | exact (rfl : _ = Value.map _) | exact (rfl : _ = Value.func _ _ _) | exact (rfl : _ = Value.string _)) (by rfl) (by (repeat (first | exact Upd.head | apply Upd.tail))) (by (try simp only [List.take_succ_cons, List.take_zero, List.take_nil, List.drop_succ_cons, List.drop_zero, List.drop_nil, List.cons_append, List.nil_append, List.append_nil, List.length_cons, List.length_nil, Nat.reduceAdd, Nat.zero_add, Nat.add_zero]); rfl) (by simp) (by simp [Value.oneCell']) (by kernel_rfl) ?_; clear M; (try clear wc); intro wc M) | (refine m_al M rfl rfl ?_; clear M; (try clear wc); intro g wc M) | (refine m_bx M rfl rfl (by first | exact (rfl : _ = Value.agg _) | exact (rfl : _ = Value.int _ _) | exact (rfl : _ = Value.bool _) | exact (rfl : _ = Value.slice _ _ _) | exact (rfl : _ = Value.pointer _) | exact (rfl : _ = Value.map _) | exact (rfl : _ = Value.func _ _ _) | exact (rfl : _ = Value.string _)) (by rfl) ?_; clear M; (try clear wc); intro g wc M) | (go_at_call 49; ((with_reducible refine (check_any j _ _ _ ?_ ?_).mono ?_); ((exact M.rd HR.out (Nat.le_refl _)); (exact hn)); rw [H0.out]; rintro e wc ⟨rfl, hb⟩; replace M := M.call hb; clear hb)) | (go_at_call 88; ((with_reducible refine (passes_any j _ _ _ _ _ HO.out ?_).mono ?_); (exact M.rd HR.out (Nat.le_refl _)); rintro e wc ⟨rfl, hb⟩; replace M := M.call hb; clear hb)))
    go_ret2
    rw [HW.out]
    exact ⟨rfl, M.below⟩
  · have h1 : (checkJ j != 0) = true := by simpa using h0
    have HW : Hid (passesT j = (0, checkJ j)) := by show _ = _; unfold passesT; rw [if_neg h0]
    clear h0
    generalize passesT j = gj at *
    go_enter Try.func46, Try.ntmps46
    refine start noEx ?_
    intro wc M
    go_wp2_with (first | (refine m_ld1 M rfl rfl rfl (by (repeat' (first | exact List.mem_cons_self | refine List.mem_cons_of_mem _ ?_))) (by rfl) ?_) | (refine m_ldr M rfl rfl rfl (by (repeat' (first | exact List.mem_cons_self | refine List.mem_cons_of_mem _ ?_))) (by (try simp only [List.take_succ_cons, List.take_zero, List.take_nil, List.drop_succ_cons, List.drop_zero, List.drop_nil, List.cons_append, List.nil_append, List.append_nil, List.length_cons, List.length_nil, Nat.reduceAdd, Nat.zero_add, Nat.add_zero]); rfl) (by rfl) ?_) | (refine m_st M rfl rfl rfl (by first | exact (rfl : _ = Value.agg _) | exact (rfl : _ = Value.int _ _) | exact (rfl : _ = Value.bool _) | exact (rfl : _ = Value.slice _ _ _) | exact (rfl : _ = Value.pointer _) | exact (rfl : _ = Value.map _) | exact (rfl : _ = Value.func _ _ _) | exact (rfl : _ = Value.string _)) (by rfl) (by (repeat (first | exact Upd.head | apply Upd.tail))) (by (try simp only [List.take_succ_cons, List.take_zero, List.take_nil, List.drop_succ_cons, List.drop_zero, List.drop_nil, List.cons_append, List.nil_append, List.append_nil, List.length_cons, List.length_nil, Nat.reduceAdd, Nat.zero_add, Nat.add_zero]); rfl) (by simp) (by simp [Value.oneCell']) (by kernel_rfl) ?_; clear M; (try clear wc); intro wc M) | (refine m_al M rfl rfl ?_; clear M; (try clear wc); intro g wc M) | (refine m_bx M rfl rfl (by first | exact (rfl : _ = Value.agg _) | exact (rfl : _ = Value.int _ _) | exact (rfl : _ = Value.bool _) | exact (rfl : _ = Value.slice _ _ _) | exact (rfl : _ = Value.pointer _) | exact (rfl : _ = Value.map _) | exact (rfl : _ = Value.func _ _ _) | exact (rfl : _ = Value.string _)) (by rfl) ?_; clear M; (try clear wc); intro g wc M) | (go_at_call 49; ((with_reducible refine (check_any j _ _ _ ?_ ?_).mono ?_); ((exact M.rd HR.out (Nat.le_refl _)); (exact hn)); rintro e wc ⟨rfl, hb⟩; replace M := M.call hb; clear hb)))
    go_ret2
    rw [HW.out]
    exact ⟨rfl, M.below⟩

def wstep (p0 p1 : Int) (out : Int) (s : Int × Int) : Int := if (if out < -(p0 + s.1) then -(p0 + s.1) else out) < p1 + s.2 then p1 + s.2 else if out < -(p0 + s.1) then -(p0 + s.1) else out
theorem wstep_bd {p0 p1 out : Int} {s : Int × Int} (h0 : 0 ≤ out ∧ out ≤ 10000) (hp : -2000 ≤ p0 ∧ p1 ≤ 2000) (hs : -60 ≤ s.1 ∧ s.2 ≤ 60) : 0 ≤ wstep p0 p1 out s ∧ wstep p0 p1 out s ≤ 10000 := by unfold wstep; (repeat' split) <;> omega
def worstF (p0 p1 : Int) (sh : List (Int × Int)) : Int := (if sh = [] then [(0, 0)] else sh).foldl (wstep p0 p1) 0
def worstT (j : Jb) (l : List Int) : Int × Int := if checkStrokesJ j l = 0 then (worstF (j.st.after l).p0 (j.st.after l).p1 j.sh, 0) else (0, checkStrokesJ j l)
theorem fold_snoc (p0 p1 : Int) (l : List (Int × Int)) (k : Nat) (x0 x1 : Int) (h : l.drop k = (x0, x1) :: l.drop (k + 1)) : (l.take (k + 1)).foldl (wstep p0 p1) 0 = wstep p0 p1 ((l.take k).foldl (wstep p0 p1) 0) (x0, x1) := by
  have hk : k < l.length := by
    rcases Nat.lt_or_ge k l.length with h' | h'
    · exact h'
    · rw [List.drop_of_length_le h'] at h; cases h
  rw [List.drop_eq_getElem_cons hk] at h
  injection h with h _
  rw [List.take_succ_eq_append_getElem hk, List.foldl_append, h]
  rfl

theorem Try.fieldPitch (w : World) (a b c d e f : Value) : (Instr.field 25 (.agg #[a, b, c, d, e, f]) 0).run Try.prog w = .ok (.agg #[a, b]) w := by kernel_rfl

set_option maxRecDepth 100000 in
set_option maxHeartbeats 1000000 in
theorem Worst_any (j : Jb) (A : Option Addr) (c : Nat) (B : Option Addr) (d n : Nat) (l : List Int) (w : World) (hr : Rd w w.heap.size 2 A j.sh.length (rc j.sh)) (hn : j.sh.length ≤ 9223372036854775807) (hl : Rd w w.heap.size 1 B n (ic l)) (hm : n ≤ 9223372036854775807) :
    Calls Try.prog 51 #[jobV j A c, .slice B n d] w fun e w' => e = .returned (.tuple #[.int .i64 (worstT j l).1, .int .i64 (worstT j l).2]) ∧ Below w.heap.size w w' := by
  have HR := Lib.hid hr
  have HL := Lib.hid hl
  have HN := Lib.hid hl.len1
  clear hr hl
  by_cases h0 : checkStrokesJ j l = 0
  · obtain ⟨hc, h6, hk⟩ := strokes_of h0
    have HU := Lib.hid (good_of hc).st
    have HQ := Lib.hid (good_of hc)
    have HK := Lib.hid hk
    have h6' : n ≤ 6 := by have := HN.out; omega
    have HW : Hid (worstT j l = (worstF (j.st.after l).p0 (j.st.after l).p1 j.sh, 0)) := by show _ = _; unfold worstT; rw [if_pos h0]
    have H0 := Lib.hid h0
    have HUA := Lib.hid (after_upTo (good_of hc).st l)
    clear hc h6 hk h0
    have hfld := Try.fieldTongue
    have hfp := Try.fieldPitch
    have hb0 := HUA.out.p0
    have hb1 := HUA.out.p1
    have hln := HN.out
    rw [hln] at hb0 hb1
    clear hln HUA
    generalize worstT j l = gj at *
    generalize hst : j.st.after l = st at *
    have HST := Lib.hid hst
    clear hst
    by_cases hs0 : j.sh = []
    · have HS0 := Lib.hid hs0
      have hs1 : ((j.sh.length : Int) == 0) = true := by simpa using hs0
      have hs2 : (j.sh.length == 0) = true := by simpa using hs0
      have HF : Hid (worstF st.p0 st.p1 j.sh = wstep st.p0 st.p1 0 (0, 0)) := by show _ = _; unfold worstF; rw [if_pos hs0]; rfl
      clear hs0
      go_enter Try.func51, Try.ntmps51
      refine start noEx ?_
      intro wc M
      go_wp2_with (first | (refine m_ld1 M rfl rfl rfl (by (repeat' (first | exact List.mem_cons_self | refine List.mem_cons_of_mem _ ?_))) (by rfl) ?_) | (refine m_ldr M rfl rfl rfl (by (repeat' (first | exact List.mem_cons_self | refine List.mem_cons_of_mem _ ?_))) (by (try simp only [List.take_succ_cons, List.take_zero, List.take_nil, List.drop_succ_cons, List.drop_zero, List.drop_nil, List.cons_append, List.nil_append, List.append_nil, List.length_cons, List.length_nil, Nat.reduceAdd, Nat.zero_add, Nat.add_zero]); rfl) (by rfl) ?_) | (refine m_st M rfl rfl rfl (by first | exact (rfl : _ = Value.agg _) | exact (rfl : _ = Value.int _ _) | exact (rfl : _ = Value.bool _) | exact (rfl : _ = Value.slice _ _ _) | exact (rfl : _ = Value.pointer _) | exact (rfl : _ = Value.map _) | exact (rfl : _ = Value.func _ _ _) | exact (rfl : _ = Value.string _)) (by rfl) (by (repeat (first | exact Upd.head | apply Upd.tail))) (by (try simp only [List.take_succ_cons, List.take_zero, List.take_nil, List.drop_succ_cons, List.drop_zero, List.drop_nil, List.cons_append, List.nil_append, List.append_nil, List.length_cons, List.length_nil, Nat.reduceAdd, Nat.zero_add, Nat.add_zero]); rfl) (by simp) (by simp [Value.oneCell']) (by kernel_rfl) ?_; clear M; (try clear wc); intro wc M) | (refine m_al M rfl rfl ?_; clear M; (try clear wc); intro g wc M) | (refine m_bx M rfl rfl (by first | exact (rfl : _ = Value.agg _) | exact (rfl : _ = Value.int _ _) | exact (rfl : _ = Value.bool _) | exact (rfl : _ = Value.slice _ _ _) | exact (rfl : _ = Value.pointer _) | exact (rfl : _ = Value.map _) | exact (rfl : _ = Value.func _ _ _) | exact (rfl : _ = Value.string _)) (by rfl) ?_; clear M; (try clear wc); intro g wc M) | (refine absorb M ?_; intro M'; clear M; (obtain ⟨M, -⟩ : _ ∧ True := ⟨M', trivial⟩); clear M'; revert M; generalize World.alloc _ _ = wn; generalize wc.heap.size = g; (try clear wc); intro M; (obtain ⟨wc, rfl⟩ : ∃ x : World, x = wn := ⟨_, rfl⟩)) | (go_at_call 83; ((with_reducible refine (checkStrokes_any j _ _ _ _ _ l _ ?_ hn ?_ hm).mono ?_); ((exact M.rd HR.out (Nat.le_refl _)); (exact M.rd HL.out (Nat.le_refl _))); rw [H0.out]; rintro e wc ⟨rfl, hb⟩; replace M := M.call hb; clear hb)) | (go_at_call 69; ((with_reducible refine (after_any j _ _ _ _ _ l _ ?_ (by omega) HU.out HK.out).mono ?_); (exact M.rd HL.out (Nat.le_refl _)); rw [HST.out]; rintro e wc ⟨rfl, hb⟩; replace M := M.call hb; clear hb)))
      rename_i gJ wq1 wq2 gP K0 hK0
      go_loopw [9, 33] (fun out i wr => ∃ (k : Nat) (m : Int), k ≤ 1 ∧ i = .int .i64 k ∧ out = .int .i64 m ∧ Hid ((k = 0 ∧ m = 0) ∨ (k = 1 ∧ m = wstep st.p0 st.p1 0 (0, 0))) ∧ Mem w noEx wr [(g, .cells [.int .i64 0, .int .i64 0]), (gP, .cells [.int .i64 st.p0, .int .i64 st.p1])]) (fun _ i _ => 1 - (intOf i).toNat)
      case atStart => exact ⟨0, 0, by omega, rfl, rfl, .inl ⟨rfl, rfl⟩, M.sub (by (repeat (first | exact List.Sublist.slnil | apply List.Sublist.cons_cons | apply List.Sublist.cons)))⟩
      case round =>
        clear M wc
        obtain ⟨k, m, hk, rfl, rfl, he, M⟩ := hrel
        obtain ⟨wc, rfl⟩ : ∃ x : World, x = wr := ⟨_, rfl⟩
        rcases he.out with ⟨rfl, rfl⟩ | ⟨rfl, rfl⟩
        · clear he
          go_wp2_with (first | (refine m_ld1 M rfl rfl rfl (by (repeat' (first | exact List.mem_cons_self | refine List.mem_cons_of_mem _ ?_))) (by rfl) ?_) | (refine m_ldr M rfl rfl rfl (by (repeat' (first | exact List.mem_cons_self | refine List.mem_cons_of_mem _ ?_))) (by (try simp only [List.take_succ_cons, List.take_zero, List.take_nil, List.drop_succ_cons, List.drop_zero, List.drop_nil, List.cons_append, List.nil_append, List.append_nil, List.length_cons, List.length_nil, Nat.reduceAdd, Nat.zero_add, Nat.add_zero]); rfl) (by rfl) ?_) | (refine m_st M rfl rfl rfl (by first | exact (rfl : _ = Value.agg _) | exact (rfl : _ = Value.int _ _) | exact (rfl : _ = Value.bool _) | exact (rfl : _ = Value.slice _ _ _) | exact (rfl : _ = Value.pointer _) | exact (rfl : _ = Value.map _) | exact (rfl : _ = Value.func _ _ _) | exact (rfl : _ = Value.string _)) (by rfl) (by (repeat (first | exact Upd.head | apply Upd.tail))) (by (try simp only [List.take_succ_cons, List.take_zero, List.take_nil, List.drop_succ_cons, List.drop_zero, List.drop_nil, List.cons_append, List.nil_append, List.append_nil, List.length_cons, List.length_nil, Nat.reduceAdd, Nat.zero_add, Nat.add_zero]); rfl) (by simp) (by simp [Value.oneCell']) (by kernel_rfl) ?_; clear M; (try clear wc); intro wc M) | (refine m_al M rfl rfl ?_; clear M; (try clear wc); intro g wc M) | (refine m_bx M rfl rfl (by first | exact (rfl : _ = Value.agg _) | exact (rfl : _ = Value.int _ _) | exact (rfl : _ = Value.bool _) | exact (rfl : _ = Value.slice _ _ _) | exact (rfl : _ = Value.pointer _) | exact (rfl : _ = Value.map _) | exact (rfl : _ = Value.func _ _ _) | exact (rfl : _ = Value.string _)) (by rfl) ?_; clear M; (try clear wc); intro g wc M) | (go_at_call 96; ((with_reducible refine (plus_any _ _ _ _ _ (by omega) (by omega) (by omega) (by omega)).mono ?_); skip; rintro e wc ⟨rfl, hb⟩; replace M := M.call hb; clear hb)))
          go_roundw
          case rel => exact ⟨1, wstep st.p0 st.p1 0 (0, 0), by omega, rfl, congrArg (Value.int .i64) (by unfold wstep; dsimp only; (repeat' split) <;> omega), .inr ⟨rfl, rfl⟩, M.sub (by (repeat (first | exact List.Sublist.slnil | apply List.Sublist.cons_cons | apply List.Sublist.cons)))⟩
          case measure => simp [intOf]
        · clear he
          generalize hwv : wstep st.p0 st.p1 0 (0, 0) = wv at *
          have HWV := Lib.hid hwv
          clear hwv
          go_wp2_with (first | (refine m_ld1 M rfl rfl rfl (by (repeat' (first | exact List.mem_cons_self | refine List.mem_cons_of_mem _ ?_))) (by rfl) ?_) | (refine m_ldr M rfl rfl rfl (by (repeat' (first | exact List.mem_cons_self | refine List.mem_cons_of_mem _ ?_))) (by (try simp only [List.take_succ_cons, List.take_zero, List.take_nil, List.drop_succ_cons, List.drop_zero, List.drop_nil, List.cons_append, List.nil_append, List.append_nil, List.length_cons, List.length_nil, Nat.reduceAdd, Nat.zero_add, Nat.add_zero]); rfl) (by rfl) ?_) | (refine m_st M rfl rfl rfl (by first | exact (rfl : _ = Value.agg _) | exact (rfl : _ = Value.int _ _) | exact (rfl : _ = Value.bool _) | exact (rfl : _ = Value.slice _ _ _) | exact (rfl : _ = Value.pointer _) | exact (rfl : _ = Value.map _) | exact (rfl : _ = Value.func _ _ _) | exact (rfl : _ = Value.string _)) (by rfl) (by (repeat (first | exact Upd.head | apply Upd.tail))) (by (try simp only [List.take_succ_cons, List.take_zero, List.take_nil, List.drop_succ_cons, List.drop_zero, List.drop_nil, List.cons_append, List.nil_append, List.append_nil, List.length_cons, List.length_nil, Nat.reduceAdd, Nat.zero_add, Nat.add_zero]); rfl) (by simp) (by simp [Value.oneCell']) (by kernel_rfl) ?_; clear M; (try clear wc); intro wc M) | (refine m_al M rfl rfl ?_; clear M; (try clear wc); intro g wc M) | (refine m_bx M rfl rfl (by first | exact (rfl : _ = Value.agg _) | exact (rfl : _ = Value.int _ _) | exact (rfl : _ = Value.bool _) | exact (rfl : _ = Value.slice _ _ _) | exact (rfl : _ = Value.pointer _) | exact (rfl : _ = Value.map _) | exact (rfl : _ = Value.func _ _ _) | exact (rfl : _ = Value.string _)) (by rfl) ?_; clear M; (try clear wc); intro g wc M))
          go_ret2
          rw [HW.out, HF.out]
          exact ⟨rfl, M.below⟩
    · have hs1 : ((j.sh.length : Int) == 0) = false := by simpa using hs0
      have hs2 : (j.sh.length == 0) = false := by simpa using hs0
      have HF : Hid (worstF st.p0 st.p1 j.sh = j.sh.foldl (wstep st.p0 st.p1) 0) := by show _ = _; unfold worstF; rw [if_neg hs0]
      clear hs0
      go_enter Try.func51, Try.ntmps51
      refine start noEx ?_
      intro wc M
      go_wp2_with (first | (refine m_ld1 M rfl rfl rfl (by (repeat' (first | exact List.mem_cons_self | refine List.mem_cons_of_mem _ ?_))) (by rfl) ?_) | (refine m_ldr M rfl rfl rfl (by (repeat' (first | exact List.mem_cons_self | refine List.mem_cons_of_mem _ ?_))) (by (try simp only [List.take_succ_cons, List.take_zero, List.take_nil, List.drop_succ_cons, List.drop_zero, List.drop_nil, List.cons_append, List.nil_append, List.append_nil, List.length_cons, List.length_nil, Nat.reduceAdd, Nat.zero_add, Nat.add_zero]); rfl) (by rfl) ?_) | (refine m_st M rfl rfl rfl (by first | exact (rfl : _ = Value.agg _) | exact (rfl : _ = Value.int _ _) | exact (rfl : _ = Value.bool _) | exact (rfl : _ = Value.slice _ _ _) | exact (rfl : _ = Value.pointer _) | exact (rfl : _ = Value.map _) | exact (rfl : _ = Value.func _ _ _) | exact (rfl : _ = Value.string _)) (by rfl) (by (repeat (first | exact Upd.head | apply Upd.tail))) (by (try simp only [List.take_succ_cons, List.take_zero, List.take_nil, List.drop_succ_cons, List.drop_zero, List.drop_nil, List.cons_append, List.nil_append, List.append_nil, List.length_cons, List.length_nil, Nat.reduceAdd, Nat.zero_add, Nat.add_zero]); rfl) (by simp) (by simp [Value.oneCell']) (by kernel_rfl) ?_; clear M; (try clear wc); intro wc M) | (refine m_al M rfl rfl ?_; clear M; (try clear wc); intro g wc M) | (refine m_bx M rfl rfl (by first | exact (rfl : _ = Value.agg _) | exact (rfl : _ = Value.int _ _) | exact (rfl : _ = Value.bool _) | exact (rfl : _ = Value.slice _ _ _) | exact (rfl : _ = Value.pointer _) | exact (rfl : _ = Value.map _) | exact (rfl : _ = Value.func _ _ _) | exact (rfl : _ = Value.string _)) (by rfl) ?_; clear M; (try clear wc); intro g wc M) | (go_at_call 83; ((with_reducible refine (checkStrokes_any j _ _ _ _ _ l _ ?_ hn ?_ hm).mono ?_); ((exact M.rd HR.out (Nat.le_refl _)); (exact M.rd HL.out (Nat.le_refl _))); rw [H0.out]; rintro e wc ⟨rfl, hb⟩; replace M := M.call hb; clear hb)) | (go_at_call 69; ((with_reducible refine (after_any j _ _ _ _ _ l _ ?_ (by omega) HU.out HK.out).mono ?_); (exact M.rd HL.out (Nat.le_refl _)); rw [HST.out]; rintro e wc ⟨rfl, hb⟩; replace M := M.call hb; clear hb)))
      rename_i gJ wq K0 hK0
      go_loopw [9, 33] (fun out i wr => ∃ (k : Nat) (m : Int), k ≤ j.sh.length ∧ i = .int .i64 k ∧ out = .int .i64 m ∧ Hid ((j.sh.take k).foldl (wstep st.p0 st.p1) 0 = m) ∧ 0 ≤ m ∧ m ≤ 10000 ∧ Mem w noEx wr [(g, .cells [.int .i64 st.p0, .int .i64 st.p1])]) (fun _ i _ => j.sh.length - (intOf i).toNat)
      case atStart => exact ⟨0, 0, by omega, rfl, rfl, rfl, by omega, by omega, M.sub (by (repeat (first | exact List.Sublist.slnil | apply List.Sublist.cons_cons | apply List.Sublist.cons)))⟩
      case round =>
        clear M wc
        obtain ⟨k, m, hk, rfl, rfl, he, hm0, hm1, M⟩ := hrel
        obtain ⟨wc, rfl⟩ : ∃ x : World, x = wr := ⟨_, rfl⟩
        by_cases hlt : k < j.sh.length
        · obtain ⟨b, o, x0, x1, rfl, hbb, hd, d0, d1⟩ := (M.rd HR.out (Nat.le_refl _)).at2 hlt
          have HX := Lib.hid (HQ.out.sh (x0, x1) (by have : (x0, x1) ∈ j.sh.drop k := (by rw [hd]; exact List.mem_cons_self); exact List.mem_of_mem_drop this))
          have hx := HX.out
          have HD := Lib.hid hd
          clear hd
          go_wp2_with (first | (refine m_ld1 M rfl rfl rfl (by (repeat' (first | exact List.mem_cons_self | refine List.mem_cons_of_mem _ ?_))) (by rfl) ?_) | (refine m_ldr M rfl rfl rfl (by (repeat' (first | exact List.mem_cons_self | refine List.mem_cons_of_mem _ ?_))) (by (try simp only [List.take_succ_cons, List.take_zero, List.take_nil, List.drop_succ_cons, List.drop_zero, List.drop_nil, List.cons_append, List.nil_append, List.append_nil, List.length_cons, List.length_nil, Nat.reduceAdd, Nat.zero_add, Nat.add_zero]); rfl) (by rfl) ?_) | (refine m_st M rfl rfl rfl (by first | exact (rfl : _ = Value.agg _) | exact (rfl : _ = Value.int _ _) | exact (rfl : _ = Value.bool _) | exact (rfl : _ = Value.slice _ _ _) | exact (rfl : _ = Value.pointer _) | exact (rfl : _ = Value.map _) | exact (rfl : _ = Value.func _ _ _) | exact (rfl : _ = Value.string _)) (by rfl) (by (repeat (first | exact Upd.head | apply Upd.tail))) (by (try simp only [List.take_succ_cons, List.take_zero, List.take_nil, List.drop_succ_cons, List.drop_zero, List.drop_nil, List.cons_append, List.nil_append, List.append_nil, List.length_cons, List.length_nil, Nat.reduceAdd, Nat.zero_add, Nat.add_zero]); rfl) (by simp) (by simp [Value.oneCell']) (by kernel_rfl) ?_; clear M; (try clear wc); intro wc M) | (refine m_al M rfl rfl ?_; clear M; (try clear wc); intro g wc M) | (refine m_bx M rfl rfl (by first | exact (rfl : _ = Value.agg _) | exact (rfl : _ = Value.int _ _) | exact (rfl : _ = Value.bool _) | exact (rfl : _ = Value.slice _ _ _) | exact (rfl : _ = Value.pointer _) | exact (rfl : _ = Value.map _) | exact (rfl : _ = Value.func _ _ _) | exact (rfl : _ = Value.string _)) (by rfl) ?_; clear M; (try clear wc); intro g wc M) | (go_at_call 96; ((with_reducible refine (plus_any _ _ _ _ _ (by dsimp only at hx; omega) (by dsimp only at hx; omega) (by dsimp only at hx; omega) (by dsimp only at hx; omega)).mono ?_); skip; rintro e wc ⟨rfl, hb⟩; replace M := M.call hb; clear hb)))
          have hbd := wstep_bd (p0 := st.p0) (p1 := st.p1) (s := (x0, x1)) ⟨hm0, hm1⟩ ⟨by omega, by omega⟩ ⟨by dsimp only at hx ⊢; omega, by dsimp only at hx ⊢; omega⟩
          go_roundw
          case rel => exact ⟨k + 1, wstep st.p0 st.p1 m (x0, x1), by omega, by go_num, rfl, by (show _ = _; rw [fold_snoc _ _ _ _ _ _ HD.out, he.out]), hbd.1, hbd.2, M.sub (by (repeat (first | exact List.Sublist.slnil | apply List.Sublist.cons_cons | apply List.Sublist.cons)))⟩
          case measure => simp [intOf]; omega
        · go_wp2_with (first | (refine m_ld1 M rfl rfl rfl (by (repeat' (first | exact List.mem_cons_self | refine List.mem_cons_of_mem _ ?_))) (by rfl) ?_) | (refine m_ldr M rfl rfl rfl (by (repeat' (first | exact List.mem_cons_self | refine List.mem_cons_of_mem _ ?_))) (by (try simp only [List.take_succ_cons, List.take_zero, List.take_nil, List.drop_succ_cons, List.drop_zero, List.drop_nil, List.cons_append, List.nil_append, List.append_nil, List.length_cons, List.length_nil, Nat.reduceAdd, Nat.zero_add, Nat.add_zero]); rfl) (by rfl) ?_) | (refine m_st M rfl rfl rfl (by first | exact (rfl : _ = Value.agg _) | exact (rfl : _ = Value.int _ _) | exact (rfl : _ = Value.bool _) | exact (rfl : _ = Value.slice _ _ _) | exact (rfl : _ = Value.pointer _) | exact (rfl : _ = Value.map _) | exact (rfl : _ = Value.func _ _ _) | exact (rfl : _ = Value.string _)) (by rfl) (by (repeat (first | exact Upd.head | apply Upd.tail))) (by (try simp only [List.take_succ_cons, List.take_zero, List.take_nil, List.drop_succ_cons, List.drop_zero, List.drop_nil, List.cons_append, List.nil_append, List.append_nil, List.length_cons, List.length_nil, Nat.reduceAdd, Nat.zero_add, Nat.add_zero]); rfl) (by simp) (by simp [Value.oneCell']) (by kernel_rfl) ?_; clear M; (try clear wc); intro wc M) | (refine m_al M rfl rfl ?_; clear M; (try clear wc); intro g wc M) | (refine m_bx M rfl rfl (by first | exact (rfl : _ = Value.agg _) | exact (rfl : _ = Value.int _ _) | exact (rfl : _ = Value.bool _) | exact (rfl : _ = Value.slice _ _ _) | exact (rfl : _ = Value.pointer _) | exact (rfl : _ = Value.map _) | exact (rfl : _ = Value.func _ _ _) | exact (rfl : _ = Value.string _)) (by rfl) ?_; clear M; (try clear wc); intro g wc M))
          go_ret2
          have e : j.sh.take k = j.sh := List.take_of_length_le (by omega)
          have h := he.out
          rw [e] at h
          rw [HW.out, HF.out, h]
          exact ⟨rfl, M.below⟩
  · have h1 : (checkStrokesJ j l != 0) = true := by simpa using h0
    have HW : Hid (worstT j l = (0, checkStrokesJ j l)) := by show _ = _; unfold worstT; rw [if_neg h0]
    clear h0
    generalize worstT j l = gj at *
    go_enter Try.func51, Try.ntmps51
    refine start noEx ?_
    intro wc M
    go_wp2_with (first | (refine m_ld1 M rfl rfl rfl (by (repeat' (first | exact List.mem_cons_self | refine List.mem_cons_of_mem _ ?_))) (by rfl) ?_) | (refine m_ldr M rfl rfl rfl (by (repeat' (first | exact List.mem_cons_self | refine List.mem_cons_of_mem _ ?_))) (by (try simp only [List.take_succ_cons, List.take_zero, List.take_nil, List.drop_succ_cons, List.drop_zero, List.drop_nil, List.cons_append, List.nil_append, List.append_nil, List.length_cons, List.length_nil, Nat.reduceAdd, Nat.zero_add, Nat.add_zero]); rfl) (by rfl) ?_) | (refine m_st M rfl rfl rfl (by first | exact (rfl : _ = Value.agg _) | exact (rfl : _ = Value.int _ _) | exact (rfl : _ = Value.bool _) | exact (rfl : _ = Value.slice _ _ _) | exact (rfl : _ = Value.pointer _) | exact (rfl : _ = Value.map _) | exact (rfl : _ = Value.func _ _ _) | exact (rfl : _ = Value.string _)) (by rfl) (by (repeat (first | exact Upd.head | apply Upd.tail))) (by (try simp only [List.take_succ_cons, List.take_zero, List.take_nil, List.drop_succ_cons, List.drop_zero, List.drop_nil, List.cons_append, List.nil_append, List.append_nil, List.length_cons, List.length_nil, Nat.reduceAdd, Nat.zero_add, Nat.add_zero]); rfl) (by simp) (by simp [Value.oneCell']) (by kernel_rfl) ?_; clear M; (try clear wc); intro wc M) | (refine m_al M rfl rfl ?_; clear M; (try clear wc); intro g wc M) | (refine m_bx M rfl rfl (by first | exact (rfl : _ = Value.agg _) | exact (rfl : _ = Value.int _ _) | exact (rfl : _ = Value.bool _) | exact (rfl : _ = Value.slice _ _ _) | exact (rfl : _ = Value.pointer _) | exact (rfl : _ = Value.map _) | exact (rfl : _ = Value.func _ _ _) | exact (rfl : _ = Value.string _)) (by rfl) ?_; clear M; (try clear wc); intro g wc M) | (go_at_call 83; ((with_reducible refine (checkStrokes_any j _ _ _ _ _ l _ ?_ hn ?_ hm).mono ?_); ((exact M.rd HR.out (Nat.le_refl _)); (exact M.rd HL.out (Nat.le_refl _))); rintro e wc ⟨rfl, hb⟩; replace M := M.call hb; clear hb)))
    go_ret2
    rw [HW.out]
    exact ⟨rfl, M.below⟩

end Go.Proofs.Ythlpceoajhcliaa

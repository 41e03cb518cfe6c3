/-
  reed: Guided and Next, whole.
-/
import Derived.Test.YthlpceoajhcliaaGFew
namespace Go.Proofs.Ythlpceoajhcliaa
set_option linter.unusedSimpArgs false
set_option linter.unusedVariables false
open Go.RowKit

def guidedF (j : Jb) : Option Nat := firstB (fun n => readsP j (winS j).1 (winS j).2 n j.p0 j.p1 0 0) 5 0
def nextF (j : Jb) : Option Nat := firstB (fun n => stopsP j (winS j).1 (winS j).2 n j.p0 j.p1 0 0) 5 0
/-- What Guided and Next answer. -/
def guidedJ (j : Jb) : Int × Int := if checkJ j = 0 then (match guidedF j with | some n => ((n : Int), 0) | none => (0, 11)) else (0, checkJ j)
def nextJ (j : Jb) : Int × Int × Int := if checkJ j = 0 then (match nextF j with | some n => if n = 0 then (0, 0, 0) else (strokeP j (winS j).1 (winS j).2 n j.p0 j.p1 0 0, (n : Int), 0) | none => (0, 0, 11)) else (0, 0, checkJ j)

theorem Gn.of_mem {j : Jb} {A : Option Addr} {c : Nat} {s0 s1 : Int} {bg bx bm gG gJ : Nat} {w0 w : World} {ex : Nat → Prop} {L : List (Nat × BA)} (M : Mem w0 ex w L)
    (h : [(gG, .cells (gmA j A c s0 s1 bg bx)), (bx, .cells [.map (some bm)]), (bm, memG j s0 s1), (bg, .cells (gmA j A c s0 s1 bg bx)), (gJ, .cells [.int .i64 j.p0, .int .i64 j.p1, .int .i64 j.t0, .int .i64 j.t1, .int .i64 j.r0, .int .i64 j.r1, .int .i64 j.u0, .int .i64 j.u1, .int .i64 j.d0, .int .i64 j.d1, .int .i64 j.a0, .int .i64 j.a1, .int .i64 j.b0, .int .i64 j.b1, .int .i64 j.le, .slice A j.sh.length c, .int .i64 j.wi, .int .i64 j.me])].Sublist L) : Gn j A c s0 s1 bg bx bm gG gJ w := by
  have N := M.sub h
  have hnd := N.nd
  simp only [List.map_cons, List.map_nil, List.nodup_cons, List.mem_cons, not_or, List.not_mem_nil, not_false_eq_true, List.nodup_nil, and_true] at hnd
  obtain ⟨⟨-, n1, -, -⟩, ⟨n2, -, -⟩, ⟨n3, n4⟩, -⟩ := hnd
  exact ⟨⟨N.get (g := bg) (by (repeat' (first | exact List.mem_cons_self | refine List.mem_cons_of_mem _ ?_))), N.get (g := bx) (by (repeat' (first | exact List.mem_cons_self | refine List.mem_cons_of_mem _ ?_))), N.at (q := (bm, memG j s0 s1)) (by (repeat' (first | exact List.mem_cons_self | refine List.mem_cons_of_mem _ ?_))), fun e => n3 e.symm, n2⟩, N.get (g := gG) (by (repeat' (first | exact List.mem_cons_self | refine List.mem_cons_of_mem _ ?_))), N.get (g := gJ) (by (repeat' (first | exact List.mem_cons_self | refine List.mem_cons_of_mem _ ?_))), n1, fun e => n4 e.symm⟩

set_option maxRecDepth 100000 in
set_option maxHeartbeats 1000000 in
theorem Guided_any (j : Jb) (A : Option Addr) (c : Nat) (w : World) (hr : Rd w w.heap.size 2 A j.sh.length (rc j.sh)) (hn : j.sh.length ≤ 9223372036854775807) :
    Calls Try.prog 24 #[jobV j A c] w fun e w' => e = .returned (.tuple #[.int .i64 (guidedJ j).1, .int .i64 (guidedJ j).2]) ∧ Below w.heap.size w w' := by
  have HR := Lib.hid hr
  clear hr
  by_cases h0 : checkJ j = 0
  · have HJ := Lib.hid (good_of h0)
    have H0 := Lib.hid h0
    cases hq : guidedF j with
    | none =>
      have HF : Hid (firstB (fun n => readsP j (winS j).1 (winS j).2 n j.p0 j.p1 0 0) 5 0 = none) := hq
      have HW : Hid (guidedJ j = (0, 11)) := by show _ = _; unfold guidedJ; rw [if_pos h0, hq]
      clear h0 hq
      generalize guidedJ j = gj at *
      go_enter Try.func24, Try.ntmps24
      refine start noEx ?_
      intro wc M
      go_wp2_with (first | (refine m_ld1 M rfl rfl rfl (by (repeat' (first | exact List.mem_cons_self | refine List.mem_cons_of_mem _ ?_))) (by rfl) ?_) | (refine m_ldr M rfl rfl rfl (by (repeat' (first | exact List.mem_cons_self | refine List.mem_cons_of_mem _ ?_))) (by (try simp only [List.take_succ_cons, List.take_zero, List.take_nil, List.drop_succ_cons, List.drop_zero, List.drop_nil, List.cons_append, List.nil_append, List.append_nil, List.length_cons, List.length_nil, Nat.reduceAdd, Nat.zero_add, Nat.add_zero]); rfl) (by rfl) ?_) | (refine m_st M rfl rfl rfl (by first | exact (rfl : _ = Value.agg _) | exact (rfl : _ = Value.int _ _) | exact (rfl : _ = Value.bool _) | exact (rfl : _ = Value.slice _ _ _) | exact (rfl : _ = Value.pointer _) | exact (rfl : _ = Value.map _) | exact (rfl : _ = Value.func _ _ _) | exact (rfl : _ = Value.string _)) (by rfl) (by (repeat (first | exact Upd.head | apply Upd.tail))) (by (try simp only [List.take_succ_cons, List.take_zero, List.take_nil, List.drop_succ_cons, List.drop_zero, List.drop_nil, List.cons_append, List.nil_append, List.append_nil, List.length_cons, List.length_nil, Nat.reduceAdd, Nat.zero_add, Nat.add_zero]); rfl) (by simp) (by simp [Value.oneCell']) (by kernel_rfl) ?_; clear M; (try clear wc); intro wc M) | (refine m_al M rfl rfl ?_; clear M; (try clear wc); intro g wc M) | (refine m_bx M rfl rfl (by first | exact (rfl : _ = Value.agg _) | exact (rfl : _ = Value.int _ _) | exact (rfl : _ = Value.bool _) | exact (rfl : _ = Value.slice _ _ _) | exact (rfl : _ = Value.pointer _) | exact (rfl : _ = Value.map _) | exact (rfl : _ = Value.func _ _ _) | exact (rfl : _ = Value.string _)) (by rfl) ?_; clear M; (try clear wc); intro g wc M) | (go_at_call 49; ((with_reducible refine (check_any j _ _ _ ?_ ?_).mono ?_); ((exact M.rd HR.out (Nat.le_refl _)); (exact hn)); rw [H0.out]; rintro e wc ⟨rfl, hb⟩; replace M := M.call hb; clear hb)) | (go_at_call 72; refine (play_any (okG j (winS j).1 (winS j).2) j _ _ _ HJ.out.ok ?_).mono ?_; (exact M.rd HR.out (Nat.le_refl _)); rintro e wc ⟨bg, bx, bm, rfl, N⟩; replace M := M.join N; clear N; simp only [List.cons_append, List.nil_append] at M) | (go_at_call 73; refine (fewest_Guided j (winS j).1 (winS j).2 bm _ _ (fun n => readsP j (winS j).1 (winS j).2 n j.p0 j.p1 0 0) (Gn j A c (winS j).1 (winS j).2 bg bx bm _ _) (fun W W' h1 h2 h3 => h1.kept h2 h3) (fun n W hn h => Guided1_any j A c (winS j).1 (winS j).2 bg bx bm _ _ HJ.out n hn W h) _ (Gn.of_mem M (by (repeat (first | exact List.Sublist.slnil | apply List.Sublist.cons_cons | apply List.Sublist.cons)))) (M.at (q := (bm, memG j (winS j).1 (winS j).2)) (by (repeat' (first | exact List.mem_cons_self | refine List.mem_cons_of_mem _ ?_))))).mono ?_; rintro e wc ⟨rfl, hgr, hm⟩; rw [HF.out]; dsimp only [fewV]; replace M := M.callW (by (repeat (first | exact Upd.head | apply Upd.tail))) hgr hm; clear hgr hm))
      go_ret2
      rw [HW.out]
      exact ⟨rfl, M.below⟩
    | some n =>
      have HF : Hid (firstB (fun n => readsP j (winS j).1 (winS j).2 n j.p0 j.p1 0 0) 5 0 = some n) := hq
      have HW : Hid (guidedJ j = ((n : Int), 0)) := by show _ = _; unfold guidedJ; rw [if_pos h0, hq]
      clear h0 hq
      generalize guidedJ j = gj at *
      go_enter Try.func24, Try.ntmps24
      refine start noEx ?_
      intro wc M
      go_wp2_with (first | (refine m_ld1 M rfl rfl rfl (by (repeat' (first | exact List.mem_cons_self | refine List.mem_cons_of_mem _ ?_))) (by rfl) ?_) | (refine m_ldr M rfl rfl rfl (by (repeat' (first | exact List.mem_cons_self | refine List.mem_cons_of_mem _ ?_))) (by (try simp only [List.take_succ_cons, List.take_zero, List.take_nil, List.drop_succ_cons, List.drop_zero, List.drop_nil, List.cons_append, List.nil_append, List.append_nil, List.length_cons, List.length_nil, Nat.reduceAdd, Nat.zero_add, Nat.add_zero]); rfl) (by rfl) ?_) | (refine m_st M rfl rfl rfl (by first | exact (rfl : _ = Value.agg _) | exact (rfl : _ = Value.int _ _) | exact (rfl : _ = Value.bool _) | exact (rfl : _ = Value.slice _ _ _) | exact (rfl : _ = Value.pointer _) | exact (rfl : _ = Value.map _) | exact (rfl : _ = Value.func _ _ _) | exact (rfl : _ = Value.string _)) (by rfl) (by (repeat (first | exact Upd.head | apply Upd.tail))) (by (try simp only [List.take_succ_cons, List.take_zero, List.take_nil, List.drop_succ_cons, List.drop_zero, List.drop_nil, List.cons_append, List.nil_append, List.append_nil, List.length_cons, List.length_nil, Nat.reduceAdd, Nat.zero_add, Nat.add_zero]); rfl) (by simp) (by simp [Value.oneCell']) (by kernel_rfl) ?_; clear M; (try clear wc); intro wc M) | (refine m_al M rfl rfl ?_; clear M; (try clear wc); intro g wc M) | (refine m_bx M rfl rfl (by first | exact (rfl : _ = Value.agg _) | exact (rfl : _ = Value.int _ _) | exact (rfl : _ = Value.bool _) | exact (rfl : _ = Value.slice _ _ _) | exact (rfl : _ = Value.pointer _) | exact (rfl : _ = Value.map _) | exact (rfl : _ = Value.func _ _ _) | exact (rfl : _ = Value.string _)) (by rfl) ?_; clear M; (try clear wc); intro g wc M) | (go_at_call 49; ((with_reducible refine (check_any j _ _ _ ?_ ?_).mono ?_); ((exact M.rd HR.out (Nat.le_refl _)); (exact hn)); rw [H0.out]; rintro e wc ⟨rfl, hb⟩; replace M := M.call hb; clear hb)) | (go_at_call 72; refine (play_any (okG j (winS j).1 (winS j).2) j _ _ _ HJ.out.ok ?_).mono ?_; (exact M.rd HR.out (Nat.le_refl _)); rintro e wc ⟨bg, bx, bm, rfl, N⟩; replace M := M.join N; clear N; simp only [List.cons_append, List.nil_append] at M) | (go_at_call 73; refine (fewest_Guided j (winS j).1 (winS j).2 bm _ _ (fun n => readsP j (winS j).1 (winS j).2 n j.p0 j.p1 0 0) (Gn j A c (winS j).1 (winS j).2 bg bx bm _ _) (fun W W' h1 h2 h3 => h1.kept h2 h3) (fun n W hn h => Guided1_any j A c (winS j).1 (winS j).2 bg bx bm _ _ HJ.out n hn W h) _ (Gn.of_mem M (by (repeat (first | exact List.Sublist.slnil | apply List.Sublist.cons_cons | apply List.Sublist.cons)))) (M.at (q := (bm, memG j (winS j).1 (winS j).2)) (by (repeat' (first | exact List.mem_cons_self | refine List.mem_cons_of_mem _ ?_))))).mono ?_; rintro e wc ⟨rfl, hgr, hm⟩; rw [HF.out]; dsimp only [fewV]; replace M := M.callW (by (repeat (first | exact Upd.head | apply Upd.tail))) hgr hm; clear hgr hm))
      go_ret2
      rw [HW.out]
      exact ⟨rfl, M.below⟩
  · have h1 : (checkJ j != 0) = true := by simpa using h0
    have HW : Hid (guidedJ j = (0, checkJ j)) := by show _ = _; unfold guidedJ; rw [if_neg h0]
    clear h0
    generalize guidedJ j = gj at *
    go_enter Try.func24, Try.ntmps24
    refine start noEx ?_
    intro wc M
    go_wp2_with (first | (refine m_ld1 M rfl rfl rfl (by (repeat' (first | exact List.mem_cons_self | refine List.mem_cons_of_mem _ ?_))) (by rfl) ?_) | (refine m_ldr M rfl rfl rfl (by (repeat' (first | exact List.mem_cons_self | refine List.mem_cons_of_mem _ ?_))) (by (try simp only [List.take_succ_cons, List.take_zero, List.take_nil, List.drop_succ_cons, List.drop_zero, List.drop_nil, List.cons_append, List.nil_append, List.append_nil, List.length_cons, List.length_nil, Nat.reduceAdd, Nat.zero_add, Nat.add_zero]); rfl) (by rfl) ?_) | (refine m_st M rfl rfl rfl (by first | exact (rfl : _ = Value.agg _) | exact (rfl : _ = Value.int _ _) | exact (rfl : _ = Value.bool _) | exact (rfl : _ = Value.slice _ _ _) | exact (rfl : _ = Value.pointer _) | exact (rfl : _ = Value.map _) | exact (rfl : _ = Value.func _ _ _) | exact (rfl : _ = Value.string _)) (by rfl) (by (repeat (first | exact Upd.head | apply Upd.tail))) (by (try simp only [List.take_succ_cons, List.take_zero, List.take_nil, List.drop_succ_cons, List.drop_zero, List.drop_nil, List.cons_append, List.nil_append, List.append_nil, List.length_cons, List.length_nil, Nat.reduceAdd, Nat.zero_add, Nat.add_zero]); rfl) (by simp) (by simp [Value.oneCell']) (by kernel_rfl) ?_; clear M; (try clear wc); intro wc M) | (refine m_al M rfl rfl ?_; clear M; (try clear wc); intro g wc M) | (refine m_bx M rfl rfl (by first | exact (rfl : _ = Value.agg _) | exact (rfl : _ = Value.int _ _) | exact (rfl : _ = Value.bool _) | exact (rfl : _ = Value.slice _ _ _) | exact (rfl : _ = Value.pointer _) | exact (rfl : _ = Value.map _) | exact (rfl : _ = Value.func _ _ _) | exact (rfl : _ = Value.string _)) (by rfl) ?_; clear M; (try clear wc); intro g wc M) | (go_at_call 49; ((with_reducible refine (check_any j _ _ _ ?_ ?_).mono ?_); ((exact M.rd HR.out (Nat.le_refl _)); (exact hn)); rintro e wc ⟨rfl, hb⟩; replace M := M.call hb; clear hb)))
    go_ret2
    rw [HW.out]
    exact ⟨rfl, M.below⟩

set_option maxRecDepth 100000 in
set_option maxHeartbeats 1000000 in
theorem Next_any (j : Jb) (A : Option Addr) (c : Nat) (w : World) (hr : Rd w w.heap.size 2 A j.sh.length (rc j.sh)) (hn : j.sh.length ≤ 9223372036854775807) :
    Calls Try.prog 26 #[jobV j A c] w fun e w' => e = .returned (.tuple #[.int .i64 (nextJ j).1, .int .i64 (nextJ j).2.1, .int .i64 (nextJ j).2.2]) ∧ Below w.heap.size w w' := by
  have HR := Lib.hid hr
  clear hr
  by_cases h0 : checkJ j = 0
  · have HJ := Lib.hid (good_of h0)
    have H0 := Lib.hid h0
    cases hq : nextF j with
    | none =>
      have HF : Hid (firstB (fun n => stopsP j (winS j).1 (winS j).2 n j.p0 j.p1 0 0) 5 0 = none) := hq
      have HW : Hid (nextJ j = (0, 0, 11)) := by show _ = _; unfold nextJ; rw [if_pos h0, hq]
      clear h0 hq
      generalize nextJ j = gj at *
      go_enter Try.func26, Try.ntmps26
      refine start noEx ?_
      intro wc M
      go_wp2_with (first | (refine m_ld1 M rfl rfl rfl (by (repeat' (first | exact List.mem_cons_self | refine List.mem_cons_of_mem _ ?_))) (by rfl) ?_) | (refine m_ldr M rfl rfl rfl (by (repeat' (first | exact List.mem_cons_self | refine List.mem_cons_of_mem _ ?_))) (by (try simp only [List.take_succ_cons, List.take_zero, List.take_nil, List.drop_succ_cons, List.drop_zero, List.drop_nil, List.cons_append, List.nil_append, List.append_nil, List.length_cons, List.length_nil, Nat.reduceAdd, Nat.zero_add, Nat.add_zero]); rfl) (by rfl) ?_) | (refine m_st M rfl rfl rfl (by first | exact (rfl : _ = Value.agg _) | exact (rfl : _ = Value.int _ _) | exact (rfl : _ = Value.bool _) | exact (rfl : _ = Value.slice _ _ _) | exact (rfl : _ = Value.pointer _) | exact (rfl : _ = Value.map _) | exact (rfl : _ = Value.func _ _ _) | exact (rfl : _ = Value.string _)) (by rfl) (by (repeat (first | exact Upd.head | apply Upd.tail))) (by (try simp only [List.take_succ_cons, List.take_zero, List.take_nil, List.drop_succ_cons, List.drop_zero, List.drop_nil, List.cons_append, List.nil_append, List.append_nil, List.length_cons, List.length_nil, Nat.reduceAdd, Nat.zero_add, Nat.add_zero]); rfl) (by simp) (by simp [Value.oneCell']) (by kernel_rfl) ?_; clear M; (try clear wc); intro wc M) | (refine m_al M rfl rfl ?_; clear M; (try clear wc); intro g wc M) | (refine m_bx M rfl rfl (by first | exact (rfl : _ = Value.agg _) | exact (rfl : _ = Value.int _ _) | exact (rfl : _ = Value.bool _) | exact (rfl : _ = Value.slice _ _ _) | exact (rfl : _ = Value.pointer _) | exact (rfl : _ = Value.map _) | exact (rfl : _ = Value.func _ _ _) | exact (rfl : _ = Value.string _)) (by rfl) ?_; clear M; (try clear wc); intro g wc M) | (go_at_call 49; ((with_reducible refine (check_any j _ _ _ ?_ ?_).mono ?_); ((exact M.rd HR.out (Nat.le_refl _)); (exact hn)); rw [H0.out]; rintro e wc ⟨rfl, hb⟩; replace M := M.call hb; clear hb)) | (go_at_call 72; refine (play_any (okG j (winS j).1 (winS j).2) j _ _ _ HJ.out.ok ?_).mono ?_; (exact M.rd HR.out (Nat.le_refl _)); rintro e wc ⟨bg, bx, bm, rfl, N⟩; replace M := M.join N; clear N; simp only [List.cons_append, List.nil_append] at M) | (go_at_call 73; refine (fewest_Next j (winS j).1 (winS j).2 bm _ _ (fun n => stopsP j (winS j).1 (winS j).2 n j.p0 j.p1 0 0) (Gn j A c (winS j).1 (winS j).2 bg bx bm _ _) (fun W W' h1 h2 h3 => h1.kept h2 h3) (fun n W hn h => Next1_any j A c (winS j).1 (winS j).2 bg bx bm _ _ HJ.out n hn W h) _ (Gn.of_mem M (by (repeat (first | exact List.Sublist.slnil | apply List.Sublist.cons_cons | apply List.Sublist.cons)))) (M.at (q := (bm, memG j (winS j).1 (winS j).2)) (by (repeat' (first | exact List.mem_cons_self | refine List.mem_cons_of_mem _ ?_))))).mono ?_; rintro e wc ⟨rfl, hgr, hm⟩; rw [HF.out]; dsimp only [fewV]; replace M := M.callW (by (repeat (first | exact Upd.head | apply Upd.tail))) hgr hm; clear hgr hm))
      go_ret3
      rw [HW.out]
      exact ⟨rfl, M.below⟩
    | some n =>
      have hn5 : n < 5 := by have := first_lt hq; omega
      cases n with
      | zero =>
        have HF : Hid (firstB (fun n => stopsP j (winS j).1 (winS j).2 n j.p0 j.p1 0 0) 5 0 = some 0) := hq
        have HW : Hid (nextJ j = (0, 0, 0)) := by show _ = _; unfold nextJ; rw [if_pos h0, hq]; rfl
        clear h0 hq
        generalize nextJ j = gj at *
        go_enter Try.func26, Try.ntmps26
        refine start noEx ?_
        intro wc M
        go_wp2_with (first | (refine m_ld1 M rfl rfl rfl (by (repeat' (first | exact List.mem_cons_self | refine List.mem_cons_of_mem _ ?_))) (by rfl) ?_) | (refine m_ldr M rfl rfl rfl (by (repeat' (first | exact List.mem_cons_self | refine List.mem_cons_of_mem _ ?_))) (by (try simp only [List.take_succ_cons, List.take_zero, List.take_nil, List.drop_succ_cons, List.drop_zero, List.drop_nil, List.cons_append, List.nil_append, List.append_nil, List.length_cons, List.length_nil, Nat.reduceAdd, Nat.zero_add, Nat.add_zero]); rfl) (by rfl) ?_) | (refine m_st M rfl rfl rfl (by first | exact (rfl : _ = Value.agg _) | exact (rfl : _ = Value.int _ _) | exact (rfl : _ = Value.bool _) | exact (rfl : _ = Value.slice _ _ _) | exact (rfl : _ = Value.pointer _) | exact (rfl : _ = Value.map _) | exact (rfl : _ = Value.func _ _ _) | exact (rfl : _ = Value.string _)) (by rfl) (by (repeat (first | exact Upd.head | apply Upd.tail))) (by (try simp only [List.take_succ_cons, List.take_zero, List.take_nil, List.drop_succ_cons, List.drop_zero, List.drop_nil, List.cons_append, List.nil_append, List.append_nil, List.length_cons, List.length_nil, Nat.reduceAdd, Nat.zero_add, Nat.add_zero]); rfl) (by simp) (by simp [Value.oneCell']) (by kernel_rfl) ?_; clear M; (try clear wc); intro wc M) | (refine m_al M rfl rfl ?_; clear M; (try clear wc); intro g wc M) | (refine m_bx M rfl rfl (by first | exact (rfl : _ = Value.agg _) | exact (rfl : _ = Value.int _ _) | exact (rfl : _ = Value.bool _) | exact (rfl : _ = Value.slice _ _ _) | exact (rfl : _ = Value.pointer _) | exact (rfl : _ = Value.map _) | exact (rfl : _ = Value.func _ _ _) | exact (rfl : _ = Value.string _)) (by rfl) ?_; clear M; (try clear wc); intro g wc M) | (go_at_call 49; ((with_reducible refine (check_any j _ _ _ ?_ ?_).mono ?_); ((exact M.rd HR.out (Nat.le_refl _)); (exact hn)); rw [H0.out]; rintro e wc ⟨rfl, hb⟩; replace M := M.call hb; clear hb)) | (go_at_call 72; refine (play_any (okG j (winS j).1 (winS j).2) j _ _ _ HJ.out.ok ?_).mono ?_; (exact M.rd HR.out (Nat.le_refl _)); rintro e wc ⟨bg, bx, bm, rfl, N⟩; replace M := M.join N; clear N; simp only [List.cons_append, List.nil_append] at M) | (go_at_call 73; refine (fewest_Next j (winS j).1 (winS j).2 bm _ _ (fun n => stopsP j (winS j).1 (winS j).2 n j.p0 j.p1 0 0) (Gn j A c (winS j).1 (winS j).2 bg bx bm _ _) (fun W W' h1 h2 h3 => h1.kept h2 h3) (fun n W hn h => Next1_any j A c (winS j).1 (winS j).2 bg bx bm _ _ HJ.out n hn W h) _ (Gn.of_mem M (by (repeat (first | exact List.Sublist.slnil | apply List.Sublist.cons_cons | apply List.Sublist.cons)))) (M.at (q := (bm, memG j (winS j).1 (winS j).2)) (by (repeat' (first | exact List.mem_cons_self | refine List.mem_cons_of_mem _ ?_))))).mono ?_; rintro e wc ⟨rfl, hgr, hm⟩; rw [HF.out]; dsimp only [fewV]; replace M := M.callW (by (repeat (first | exact Upd.head | apply Upd.tail))) hgr hm; clear hgr hm))
        go_ret3
        rw [HW.out]
        exact ⟨rfl, M.below⟩

      | succ m =>
        obtain ⟨n, hnm⟩ : ∃ n, n = m + 1 := ⟨_, rfl⟩
        rw [← hnm] at hq hn5
        have hn0 : ((n : Int) == 0) = false := by simp; omega
        have hn1 : ¬ n = 0 := by omega
        clear hnm
        have HF : Hid (firstB (fun n => stopsP j (winS j).1 (winS j).2 n j.p0 j.p1 0 0) 5 0 = some n) := hq
        have HW : Hid (nextJ j = (strokeP j (winS j).1 (winS j).2 n j.p0 j.p1 0 0, (n : Int), 0)) := by show _ = _; unfold nextJ; rw [if_pos h0, hq]; exact if_neg hn1
        clear h0 hq
        generalize nextJ j = gj at *
        go_enter Try.func26, Try.ntmps26
        refine start noEx ?_
        intro wc M
        go_wp2_with (first | (refine m_ld1 M rfl rfl rfl (by (repeat' (first | exact List.mem_cons_self | refine List.mem_cons_of_mem _ ?_))) (by rfl) ?_) | (refine m_ldr M rfl rfl rfl (by (repeat' (first | exact List.mem_cons_self | refine List.mem_cons_of_mem _ ?_))) (by (try simp only [List.take_succ_cons, List.take_zero, List.take_nil, List.drop_succ_cons, List.drop_zero, List.drop_nil, List.cons_append, List.nil_append, List.append_nil, List.length_cons, List.length_nil, Nat.reduceAdd, Nat.zero_add, Nat.add_zero]); rfl) (by rfl) ?_) | (refine m_st M rfl rfl rfl (by first | exact (rfl : _ = Value.agg _) | exact (rfl : _ = Value.int _ _) | exact (rfl : _ = Value.bool _) | exact (rfl : _ = Value.slice _ _ _) | exact (rfl : _ = Value.pointer _) | exact (rfl : _ = Value.map _) | exact (rfl : _ = Value.func _ _ _) | exact (rfl : _ = Value.string _)) (by rfl) (by (repeat (first | exact Upd.head | apply Upd.tail))) (by (try simp only [List.take_succ_cons, List.take_zero, List.take_nil, List.drop_succ_cons, List.drop_zero, List.drop_nil, List.cons_append, List.nil_append, List.append_nil, List.length_cons, List.length_nil, Nat.reduceAdd, Nat.zero_add, Nat.add_zero]); rfl) (by simp) (by simp [Value.oneCell']) (by kernel_rfl) ?_; clear M; (try clear wc); intro wc M) | (refine m_al M rfl rfl ?_; clear M; (try clear wc); intro g wc M) | (refine m_bx M rfl rfl (by first | exact (rfl : _ = Value.agg _) | exact (rfl : _ = Value.int _ _) | exact (rfl : _ = Value.bool _) | exact (rfl : _ = Value.slice _ _ _) | exact (rfl : _ = Value.pointer _) | exact (rfl : _ = Value.map _) | exact (rfl : _ = Value.func _ _ _) | exact (rfl : _ = Value.string _)) (by rfl) ?_; clear M; (try clear wc); intro g wc M) | (go_at_call 49; ((with_reducible refine (check_any j _ _ _ ?_ ?_).mono ?_); ((exact M.rd HR.out (Nat.le_refl _)); (exact hn)); rw [H0.out]; rintro e wc ⟨rfl, hb⟩; replace M := M.call hb; clear hb)) | (go_at_call 72; refine (play_any (okG j (winS j).1 (winS j).2) j _ _ _ HJ.out.ok ?_).mono ?_; (exact M.rd HR.out (Nat.le_refl _)); rintro e wc ⟨bg, bx, bm, rfl, N⟩; replace M := M.join N; clear N; simp only [List.cons_append, List.nil_append] at M) | (go_at_call 73; refine (fewest_Next j (winS j).1 (winS j).2 bm _ _ (fun n => stopsP j (winS j).1 (winS j).2 n j.p0 j.p1 0 0) (Gn j A c (winS j).1 (winS j).2 bg bx bm _ _) (fun W W' h1 h2 h3 => h1.kept h2 h3) (fun n W hn h => Next1_any j A c (winS j).1 (winS j).2 bg bx bm _ _ HJ.out n hn W h) _ (Gn.of_mem M (by (repeat (first | exact List.Sublist.slnil | apply List.Sublist.cons_cons | apply List.Sublist.cons)))) (M.at (q := (bm, memG j (winS j).1 (winS j).2)) (by (repeat' (first | exact List.mem_cons_self | refine List.mem_cons_of_mem _ ?_))))).mono ?_; rintro e wc ⟨rfl, hgr, hm⟩; rw [HF.out]; dsimp only [fewV]; replace M := M.callW (by (repeat (first | exact Upd.head | apply Upd.tail))) hgr hm; clear hgr hm) | (go_at_call 78; refine (strokeC j A c (winS j).1 (winS j).2 bg bx bm HJ.out n j.p0 j.p1 0 0 _ (bnd_0 HJ.out hn5) (Gn.of_mem M (by (repeat (first | exact List.Sublist.slnil | apply List.Sublist.cons_cons | apply List.Sublist.cons)))).g).mono ?_; rintro e wc ⟨rfl, hgr, hm⟩; replace M := M.callW (by (repeat (first | exact Upd.head | apply Upd.tail))) hgr hm; clear hgr hm))
        go_ret3
        rw [HW.out]
        exact ⟨rfl, M.below⟩

  · have h1 : (checkJ j != 0) = true := by simpa using h0
    have HW : Hid (nextJ j = (0, 0, checkJ j)) := by show _ = _; unfold nextJ; rw [if_neg h0]
    clear h0
    generalize nextJ j = gj at *
    go_enter Try.func26, Try.ntmps26
    refine start noEx ?_
    intro wc M
    go_wp2_with (first | (refine m_ld1 M rfl rfl rfl (by (repeat' (first | exact List.mem_cons_self | refine List.mem_cons_of_mem _ ?_))) (by rfl) ?_) | (refine m_ldr M rfl rfl rfl (by (repeat' (first | exact List.mem_cons_self | refine List.mem_cons_of_mem _ ?_))) (by (try simp only [List.take_succ_cons, List.take_zero, List.take_nil, List.drop_succ_cons, List.drop_zero, List.drop_nil, List.cons_append, List.nil_append, List.append_nil, List.length_cons, List.length_nil, Nat.reduceAdd, Nat.zero_add, Nat.add_zero]); rfl) (by rfl) ?_) | (refine m_st M rfl rfl rfl (by first | exact (rfl : _ = Value.agg _) | exact (rfl : _ = Value.int _ _) | exact (rfl : _ = Value.bool _) | exact (rfl : _ = Value.slice _ _ _) | exact (rfl : _ = Value.pointer _) | exact (rfl : _ = Value.map _) | exact (rfl : _ = Value.func _ _ _) | exact (rfl : _ = Value.string _)) (by rfl) (by (repeat (first | exact Upd.head | apply Upd.tail))) (by (try simp only [List.take_succ_cons, List.take_zero, List.take_nil, List.drop_succ_cons, List.drop_zero, List.drop_nil, List.cons_append, List.nil_append, List.append_nil, List.length_cons, List.length_nil, Nat.reduceAdd, Nat.zero_add, Nat.add_zero]); rfl) (by simp) (by simp [Value.oneCell']) (by kernel_rfl) ?_; clear M; (try clear wc); intro wc M) | (refine m_al M rfl rfl ?_; clear M; (try clear wc); intro g wc M) | (refine m_bx M rfl rfl (by first | exact (rfl : _ = Value.agg _) | exact (rfl : _ = Value.int _ _) | exact (rfl : _ = Value.bool _) | exact (rfl : _ = Value.slice _ _ _) | exact (rfl : _ = Value.pointer _) | exact (rfl : _ = Value.map _) | exact (rfl : _ = Value.func _ _ _) | exact (rfl : _ = Value.string _)) (by rfl) ?_; clear M; (try clear wc); intro g wc M) | (go_at_call 49; ((with_reducible refine (check_any j _ _ _ ?_ ?_).mono ?_); ((exact M.rd HR.out (Nat.le_refl _)); (exact hn)); rintro e wc ⟨rfl, hb⟩; replace M := M.call hb; clear hb)))
    go_ret3
    rw [HW.out]
    exact ⟨rfl, M.below⟩

end Go.Proofs.Ythlpceoajhcliaa

/-
  The law ReedWindow, walked.
-/
import Derived.Test.YthlpceoajhcliaaPWin
import Derived.Test.YthlpceoajhcliaaKIn
import Derived.Test.YthlpceoajhcliaaKJob
import Derived.Test.YthlpceoajhcliaaKTun
namespace Go.Proofs.Ythlpceoajhcliaa
set_option linter.unusedSimpArgs false
set_option linter.unusedVariables false
open Go.RowKit

theorem Sl.rd' {e size n c : Nat} {A : Option Addr} {xs : List Value} {I L : List (Nat × BA)} {w0 w : World} {ex : Nat → Prop} (h : Sl e size (.slice A n c) n xs I) (M : Mem w0 ex w (I ++ L)) : Rd w w.heap.size size A n xs := by
  obtain ⟨A', cap, e, hr⟩ := h.rd M
  injection e with e _ _
  rw [e]
  exact hr
theorem win_cases {j : Jb} (h : j.good) : (windowJ j = (winS j, 0) ∧ (winS j).1 ≤ (winS j).2) ∨ (windowJ j = ((0, 0), 11) ∧ (winS j).2 < (winS j).1) := by
  unfold windowJ
  rw [if_pos (check_of_good h)]
  by_cases h2 : (winS j).2 < (winS j).1
  · rw [if_pos h2]; exact .inr ⟨rfl, h2⟩
  · rw [if_neg h2]; exact .inl ⟨rfl, by omega⟩

/-- A job with another pitch. -/
abbrev Jb.at (j : Jb) (n : Int) : Jb := { j with p0 := n, p1 := n }
theorem good_at {j : Jb} (h : j.good) {n : Int} (h0 : -60 ≤ n ∧ n ≤ 60) : (j.at n).good := ⟨by dsimp only; omega, h.t, h.r, h.u, h.d, h.a, h.b, h.le, h.few, h.sh, h.wi, h.me⟩
theorem Passes_n {j : Jb} (h : j.good) {n : Int} (h0 : -60 ≤ n ∧ n ≤ 60) (A : Option Addr) (c : Nat) (w : World) (hr : Rd w w.heap.size 2 A j.sh.length (rc j.sh)) (hn : j.sh.length ≤ 9223372036854775807) :
    Calls Try.prog 46 #[jobV (j.at n) A c] w fun e w' => e = .returned (.tuple #[.int .i64 (passesJ (j.at n) n n), .int .i64 0]) ∧ Below w.heap.size w w' := by
  have e : passesT (j.at n) = (passesJ (j.at n) n n, 0) := by unfold passesT; rw [if_pos (check_of_good (good_at h h0))]
  have := Passes_any (j.at n) A c w hr hn
  rw [e] at this
  exact this
theorem Worst_n {j : Jb} (h : j.good) {n : Int} (h0 : -60 ≤ n ∧ n ≤ 60) (A : Option Addr) (c : Nat) (w : World) (hr : Rd w w.heap.size 2 A j.sh.length (rc j.sh)) (hn : j.sh.length ≤ 9223372036854775807) :
    Calls Try.prog 51 #[jobV (j.at n) A c, .slice none 0 0] w fun e w' => e = .returned (.tuple #[.int .i64 (worstF n n j.sh), .int .i64 0]) ∧ Below w.heap.size w w' := by
  have e : worstT (j.at n) [] = (worstF n n j.sh, 0) := by unfold worstT; rw [if_pos (strokes_nil (good_at h h0))]; rfl
  have := Worst_any (j.at n) A c none 0 0 [] w hr hn Rd.empty (by omega)
  rw [e] at this
  exact this
/-- The three verdicts. -/
theorem verdicts {j : Jb} (h : j.good) (n x0 x1 : Int) (hx : inB x0 x1 n = hasB (winS j).1 (winS j).2 n n) :
    (passesJ (j.at n) n n = 1 ∧ inB x0 x1 n = true ∧ worstF n n j.sh ≤ j.wi) ∨ (passesJ (j.at n) n n = 2 ∧ inB x0 x1 n = false ∧ j.wi < worstF n n j.sh) ∨ (passesJ (j.at n) n n = 3 ∧ inB x0 x1 n = false ∧ j.wi < worstF n n j.sh) := by
  have h1 := passes_1 (j.at n) n n
  have h13 := passes_13 (j.at n) n n
  have hw : hasB (winS j).1 (winS j).2 n n = decide (worstF n n j.sh ≤ j.wi) := by
    rcases has_iff j n with h2 | h2
    · exact h2
    · have := h.wi; omega
  have hs : winS (j.at n) = winS j := rfl
  rw [hs, hw] at h1
  rw [hx, hw]
  by_cases hle : worstF n n j.sh ≤ j.wi
  · rw [decide_eq_true hle] at h1 ⊢
    exact .inl ⟨by simpa using h1, rfl, hle⟩
  · rw [decide_eq_false hle] at h1 ⊢
    have h4 : passesJ (j.at n) n n ≠ 1 := by simpa using h1
    rcases (by omega : passesJ (j.at n) n n = 2 ∨ passesJ (j.at n) n n = 3) with h5 | h5
    · exact .inr (.inl ⟨h5, rfl, by omega⟩)
    · exact .inr (.inr ⟨h5, rfl, by omega⟩)

set_option maxRecDepth 100000 in
set_option maxHeartbeats 4000000 in
theorem ReedWindow_any (A : Option Addr) (n c : Nat) (l : List Int) (w : World) (hr : Rd w w.heap.size 1 A n (ic l)) (hn : n ≤ 9223372036854775807) :
    Calls Try.prog 11 #[.slice A n c] w fun e w' => e = .returned (.bool true) ∧ Below w.heap.size w w' := by
  have HR := Lib.hid hr
  clear hr
  go_enter Try.func11, Try.ntmps11
  refine start noEx ?_
  intro wc M
  go_wp2_with (first | (refine m_ld1 M rfl rfl rfl (by (repeat' (first | exact List.mem_cons_self | refine List.mem_cons_of_mem _ ?_))) (by rfl) ?_) | (refine m_ldr M rfl rfl rfl (by (repeat' (first | exact List.mem_cons_self | refine List.mem_cons_of_mem _ ?_))) (by (try simp only [List.take_succ_cons, List.take_zero, List.take_nil, List.drop_succ_cons, List.drop_zero, List.drop_nil, List.cons_append, List.nil_append, List.append_nil, List.length_cons, List.length_nil, Nat.reduceAdd, Nat.zero_add, Nat.add_zero]); rfl) (by rfl) ?_) | (refine m_st M rfl rfl rfl (by first | exact (rfl : _ = Value.agg _) | exact (rfl : _ = Value.int _ _) | exact (rfl : _ = Value.bool _) | exact (rfl : _ = Value.slice _ _ _) | exact (rfl : _ = Value.pointer _) | exact (rfl : _ = Value.map _) | exact (rfl : _ = Value.func _ _ _) | exact (rfl : _ = Value.string _)) (by rfl) (by (repeat (first | exact Upd.head | apply Upd.tail))) (by (try simp only [List.take_succ_cons, List.take_zero, List.take_nil, List.drop_succ_cons, List.drop_zero, List.drop_nil, List.cons_append, List.nil_append, List.append_nil, List.length_cons, List.length_nil, Nat.reduceAdd, Nat.zero_add, Nat.add_zero]); rfl) (by simp) (by simp [Value.oneCell']) (by kernel_rfl) ?_; clear M; (try clear wc); intro wc M) | (refine m_al M rfl rfl ?_; clear M; (try clear wc); intro g wc M) | (refine m_bx M rfl rfl (by first | exact (rfl : _ = Value.agg _) | exact (rfl : _ = Value.int _ _) | exact (rfl : _ = Value.bool _) | exact (rfl : _ = Value.slice _ _ _) | exact (rfl : _ = Value.pointer _) | exact (rfl : _ = Value.map _) | exact (rfl : _ = Value.func _ _ _) | exact (rfl : _ = Value.string _)) (by rfl) ?_; clear M; (try clear wc); intro g wc M) | (go_at_call 16; refine (newPot_any _ _ _ l _ (M.rd HR.out (Nat.le_refl _)) hn).mono ?_; rintro e wc ⟨bp, s, hs, rfl, N⟩; have HS := Lib.hid hs; clear hs; replace M := M.join N; clear N; simp only [List.cons_append, List.nil_append] at M) | (go_at_call 17; refine (jobOf_any _ bp 5 2 _ (by omega) (by omega) (by omega) (by omega) (M.get (by (repeat' (first | exact List.mem_cons_self | refine List.mem_cons_of_mem _ ?_)))) HS.out).mono ?_; rintro e wc ⟨j, JA, jc, s, I, rfl, hj, hs, hsl, N⟩; have B0 := (M.callC (cs' := [.int .u64 s]) (by (repeat (first | exact Upd.head | apply Upd.tail))) N.grown (N.at (q := (bp, .cells [.int .u64 s])) (by simp))).below; have hrd := hsl.rd' N; have HJ := Lib.hid hj; have HG := Lib.hid hj.good; have hfew : j.sh.length ≤ 9223372036854775807 := (by have := hj.few; omega); clear HS hs hsl N hj; obtain ⟨W5, h5⟩ : ∃ x, x = wc := ⟨_, rfl⟩; rw [← h5] at hrd B0; have HRD := Lib.hid hrd; clear hrd; replace M : Mem W5 noEx wc [] := (h5 ▸ Mem.init W5 noEx); clear h5) | (go_at_call 33; refine (Window_any j _ _ _ (M.rd HRD.out (Nat.le_refl _)) hfew).mono ?_; rintro e wc ⟨rfl, hb⟩; replace M := M.call hb; clear hb; rcases win_cases HG.out with ⟨hw, hle⟩ | ⟨hw, hle⟩ <;> (rw [hw]; have HLE := Lib.hid hle; clear hw hle)) | (go_at_call 31; ((with_reducible refine (to_any _ _ _).mono ?_); skip; rintro e wc ⟨rfl, hb⟩; replace M := M.call hb; clear hb)))
  · rename_i gJ wq K0 hK0
    obtain ⟨x0, x1, HX, M⟩ : ∃ x0 x1 : Int, Hid (∀ n, inB x0 x1 n = hasB (winS j).1 (winS j).2 n n) ∧ Mem W5 noEx wc [(g, .cells [.int .i64 x0, .int .i64 x1]), (gJ, .cells [.int .i64 j.p0, .int .i64 j.p1, .int .i64 j.t0, .int .i64 j.t1, .int .i64 j.r0, .int .i64 j.r1, .int .i64 j.u0, .int .i64 j.u1, .int .i64 j.d0, .int .i64 j.d1, .int .i64 j.a0, .int .i64 j.a1, .int .i64 j.b0, .int .i64 j.b1, .int .i64 j.le, .slice JA j.sh.length jc, .int .i64 j.wi, .int .i64 j.me])] := ⟨_, _, fun n => rfl, M⟩
    have HWI := Lib.hid HG.out.wi
    go_loopw [6] (fun v wr => ∃ i q0 q1 : Int, -20 ≤ i ∧ i ≤ 21 ∧ v = .int .i64 i ∧ Mem W5 noEx wr [(g, .cells [.int .i64 x0, .int .i64 x1]), (gJ, .cells [.int .i64 q0, .int .i64 q1, .int .i64 j.t0, .int .i64 j.t1, .int .i64 j.r0, .int .i64 j.r1, .int .i64 j.u0, .int .i64 j.u1, .int .i64 j.d0, .int .i64 j.d1, .int .i64 j.a0, .int .i64 j.a1, .int .i64 j.b0, .int .i64 j.b1, .int .i64 j.le, .slice JA j.sh.length jc, .int .i64 j.wi, .int .i64 j.me])]) (fun v _ => (21 - intOf v).toNat)
    case atStart => exact ⟨-20, j.p0, j.p1, by omega, by omega, rfl, M⟩
    case round =>
      clear M
      obtain ⟨i, q0, q1, hi0, hi1, rfl, M⟩ := hrel
      obtain ⟨wc, rfl⟩ : ∃ x : World, x = wr := ⟨_, rfl⟩
      by_cases hlt : i ≤ 20
      · rcases verdicts HG.out i x0 x1 (HX.out i) with ⟨hp, hi, hle⟩ | ⟨hp, hi, hle⟩ | ⟨hp, hi, hle⟩
        all_goals
          have HP := Lib.hid hp
          have HI := Lib.hid hi
          clear hp hi
          generalize hwv : worstF i i j.sh = wv at *
          have HWV := Lib.hid hwv
          clear hwv
          go_wp2_with (first | (refine m_ld1 M rfl rfl rfl (by (repeat' (first | exact List.mem_cons_self | refine List.mem_cons_of_mem _ ?_))) (by rfl) ?_) | (refine m_ldr M rfl rfl rfl (by (repeat' (first | exact List.mem_cons_self | refine List.mem_cons_of_mem _ ?_))) (by (try simp only [List.take_succ_cons, List.take_zero, List.take_nil, List.drop_succ_cons, List.drop_zero, List.drop_nil, List.cons_append, List.nil_append, List.append_nil, List.length_cons, List.length_nil, Nat.reduceAdd, Nat.zero_add, Nat.add_zero]); rfl) (by rfl) ?_) | (refine m_st M rfl rfl rfl (by first | exact (rfl : _ = Value.agg _) | exact (rfl : _ = Value.int _ _) | exact (rfl : _ = Value.bool _) | exact (rfl : _ = Value.slice _ _ _) | exact (rfl : _ = Value.pointer _) | exact (rfl : _ = Value.map _) | exact (rfl : _ = Value.func _ _ _) | exact (rfl : _ = Value.string _)) (by rfl) (by (repeat (first | exact Upd.head | apply Upd.tail))) (by (try simp only [List.take_succ_cons, List.take_zero, List.take_nil, List.drop_succ_cons, List.drop_zero, List.drop_nil, List.cons_append, List.nil_append, List.append_nil, List.length_cons, List.length_nil, Nat.reduceAdd, Nat.zero_add, Nat.add_zero]); rfl) (by simp) (by simp [Value.oneCell']) (by kernel_rfl) ?_; clear M; (try clear wc); intro wc M) | (refine m_al M rfl rfl ?_; clear M; (try clear wc); intro g wc M) | (refine m_bx M rfl rfl (by first | exact (rfl : _ = Value.agg _) | exact (rfl : _ = Value.int _ _) | exact (rfl : _ = Value.bool _) | exact (rfl : _ = Value.slice _ _ _) | exact (rfl : _ = Value.pointer _) | exact (rfl : _ = Value.map _) | exact (rfl : _ = Value.func _ _ _) | exact (rfl : _ = Value.string _)) (by rfl) ?_; clear M; (try clear wc); intro g wc M) | (go_at_call 31; ((with_reducible refine (to_any _ _ _).mono ?_); skip; rintro e wc ⟨rfl, hb⟩; replace M := M.call hb; clear hb)) | (go_at_call 46; refine (Passes_n HG.out (n := i) ⟨by omega, by omega⟩ JA jc _ (M.rd HRD.out (Nat.le_refl _)) hfew).mono ?_; rintro e wc ⟨rfl, hb⟩; rw [HP.out]; replace M := M.call hb; clear hb) | (go_at_call 51; refine (Worst_n HG.out (n := i) ⟨by omega, by omega⟩ JA jc _ (M.rd HRD.out (Nat.le_refl _)) hfew).mono ?_; rintro e wc ⟨rfl, hb⟩; rw [HWV.out]; replace M := M.call hb; clear hb) | (go_at_call 39; refine (in_any _ _ _ _).mono ?_; rintro e wc ⟨rfl, hb⟩; rw [HI.out]; replace M := M.call hb; clear hb))
          go_roundw
          case rel => exact ⟨i + 1, i, i, by omega, by omega, rfl, M⟩
          case measure => simp [intOf]; omega
      · go_wp2_with (first | (refine m_ld1 M rfl rfl rfl (by (repeat' (first | exact List.mem_cons_self | refine List.mem_cons_of_mem _ ?_))) (by rfl) ?_) | (refine m_ldr M rfl rfl rfl (by (repeat' (first | exact List.mem_cons_self | refine List.mem_cons_of_mem _ ?_))) (by (try simp only [List.take_succ_cons, List.take_zero, List.take_nil, List.drop_succ_cons, List.drop_zero, List.drop_nil, List.cons_append, List.nil_append, List.append_nil, List.length_cons, List.length_nil, Nat.reduceAdd, Nat.zero_add, Nat.add_zero]); rfl) (by rfl) ?_) | (refine m_st M rfl rfl rfl (by first | exact (rfl : _ = Value.agg _) | exact (rfl : _ = Value.int _ _) | exact (rfl : _ = Value.bool _) | exact (rfl : _ = Value.slice _ _ _) | exact (rfl : _ = Value.pointer _) | exact (rfl : _ = Value.map _) | exact (rfl : _ = Value.func _ _ _) | exact (rfl : _ = Value.string _)) (by rfl) (by (repeat (first | exact Upd.head | apply Upd.tail))) (by (try simp only [List.take_succ_cons, List.take_zero, List.take_nil, List.drop_succ_cons, List.drop_zero, List.drop_nil, List.cons_append, List.nil_append, List.append_nil, List.length_cons, List.length_nil, Nat.reduceAdd, Nat.zero_add, Nat.add_zero]); rfl) (by simp) (by simp [Value.oneCell']) (by kernel_rfl) ?_; clear M; (try clear wc); intro wc M) | (refine m_al M rfl rfl ?_; clear M; (try clear wc); intro g wc M) | (refine m_bx M rfl rfl (by first | exact (rfl : _ = Value.agg _) | exact (rfl : _ = Value.int _ _) | exact (rfl : _ = Value.bool _) | exact (rfl : _ = Value.slice _ _ _) | exact (rfl : _ = Value.pointer _) | exact (rfl : _ = Value.map _) | exact (rfl : _ = Value.func _ _ _) | exact (rfl : _ = Value.string _)) (by rfl) ?_; clear M; (try clear wc); intro g wc M) | (go_at_call 15; ((with_reducible refine (tuned_any _).mono ?_); skip; rintro e wc ⟨rfl, hb⟩; replace M := M.call hb; clear hb)))
        go_ret
        exact ⟨rfl, B0.trans (M.below.mono B0.size)⟩
  · rename_i gJ wq wq2 K0 hK0
    obtain ⟨x0, x1, HX, M⟩ : ∃ x0 x1 : Int, Hid (∀ n, inB x0 x1 n = hasB (winS j).1 (winS j).2 n n) ∧ Mem W5 noEx wc [(g, .cells [.int .i64 x0, .int .i64 x1]), (gJ, .cells [.int .i64 j.p0, .int .i64 j.p1, .int .i64 j.t0, .int .i64 j.t1, .int .i64 j.r0, .int .i64 j.r1, .int .i64 j.u0, .int .i64 j.u1, .int .i64 j.d0, .int .i64 j.d1, .int .i64 j.a0, .int .i64 j.a1, .int .i64 j.b0, .int .i64 j.b1, .int .i64 j.le, .slice JA j.sh.length jc, .int .i64 j.wi, .int .i64 j.me])] := ⟨_, _, fun n => (by have h := HLE.out; unfold inB hasB; rw [decide_eq_decide]; omega), M⟩
    have HWI := Lib.hid HG.out.wi
    go_loopw [6] (fun v wr => ∃ i q0 q1 : Int, -20 ≤ i ∧ i ≤ 21 ∧ v = .int .i64 i ∧ Mem W5 noEx wr [(g, .cells [.int .i64 x0, .int .i64 x1]), (gJ, .cells [.int .i64 q0, .int .i64 q1, .int .i64 j.t0, .int .i64 j.t1, .int .i64 j.r0, .int .i64 j.r1, .int .i64 j.u0, .int .i64 j.u1, .int .i64 j.d0, .int .i64 j.d1, .int .i64 j.a0, .int .i64 j.a1, .int .i64 j.b0, .int .i64 j.b1, .int .i64 j.le, .slice JA j.sh.length jc, .int .i64 j.wi, .int .i64 j.me])]) (fun v _ => (21 - intOf v).toNat)
    case atStart => exact ⟨-20, j.p0, j.p1, by omega, by omega, rfl, M⟩
    case round =>
      clear M
      obtain ⟨i, q0, q1, hi0, hi1, rfl, M⟩ := hrel
      obtain ⟨wc, rfl⟩ : ∃ x : World, x = wr := ⟨_, rfl⟩
      by_cases hlt : i ≤ 20
      · rcases verdicts HG.out i x0 x1 (HX.out i) with ⟨hp, hi, hle⟩ | ⟨hp, hi, hle⟩ | ⟨hp, hi, hle⟩
        all_goals
          have HP := Lib.hid hp
          have HI := Lib.hid hi
          clear hp hi
          generalize hwv : worstF i i j.sh = wv at *
          have HWV := Lib.hid hwv
          clear hwv
          go_wp2_with (first | (refine m_ld1 M rfl rfl rfl (by (repeat' (first | exact List.mem_cons_self | refine List.mem_cons_of_mem _ ?_))) (by rfl) ?_) | (refine m_ldr M rfl rfl rfl (by (repeat' (first | exact List.mem_cons_self | refine List.mem_cons_of_mem _ ?_))) (by (try simp only [List.take_succ_cons, List.take_zero, List.take_nil, List.drop_succ_cons, List.drop_zero, List.drop_nil, List.cons_append, List.nil_append, List.append_nil, List.length_cons, List.length_nil, Nat.reduceAdd, Nat.zero_add, Nat.add_zero]); rfl) (by rfl) ?_) | (refine m_st M rfl rfl rfl (by first | exact (rfl : _ = Value.agg _) | exact (rfl : _ = Value.int _ _) | exact (rfl : _ = Value.bool _) | exact (rfl : _ = Value.slice _ _ _) | exact (rfl : _ = Value.pointer _) | exact (rfl : _ = Value.map _) | exact (rfl : _ = Value.func _ _ _) | exact (rfl : _ = Value.string _)) (by rfl) (by (repeat (first | exact Upd.head | apply Upd.tail))) (by (try simp only [List.take_succ_cons, List.take_zero, List.take_nil, List.drop_succ_cons, List.drop_zero, List.drop_nil, List.cons_append, List.nil_append, List.append_nil, List.length_cons, List.length_nil, Nat.reduceAdd, Nat.zero_add, Nat.add_zero]); rfl) (by simp) (by simp [Value.oneCell']) (by kernel_rfl) ?_; clear M; (try clear wc); intro wc M) | (refine m_al M rfl rfl ?_; clear M; (try clear wc); intro g wc M) | (refine m_bx M rfl rfl (by first | exact (rfl : _ = Value.agg _) | exact (rfl : _ = Value.int _ _) | exact (rfl : _ = Value.bool _) | exact (rfl : _ = Value.slice _ _ _) | exact (rfl : _ = Value.pointer _) | exact (rfl : _ = Value.map _) | exact (rfl : _ = Value.func _ _ _) | exact (rfl : _ = Value.string _)) (by rfl) ?_; clear M; (try clear wc); intro g wc M) | (go_at_call 31; ((with_reducible refine (to_any _ _ _).mono ?_); skip; rintro e wc ⟨rfl, hb⟩; replace M := M.call hb; clear hb)) | (go_at_call 46; refine (Passes_n HG.out (n := i) ⟨by omega, by omega⟩ JA jc _ (M.rd HRD.out (Nat.le_refl _)) hfew).mono ?_; rintro e wc ⟨rfl, hb⟩; rw [HP.out]; replace M := M.call hb; clear hb) | (go_at_call 51; refine (Worst_n HG.out (n := i) ⟨by omega, by omega⟩ JA jc _ (M.rd HRD.out (Nat.le_refl _)) hfew).mono ?_; rintro e wc ⟨rfl, hb⟩; rw [HWV.out]; replace M := M.call hb; clear hb) | (go_at_call 39; refine (in_any _ _ _ _).mono ?_; rintro e wc ⟨rfl, hb⟩; rw [HI.out]; replace M := M.call hb; clear hb))
          go_roundw
          case rel => exact ⟨i + 1, i, i, by omega, by omega, rfl, M⟩
          case measure => simp [intOf]; omega
      · go_wp2_with (first | (refine m_ld1 M rfl rfl rfl (by (repeat' (first | exact List.mem_cons_self | refine List.mem_cons_of_mem _ ?_))) (by rfl) ?_) | (refine m_ldr M rfl rfl rfl (by (repeat' (first | exact List.mem_cons_self | refine List.mem_cons_of_mem _ ?_))) (by (try simp only [List.take_succ_cons, List.take_zero, List.take_nil, List.drop_succ_cons, List.drop_zero, List.drop_nil, List.cons_append, List.nil_append, List.append_nil, List.length_cons, List.length_nil, Nat.reduceAdd, Nat.zero_add, Nat.add_zero]); rfl) (by rfl) ?_) | (refine m_st M rfl rfl rfl (by first | exact (rfl : _ = Value.agg _) | exact (rfl : _ = Value.int _ _) | exact (rfl : _ = Value.bool _) | exact (rfl : _ = Value.slice _ _ _) | exact (rfl : _ = Value.pointer _) | exact (rfl : _ = Value.map _) | exact (rfl : _ = Value.func _ _ _) | exact (rfl : _ = Value.string _)) (by rfl) (by (repeat (first | exact Upd.head | apply Upd.tail))) (by (try simp only [List.take_succ_cons, List.take_zero, List.take_nil, List.drop_succ_cons, List.drop_zero, List.drop_nil, List.cons_append, List.nil_append, List.append_nil, List.length_cons, List.length_nil, Nat.reduceAdd, Nat.zero_add, Nat.add_zero]); rfl) (by simp) (by simp [Value.oneCell']) (by kernel_rfl) ?_; clear M; (try clear wc); intro wc M) | (refine m_al M rfl rfl ?_; clear M; (try clear wc); intro g wc M) | (refine m_bx M rfl rfl (by first | exact (rfl : _ = Value.agg _) | exact (rfl : _ = Value.int _ _) | exact (rfl : _ = Value.bool _) | exact (rfl : _ = Value.slice _ _ _) | exact (rfl : _ = Value.pointer _) | exact (rfl : _ = Value.map _) | exact (rfl : _ = Value.func _ _ _) | exact (rfl : _ = Value.string _)) (by rfl) ?_; clear M; (try clear wc); intro g wc M) | (go_at_call 15; ((with_reducible refine (tuned_any _).mono ?_); skip; rintro e wc ⟨rfl, hb⟩; replace M := M.call hb; clear hb)))
        go_ret
        exact ⟨rfl, B0.trans (M.below.mono B0.size)⟩

end Go.Proofs.Ythlpceoajhcliaa

/-
  Walks of functions, and plain laws (texts put together). No condition.
-/
import Derived.Test.YthlpceoajhcliaaMReedAll1
import Derived.Test.YthlpceoajhcliaaMReedAll2

section
/-
  reed: Guided and Next.
-/
namespace Go.Proofs.Ythlpceoajhcliaa
set_option linter.unusedSimpArgs false
set_option linter.unusedVariables false
open Go.RowKit

/-- The first number for which something is so. -/
def firstB (b : Nat → Bool) : Nat → Nat → Option Nat
  | 0, _ => none
  | k + 1, n => if b n = true then some n else firstB b k (n + 1)
theorem first_hit {b : Nat → Bool} {n : Nat} (hn : n < 5) (h : b n = true) : firstB b (5 - n) n = some n := by
  obtain ⟨k, hk⟩ : ∃ k, 5 - n = k + 1 := ⟨4 - n, by omega⟩
  rw [hk, firstB, if_pos h]
theorem first_miss {b : Nat → Bool} {n : Nat} (hn : n < 5) (h : b n = false) : firstB b (5 - n) n = firstB b (5 - (n + 1)) (n + 1) := by
  obtain ⟨k, hk⟩ : ∃ k, 5 - n = k + 1 := ⟨4 - n, by omega⟩
  have hk2 : 5 - (n + 1) = k := by omega
  rw [hk, firstB, if_neg (by rw [h]; simp), hk2]
theorem first_end {b : Nat → Bool} {n : Nat} (hn : 5 ≤ n) : firstB b (5 - n) n = none := by
  have : 5 - n = 0 := by omega
  rw [this]; rfl
theorem first_lt {b : Nat → Bool} : ∀ {k n m : Nat}, firstB b k n = some m → m < n + k
  | 0, _, _, h => by cases h
  | k + 1, n, m, h => by
    unfold firstB at h
    split at h
    · injection h with h; omega
    · have := first_lt h; omega
def fewV (o : Option Nat) : Value := match o with | some n => .tuple #[.int .i64 n, .bool true] | none => .tuple #[.int .i64 0, .bool false]

set_option maxRecDepth 100000 in
set_option maxHeartbeats 1000000 in
theorem fewest_Guided (j : Jb) (s0 s1 : Int) (bm gG gJ : Nat) (b : Nat → Bool) (Inv : World → Prop) (hI : ∀ W W', Inv W → W.grownBy W' (some bm) → (memG j s0 s1).holds W' bm → Inv W')
    (hf : ∀ (n : Nat) W, n < 5 → Inv W → Calls Try.prog 74 #[.int .i64 n, .pointer (some ⟨gG, 0, none⟩), .pointer (some ⟨gJ, 0, none⟩)] W (GPost j s0 s1 bm (.bool (b n)) W)) (w : World) (h0 : Inv w) (hm : (memG j s0 s1).holds w bm) :
    Calls Try.prog 73 #[.func (.func 74) #[] #[.pointer (some ⟨gG, 0, none⟩), .pointer (some ⟨gJ, 0, none⟩)]] w (GPost j s0 s1 bm (fewV (firstB b 5 0)) w) := by
  have HI := Lib.hid hI
  have HF := Lib.hid hf
  have H0 := Lib.hid h0
  have M := Mem.initEx hm
  clear hI hf h0 hm
  generalize hv : firstB b 5 0 = fv at *
  have HV := Lib.hid hv
  clear hv
  go_enter Try.func73, Try.ntmps73
  refine m_start M ?_
  clear M
  intro wc M
  go_wp2_with (first | (refine m_ld1 M rfl rfl rfl (by (repeat' (first | exact List.mem_cons_self | refine List.mem_cons_of_mem _ ?_))) (by rfl) ?_) | (refine m_ldr M rfl rfl rfl (by (repeat' (first | exact List.mem_cons_self | refine List.mem_cons_of_mem _ ?_))) (by (try simp only [List.take_succ_cons, List.take_zero, List.take_nil, List.drop_succ_cons, List.drop_zero, List.drop_nil, List.cons_append, List.nil_append, List.append_nil, List.length_cons, List.length_nil, Nat.reduceAdd, Nat.zero_add, Nat.add_zero]); rfl) (by rfl) ?_) | (refine m_st M rfl rfl rfl (by first | exact (rfl : _ = Value.agg _) | exact (rfl : _ = Value.int _ _) | exact (rfl : _ = Value.bool _) | exact (rfl : _ = Value.slice _ _ _) | exact (rfl : _ = Value.pointer _) | exact (rfl : _ = Value.map _) | exact (rfl : _ = Value.func _ _ _) | exact (rfl : _ = Value.string _)) (by rfl) (by (repeat (first | exact Upd.head | apply Upd.tail))) (by (try simp only [List.take_succ_cons, List.take_zero, List.take_nil, List.drop_succ_cons, List.drop_zero, List.drop_nil, List.cons_append, List.nil_append, List.append_nil, List.length_cons, List.length_nil, Nat.reduceAdd, Nat.zero_add, Nat.add_zero]); rfl) (by simp) (by simp [Value.oneCell']) (by kernel_rfl) ?_; clear M; (try clear wc); intro wc M) | (refine m_al M rfl rfl ?_; clear M; (try clear wc); intro g wc M) | (refine m_bx M rfl rfl (by first | exact (rfl : _ = Value.agg _) | exact (rfl : _ = Value.int _ _) | exact (rfl : _ = Value.bool _) | exact (rfl : _ = Value.slice _ _ _) | exact (rfl : _ = Value.pointer _) | exact (rfl : _ = Value.map _) | exact (rfl : _ = Value.func _ _ _) | exact (rfl : _ = Value.string _)) (by rfl) ?_; clear M; (try clear wc); intro g wc M))
  go_loopw [5] (fun v wr => ∃ n : Nat, v = .int .i64 n ∧ n ≤ 5 ∧ Hid (firstB b 5 0 = firstB b (5 - n) n) ∧ Mem w (fun b => b = bm) wr [(bm, memG j s0 s1)]) (fun v _ => (5 - intOf v).toNat)
  case atStart => exact ⟨0, rfl, by omega, rfl, M⟩
  case round =>
    clear M wc
    obtain ⟨n, rfl, hn, he, M⟩ := hrel
    obtain ⟨wc, rfl⟩ : ∃ x : World, x = wr := ⟨_, rfl⟩
    by_cases hlt : n < 5
    · have e1 : decide ((n : Int) < 5) = true := by simp; omega
      have HL := Lib.hid hlt
      have CI := Lib.hid (HI.out w wc H0.out M.grown (M.at (q := (bm, memG j s0 s1)) (by (repeat' (first | exact List.mem_cons_self | refine List.mem_cons_of_mem _ ?_)))))
      cases hb : b n with
      | true =>
        have HB := Lib.hid hb
        clear hb
        go_wp2_with (first | (refine m_ld1 M rfl rfl rfl (by (repeat' (first | exact List.mem_cons_self | refine List.mem_cons_of_mem _ ?_))) (by rfl) ?_) | (refine m_ldr M rfl rfl rfl (by (repeat' (first | exact List.mem_cons_self | refine List.mem_cons_of_mem _ ?_))) (by (try simp only [List.take_succ_cons, List.take_zero, List.take_nil, List.drop_succ_cons, List.drop_zero, List.drop_nil, List.cons_append, List.nil_append, List.append_nil, List.length_cons, List.length_nil, Nat.reduceAdd, Nat.zero_add, Nat.add_zero]); rfl) (by rfl) ?_) | (refine m_st M rfl rfl rfl (by first | exact (rfl : _ = Value.agg _) | exact (rfl : _ = Value.int _ _) | exact (rfl : _ = Value.bool _) | exact (rfl : _ = Value.slice _ _ _) | exact (rfl : _ = Value.pointer _) | exact (rfl : _ = Value.map _) | exact (rfl : _ = Value.func _ _ _) | exact (rfl : _ = Value.string _)) (by rfl) (by (repeat (first | exact Upd.head | apply Upd.tail))) (by (try simp only [List.take_succ_cons, List.take_zero, List.take_nil, List.drop_succ_cons, List.drop_zero, List.drop_nil, List.cons_append, List.nil_append, List.append_nil, List.length_cons, List.length_nil, Nat.reduceAdd, Nat.zero_add, Nat.add_zero]); rfl) (by simp) (by simp [Value.oneCell']) (by kernel_rfl) ?_; clear M; (try clear wc); intro wc M) | (refine m_al M rfl rfl ?_; clear M; (try clear wc); intro g wc M) | (refine m_bx M rfl rfl (by first | exact (rfl : _ = Value.agg _) | exact (rfl : _ = Value.int _ _) | exact (rfl : _ = Value.bool _) | exact (rfl : _ = Value.slice _ _ _) | exact (rfl : _ = Value.pointer _) | exact (rfl : _ = Value.map _) | exact (rfl : _ = Value.func _ _ _) | exact (rfl : _ = Value.string _)) (by rfl) ?_; clear M; (try clear wc); intro g wc M) | (go_at_call 74; ((with_reducible refine (HF.out n _ HL.out CI.out).mono ?_); rintro e wc ⟨rfl, hgr, hm⟩; (rw [HB.out]); replace M := M.callW (by (repeat (first | exact Upd.head | apply Upd.tail))) hgr hm; clear hgr hm)))
        go_ret2
        have e : fv = some n := by rw [← HV.out, he.out, first_hit HL.out HB.out]
        rw [e]
        exact ⟨rfl, M.grown, (M.at (q := (bm, memG j s0 s1)) (by (repeat' (first | exact List.mem_cons_self | refine List.mem_cons_of_mem _ ?_))))⟩
      | false =>
        have HB := Lib.hid hb
        clear hb
        go_wp2_with (first | (refine m_ld1 M rfl rfl rfl (by (repeat' (first | exact List.mem_cons_self | refine List.mem_cons_of_mem _ ?_))) (by rfl) ?_) | (refine m_ldr M rfl rfl rfl (by (repeat' (first | exact List.mem_cons_self | refine List.mem_cons_of_mem _ ?_))) (by (try simp only [List.take_succ_cons, List.take_zero, List.take_nil, List.drop_succ_cons, List.drop_zero, List.drop_nil, List.cons_append, List.nil_append, List.append_nil, List.length_cons, List.length_nil, Nat.reduceAdd, Nat.zero_add, Nat.add_zero]); rfl) (by rfl) ?_) | (refine m_st M rfl rfl rfl (by first | exact (rfl : _ = Value.agg _) | exact (rfl : _ = Value.int _ _) | exact (rfl : _ = Value.bool _) | exact (rfl : _ = Value.slice _ _ _) | exact (rfl : _ = Value.pointer _) | exact (rfl : _ = Value.map _) | exact (rfl : _ = Value.func _ _ _) | exact (rfl : _ = Value.string _)) (by rfl) (by (repeat (first | exact Upd.head | apply Upd.tail))) (by (try simp only [List.take_succ_cons, List.take_zero, List.take_nil, List.drop_succ_cons, List.drop_zero, List.drop_nil, List.cons_append, List.nil_append, List.append_nil, List.length_cons, List.length_nil, Nat.reduceAdd, Nat.zero_add, Nat.add_zero]); rfl) (by simp) (by simp [Value.oneCell']) (by kernel_rfl) ?_; clear M; (try clear wc); intro wc M) | (refine m_al M rfl rfl ?_; clear M; (try clear wc); intro g wc M) | (refine m_bx M rfl rfl (by first | exact (rfl : _ = Value.agg _) | exact (rfl : _ = Value.int _ _) | exact (rfl : _ = Value.bool _) | exact (rfl : _ = Value.slice _ _ _) | exact (rfl : _ = Value.pointer _) | exact (rfl : _ = Value.map _) | exact (rfl : _ = Value.func _ _ _) | exact (rfl : _ = Value.string _)) (by rfl) ?_; clear M; (try clear wc); intro g wc M) | (go_at_call 74; ((with_reducible refine (HF.out n _ HL.out CI.out).mono ?_); rintro e wc ⟨rfl, hgr, hm⟩; (rw [HB.out]); replace M := M.callW (by (repeat (first | exact Upd.head | apply Upd.tail))) hgr hm; clear hgr hm)))
        go_roundw
        case rel => exact ⟨n + 1, by go_num, by omega, by (show _ = _; rw [he.out, first_miss HL.out HB.out]), M⟩
        case measure => simp [intOf]; omega
    · have e1 : decide ((n : Int) < 5) = false := by simp; omega
      go_wp2_with (first | (refine m_ld1 M rfl rfl rfl (by (repeat' (first | exact List.mem_cons_self | refine List.mem_cons_of_mem _ ?_))) (by rfl) ?_) | (refine m_ldr M rfl rfl rfl (by (repeat' (first | exact List.mem_cons_self | refine List.mem_cons_of_mem _ ?_))) (by (try simp only [List.take_succ_cons, List.take_zero, List.take_nil, List.drop_succ_cons, List.drop_zero, List.drop_nil, List.cons_append, List.nil_append, List.append_nil, List.length_cons, List.length_nil, Nat.reduceAdd, Nat.zero_add, Nat.add_zero]); rfl) (by rfl) ?_) | (refine m_st M rfl rfl rfl (by first | exact (rfl : _ = Value.agg _) | exact (rfl : _ = Value.int _ _) | exact (rfl : _ = Value.bool _) | exact (rfl : _ = Value.slice _ _ _) | exact (rfl : _ = Value.pointer _) | exact (rfl : _ = Value.map _) | exact (rfl : _ = Value.func _ _ _) | exact (rfl : _ = Value.string _)) (by rfl) (by (repeat (first | exact Upd.head | apply Upd.tail))) (by (try simp only [List.take_succ_cons, List.take_zero, List.take_nil, List.drop_succ_cons, List.drop_zero, List.drop_nil, List.cons_append, List.nil_append, List.append_nil, List.length_cons, List.length_nil, Nat.reduceAdd, Nat.zero_add, Nat.add_zero]); rfl) (by simp) (by simp [Value.oneCell']) (by kernel_rfl) ?_; clear M; (try clear wc); intro wc M) | (refine m_al M rfl rfl ?_; clear M; (try clear wc); intro g wc M) | (refine m_bx M rfl rfl (by first | exact (rfl : _ = Value.agg _) | exact (rfl : _ = Value.int _ _) | exact (rfl : _ = Value.bool _) | exact (rfl : _ = Value.slice _ _ _) | exact (rfl : _ = Value.pointer _) | exact (rfl : _ = Value.map _) | exact (rfl : _ = Value.func _ _ _) | exact (rfl : _ = Value.string _)) (by rfl) ?_; clear M; (try clear wc); intro g wc M))
      go_ret2
      have e : fv = none := by rw [← HV.out, he.out, first_end (by omega)]
      rw [e]
      exact ⟨rfl, M.grown, (M.at (q := (bm, memG j s0 s1)) (by (repeat' (first | exact List.mem_cons_self | refine List.mem_cons_of_mem _ ?_))))⟩

set_option maxRecDepth 100000 in
set_option maxHeartbeats 1000000 in
theorem fewest_Next (j : Jb) (s0 s1 : Int) (bm gG gJ : Nat) (b : Nat → Bool) (Inv : World → Prop) (hI : ∀ W W', Inv W → W.grownBy W' (some bm) → (memG j s0 s1).holds W' bm → Inv W')
    (hf : ∀ (n : Nat) W, n < 5 → Inv W → Calls Try.prog 77 #[.int .i64 n, .pointer (some ⟨gG, 0, none⟩), .pointer (some ⟨gJ, 0, none⟩)] W (GPost j s0 s1 bm (.bool (b n)) W)) (w : World) (h0 : Inv w) (hm : (memG j s0 s1).holds w bm) :
    Calls Try.prog 73 #[.func (.func 77) #[] #[.pointer (some ⟨gG, 0, none⟩), .pointer (some ⟨gJ, 0, none⟩)]] w (GPost j s0 s1 bm (fewV (firstB b 5 0)) w) := by
  have HI := Lib.hid hI
  have HF := Lib.hid hf
  have H0 := Lib.hid h0
  have M := Mem.initEx hm
  clear hI hf h0 hm
  generalize hv : firstB b 5 0 = fv at *
  have HV := Lib.hid hv
  clear hv
  go_enter Try.func73, Try.ntmps73
  refine m_start M ?_
  clear M
  intro wc M
  go_wp2_with (first | (refine m_ld1 M rfl rfl rfl (by (repeat' (first | exact List.mem_cons_self | refine List.mem_cons_of_mem _ ?_))) (by rfl) ?_) | (refine m_ldr M rfl rfl rfl (by (repeat' (first | exact List.mem_cons_self | refine List.mem_cons_of_mem _ ?_))) (by (try simp only [List.take_succ_cons, List.take_zero, List.take_nil, List.drop_succ_cons, List.drop_zero, List.drop_nil, List.cons_append, List.nil_append, List.append_nil, List.length_cons, List.length_nil, Nat.reduceAdd, Nat.zero_add, Nat.add_zero]); rfl) (by rfl) ?_) | (refine m_st M rfl rfl rfl (by first | exact (rfl : _ = Value.agg _) | exact (rfl : _ = Value.int _ _) | exact (rfl : _ = Value.bool _) | exact (rfl : _ = Value.slice _ _ _) | exact (rfl : _ = Value.pointer _) | exact (rfl : _ = Value.map _) | exact (rfl : _ = Value.func _ _ _) | exact (rfl : _ = Value.string _)) (by rfl) (by (repeat (first | exact Upd.head | apply Upd.tail))) (by (try simp only [List.take_succ_cons, List.take_zero, List.take_nil, List.drop_succ_cons, List.drop_zero, List.drop_nil, List.cons_append, List.nil_append, List.append_nil, List.length_cons, List.length_nil, Nat.reduceAdd, Nat.zero_add, Nat.add_zero]); rfl) (by simp) (by simp [Value.oneCell']) (by kernel_rfl) ?_; clear M; (try clear wc); intro wc M) | (refine m_al M rfl rfl ?_; clear M; (try clear wc); intro g wc M) | (refine m_bx M rfl rfl (by first | exact (rfl : _ = Value.agg _) | exact (rfl : _ = Value.int _ _) | exact (rfl : _ = Value.bool _) | exact (rfl : _ = Value.slice _ _ _) | exact (rfl : _ = Value.pointer _) | exact (rfl : _ = Value.map _) | exact (rfl : _ = Value.func _ _ _) | exact (rfl : _ = Value.string _)) (by rfl) ?_; clear M; (try clear wc); intro g wc M))
  go_loopw [5] (fun v wr => ∃ n : Nat, v = .int .i64 n ∧ n ≤ 5 ∧ Hid (firstB b 5 0 = firstB b (5 - n) n) ∧ Mem w (fun b => b = bm) wr [(bm, memG j s0 s1)]) (fun v _ => (5 - intOf v).toNat)
  case atStart => exact ⟨0, rfl, by omega, rfl, M⟩
  case round =>
    clear M wc
    obtain ⟨n, rfl, hn, he, M⟩ := hrel
    obtain ⟨wc, rfl⟩ : ∃ x : World, x = wr := ⟨_, rfl⟩
    by_cases hlt : n < 5
    · have e1 : decide ((n : Int) < 5) = true := by simp; omega
      have HL := Lib.hid hlt
      have CI := Lib.hid (HI.out w wc H0.out M.grown (M.at (q := (bm, memG j s0 s1)) (by (repeat' (first | exact List.mem_cons_self | refine List.mem_cons_of_mem _ ?_)))))
      cases hb : b n with
      | true =>
        have HB := Lib.hid hb
        clear hb
        go_wp2_with (first | (refine m_ld1 M rfl rfl rfl (by (repeat' (first | exact List.mem_cons_self | refine List.mem_cons_of_mem _ ?_))) (by rfl) ?_) | (refine m_ldr M rfl rfl rfl (by (repeat' (first | exact List.mem_cons_self | refine List.mem_cons_of_mem _ ?_))) (by (try simp only [List.take_succ_cons, List.take_zero, List.take_nil, List.drop_succ_cons, List.drop_zero, List.drop_nil, List.cons_append, List.nil_append, List.append_nil, List.length_cons, List.length_nil, Nat.reduceAdd, Nat.zero_add, Nat.add_zero]); rfl) (by rfl) ?_) | (refine m_st M rfl rfl rfl (by first | exact (rfl : _ = Value.agg _) | exact (rfl : _ = Value.int _ _) | exact (rfl : _ = Value.bool _) | exact (rfl : _ = Value.slice _ _ _) | exact (rfl : _ = Value.pointer _) | exact (rfl : _ = Value.map _) | exact (rfl : _ = Value.func _ _ _) | exact (rfl : _ = Value.string _)) (by rfl) (by (repeat (first | exact Upd.head | apply Upd.tail))) (by (try simp only [List.take_succ_cons, List.take_zero, List.take_nil, List.drop_succ_cons, List.drop_zero, List.drop_nil, List.cons_append, List.nil_append, List.append_nil, List.length_cons, List.length_nil, Nat.reduceAdd, Nat.zero_add, Nat.add_zero]); rfl) (by simp) (by simp [Value.oneCell']) (by kernel_rfl) ?_; clear M; (try clear wc); intro wc M) | (refine m_al M rfl rfl ?_; clear M; (try clear wc); intro g wc M) | (refine m_bx M rfl rfl (by first | exact (rfl : _ = Value.agg _) | exact (rfl : _ = Value.int _ _) | exact (rfl : _ = Value.bool _) | exact (rfl : _ = Value.slice _ _ _) | exact (rfl : _ = Value.pointer _) | exact (rfl : _ = Value.map _) | exact (rfl : _ = Value.func _ _ _) | exact (rfl : _ = Value.string _)) (by rfl) ?_; clear M; (try clear wc); intro g wc M) | (go_at_call 77; ((with_reducible refine (HF.out n _ HL.out CI.out).mono ?_); rintro e wc ⟨rfl, hgr, hm⟩; (rw [HB.out]); replace M := M.callW (by (repeat (first | exact Upd.head | apply Upd.tail))) hgr hm; clear hgr hm)))
        go_ret2
        have e : fv = some n := by rw [← HV.out, he.out, first_hit HL.out HB.out]
        rw [e]
        exact ⟨rfl, M.grown, (M.at (q := (bm, memG j s0 s1)) (by (repeat' (first | exact List.mem_cons_self | refine List.mem_cons_of_mem _ ?_))))⟩
      | false =>
        have HB := Lib.hid hb
        clear hb
        go_wp2_with (first | (refine m_ld1 M rfl rfl rfl (by (repeat' (first | exact List.mem_cons_self | refine List.mem_cons_of_mem _ ?_))) (by rfl) ?_) | (refine m_ldr M rfl rfl rfl (by (repeat' (first | exact List.mem_cons_self | refine List.mem_cons_of_mem _ ?_))) (by (try simp only [List.take_succ_cons, List.take_zero, List.take_nil, List.drop_succ_cons, List.drop_zero, List.drop_nil, List.cons_append, List.nil_append, List.append_nil, List.length_cons, List.length_nil, Nat.reduceAdd, Nat.zero_add, Nat.add_zero]); rfl) (by rfl) ?_) | (refine m_st M rfl rfl rfl (by first | exact (rfl : _ = Value.agg _) | exact (rfl : _ = Value.int _ _) | exact (rfl : _ = Value.bool _) | exact (rfl : _ = Value.slice _ _ _) | exact (rfl : _ = Value.pointer _) | exact (rfl : _ = Value.map _) | exact (rfl : _ = Value.func _ _ _) | exact (rfl : _ = Value.string _)) (by rfl) (by (repeat (first | exact Upd.head | apply Upd.tail))) (by (try simp only [List.take_succ_cons, List.take_zero, List.take_nil, List.drop_succ_cons, List.drop_zero, List.drop_nil, List.cons_append, List.nil_append, List.append_nil, List.length_cons, List.length_nil, Nat.reduceAdd, Nat.zero_add, Nat.add_zero]); rfl) (by simp) (by simp [Value.oneCell']) (by kernel_rfl) ?_; clear M; (try clear wc); intro wc M) | (refine m_al M rfl rfl ?_; clear M; (try clear wc); intro g wc M) | (refine m_bx M rfl rfl (by first | exact (rfl : _ = Value.agg _) | exact (rfl : _ = Value.int _ _) | exact (rfl : _ = Value.bool _) | exact (rfl : _ = Value.slice _ _ _) | exact (rfl : _ = Value.pointer _) | exact (rfl : _ = Value.map _) | exact (rfl : _ = Value.func _ _ _) | exact (rfl : _ = Value.string _)) (by rfl) ?_; clear M; (try clear wc); intro g wc M) | (go_at_call 77; ((with_reducible refine (HF.out n _ HL.out CI.out).mono ?_); rintro e wc ⟨rfl, hgr, hm⟩; (rw [HB.out]); replace M := M.callW (by (repeat (first | exact Upd.head | apply Upd.tail))) hgr hm; clear hgr hm)))
        go_roundw
        case rel => exact ⟨n + 1, by go_num, by omega, by (show _ = _; rw [he.out, first_miss HL.out HB.out]), M⟩
        case measure => simp [intOf]; omega
    · have e1 : decide ((n : Int) < 5) = false := by simp; omega
      go_wp2_with (first | (refine m_ld1 M rfl rfl rfl (by (repeat' (first | exact List.mem_cons_self | refine List.mem_cons_of_mem _ ?_))) (by rfl) ?_) | (refine m_ldr M rfl rfl rfl (by (repeat' (first | exact List.mem_cons_self | refine List.mem_cons_of_mem _ ?_))) (by (try simp only [List.take_succ_cons, List.take_zero, List.take_nil, List.drop_succ_cons, List.drop_zero, List.drop_nil, List.cons_append, List.nil_append, List.append_nil, List.length_cons, List.length_nil, Nat.reduceAdd, Nat.zero_add, Nat.add_zero]); rfl) (by rfl) ?_) | (refine m_st M rfl rfl rfl (by first | exact (rfl : _ = Value.agg _) | exact (rfl : _ = Value.int _ _) | exact (rfl : _ = Value.bool _) | exact (rfl : _ = Value.slice _ _ _) | exact (rfl : _ = Value.pointer _) | exact (rfl : _ = Value.map _) | exact (rfl : _ = Value.func _ _ _) | exact (rfl : _ = Value.string _)) (by rfl) (by (repeat (first | exact Upd.head | apply Upd.tail))) (by (try simp only [List.take_succ_cons, List.take_zero, List.take_nil, List.drop_succ_cons, List.drop_zero, List.drop_nil, List.cons_append, List.nil_append, List.append_nil, List.length_cons, List.length_nil, Nat.reduceAdd, Nat.zero_add, Nat.add_zero]); rfl) (by simp) (by simp [Value.oneCell']) (by kernel_rfl) ?_; clear M; (try clear wc); intro wc M) | (refine m_al M rfl rfl ?_; clear M; (try clear wc); intro g wc M) | (refine m_bx M rfl rfl (by first | exact (rfl : _ = Value.agg _) | exact (rfl : _ = Value.int _ _) | exact (rfl : _ = Value.bool _) | exact (rfl : _ = Value.slice _ _ _) | exact (rfl : _ = Value.pointer _) | exact (rfl : _ = Value.map _) | exact (rfl : _ = Value.func _ _ _) | exact (rfl : _ = Value.string _)) (by rfl) ?_; clear M; (try clear wc); intro g wc M))
      go_ret2
      have e : fv = none := by rw [← HV.out, he.out, first_end (by omega)]
      rw [e]
      exact ⟨rfl, M.grown, (M.at (q := (bm, memG j s0 s1)) (by (repeat' (first | exact List.mem_cons_self | refine List.mem_cons_of_mem _ ?_))))⟩

/-- A game in memory with two boxes beside it. -/
structure Gn (j : Jb) (A : Option Addr) (c : Nat) (s0 s1 : Int) (bg bx bm gG gJ : Nat) (w : World) : Prop where
  g : Gm j A c s0 s1 bg bx bm w
  b : Bk w gG (gmA j A c s0 s1 bg bx).toArray
  j : Bk w gJ #[.int .i64 j.p0, .int .i64 j.p1, .int .i64 j.t0, .int .i64 j.t1, .int .i64 j.r0, .int .i64 j.r1, .int .i64 j.u0, .int .i64 j.u1, .int .i64 j.d0, .int .i64 j.d1, .int .i64 j.a0, .int .i64 j.a1, .int .i64 j.b0, .int .i64 j.b1, .int .i64 j.le, .slice A j.sh.length c, .int .i64 j.wi, .int .i64 j.me]
  nb : gG ≠ bm
  nj : gJ ≠ bm
theorem Gn.kept {j : Jb} {A : Option Addr} {c : Nat} {s0 s1 : Int} {bg bx bm gG gJ : Nat} {w w' : World} (h : Gn j A c s0 s1 bg bx bm gG gJ w) (hg : w.grownBy w' (some bm)) (hm : (memG j s0 s1).holds w' bm) : Gn j A c s0 s1 bg bx bm gG gJ w' :=
  ⟨h.g.kept hg hm, h.b.grown hg (fun e => h.nb (by injection e)), h.j.grown hg (fun e => h.nj (by injection e)), h.nb, h.nj⟩
theorem bnd_0 {j : Jb} (hj : j.good) {n : Nat} (hn : n < 5) : Bnd n j.p0 j.p1 0 0 := by
  have := hj.p
  exact ⟨by omega, by omega, by omega, by omega, by omega⟩

set_option maxRecDepth 100000 in
set_option maxHeartbeats 1000000 in
theorem Guided1_any (j : Jb) (A : Option Addr) (c : Nat) (s0 s1 : Int) (bg bx bm gG gJ : Nat) (hj : j.good) (n : Nat) (hn : n < 5) (w : World) (hg : Gn j A c s0 s1 bg bx bm gG gJ w) :
    Calls Try.prog 74 #[.int .i64 n, .pointer (some ⟨gG, 0, none⟩), .pointer (some ⟨gJ, 0, none⟩)] w (GPost j s0 s1 bm (.bool (readsP j s0 s1 n j.p0 j.p1 0 0)) w) := by
  have M := Mem.initEx hg.g.m
  have HG := Lib.hid hg
  have HJ := Lib.hid hj
  clear hg hj
  go_enter Try.func74, Try.ntmps74
  refine m_start M ?_
  clear M
  intro wc M
  go_wp2_with (first | (refine m_ld1 M rfl rfl rfl (by (repeat' (first | exact List.mem_cons_self | refine List.mem_cons_of_mem _ ?_))) (by rfl) ?_) | (refine m_ldr M rfl rfl rfl (by (repeat' (first | exact List.mem_cons_self | refine List.mem_cons_of_mem _ ?_))) (by (try simp only [List.take_succ_cons, List.take_zero, List.take_nil, List.drop_succ_cons, List.drop_zero, List.drop_nil, List.cons_append, List.nil_append, List.append_nil, List.length_cons, List.length_nil, Nat.reduceAdd, Nat.zero_add, Nat.add_zero]); rfl) (by rfl) ?_) | (refine m_st M rfl rfl rfl (by first | exact (rfl : _ = Value.agg _) | exact (rfl : _ = Value.int _ _) | exact (rfl : _ = Value.bool _) | exact (rfl : _ = Value.slice _ _ _) | exact (rfl : _ = Value.pointer _) | exact (rfl : _ = Value.map _) | exact (rfl : _ = Value.func _ _ _) | exact (rfl : _ = Value.string _)) (by rfl) (by (repeat (first | exact Upd.head | apply Upd.tail))) (by (try simp only [List.take_succ_cons, List.take_zero, List.take_nil, List.drop_succ_cons, List.drop_zero, List.drop_nil, List.cons_append, List.nil_append, List.append_nil, List.length_cons, List.length_nil, Nat.reduceAdd, Nat.zero_add, Nat.add_zero]); rfl) (by simp) (by simp [Value.oneCell']) (by kernel_rfl) ?_; clear M; (try clear wc); intro wc M) | (refine m_al M rfl rfl ?_; clear M; (try clear wc); intro g wc M) | (refine m_bx M rfl rfl (by first | exact (rfl : _ = Value.agg _) | exact (rfl : _ = Value.int _ _) | exact (rfl : _ = Value.bool _) | exact (rfl : _ = Value.slice _ _ _) | exact (rfl : _ = Value.pointer _) | exact (rfl : _ = Value.map _) | exact (rfl : _ = Value.func _ _ _) | exact (rfl : _ = Value.string _)) (by rfl) ?_; clear M; (try clear wc); intro g wc M) | (refine lo_row (M.old HG.out.b HG.out.nb) rfl rfl rfl (by (try simp only [List.take_succ_cons, List.take_zero, List.take_nil, List.drop_succ_cons, List.drop_zero, List.drop_nil, List.cons_append, List.nil_append, List.append_nil, List.length_cons, List.length_nil, Nat.reduceAdd, Nat.zero_add, Nat.add_zero]); rfl) (by rfl) ?_) | (refine lo_row (M.old HG.out.j HG.out.nj) rfl rfl rfl (by (try simp only [List.take_succ_cons, List.take_zero, List.take_nil, List.drop_succ_cons, List.drop_zero, List.drop_nil, List.cons_append, List.nil_append, List.append_nil, List.length_cons, List.length_nil, Nat.reduceAdd, Nat.zero_add, Nat.add_zero]); rfl) (by rfl) ?_) | (go_at_call 75; ((with_reducible refine (readsC j A c s0 s1 bg bx bm HJ.out n j.p0 j.p1 0 0 _ (bnd_0 HJ.out hn) (HG.out.kept M.grown (M.at (q := (bm, memG j s0 s1)) (by (repeat' (first | exact List.mem_cons_self | refine List.mem_cons_of_mem _ ?_))))).g).mono ?_); rintro e wc ⟨rfl, hgr, hm⟩; skip; replace M := M.callW (by (repeat (first | exact Upd.head | apply Upd.tail))) hgr hm; clear hgr hm)))
  go_ret
  exact ⟨rfl, M.grown, (M.at (q := (bm, memG j s0 s1)) (by (repeat' (first | exact List.mem_cons_self | refine List.mem_cons_of_mem _ ?_))))⟩

set_option maxRecDepth 100000 in
set_option maxHeartbeats 1000000 in
theorem Next1_any (j : Jb) (A : Option Addr) (c : Nat) (s0 s1 : Int) (bg bx bm gG gJ : Nat) (hj : j.good) (n : Nat) (hn : n < 5) (w : World) (hg : Gn j A c s0 s1 bg bx bm gG gJ w) :
    Calls Try.prog 77 #[.int .i64 n, .pointer (some ⟨gG, 0, none⟩), .pointer (some ⟨gJ, 0, none⟩)] w (GPost j s0 s1 bm (.bool (stopsP j s0 s1 n j.p0 j.p1 0 0)) w) := by
  have M := Mem.initEx hg.g.m
  have HG := Lib.hid hg
  have HJ := Lib.hid hj
  clear hg hj
  go_enter Try.func77, Try.ntmps77
  refine m_start M ?_
  clear M
  intro wc M
  go_wp2_with (first | (refine m_ld1 M rfl rfl rfl (by (repeat' (first | exact List.mem_cons_self | refine List.mem_cons_of_mem _ ?_))) (by rfl) ?_) | (refine m_ldr M rfl rfl rfl (by (repeat' (first | exact List.mem_cons_self | refine List.mem_cons_of_mem _ ?_))) (by (try simp only [List.take_succ_cons, List.take_zero, List.take_nil, List.drop_succ_cons, List.drop_zero, List.drop_nil, List.cons_append, List.nil_append, List.append_nil, List.length_cons, List.length_nil, Nat.reduceAdd, Nat.zero_add, Nat.add_zero]); rfl) (by rfl) ?_) | (refine m_st M rfl rfl rfl (by first | exact (rfl : _ = Value.agg _) | exact (rfl : _ = Value.int _ _) | exact (rfl : _ = Value.bool _) | exact (rfl : _ = Value.slice _ _ _) | exact (rfl : _ = Value.pointer _) | exact (rfl : _ = Value.map _) | exact (rfl : _ = Value.func _ _ _) | exact (rfl : _ = Value.string _)) (by rfl) (by (repeat (first | exact Upd.head | apply Upd.tail))) (by (try simp only [List.take_succ_cons, List.take_zero, List.take_nil, List.drop_succ_cons, List.drop_zero, List.drop_nil, List.cons_append, List.nil_append, List.append_nil, List.length_cons, List.length_nil, Nat.reduceAdd, Nat.zero_add, Nat.add_zero]); rfl) (by simp) (by simp [Value.oneCell']) (by kernel_rfl) ?_; clear M; (try clear wc); intro wc M) | (refine m_al M rfl rfl ?_; clear M; (try clear wc); intro g wc M) | (refine m_bx M rfl rfl (by first | exact (rfl : _ = Value.agg _) | exact (rfl : _ = Value.int _ _) | exact (rfl : _ = Value.bool _) | exact (rfl : _ = Value.slice _ _ _) | exact (rfl : _ = Value.pointer _) | exact (rfl : _ = Value.map _) | exact (rfl : _ = Value.func _ _ _) | exact (rfl : _ = Value.string _)) (by rfl) ?_; clear M; (try clear wc); intro g wc M) | (refine lo_one (M.old HG.out.b HG.out.nb) rfl rfl rfl (by rfl) ?_) | (refine lo_row (M.old HG.out.j HG.out.nj) rfl rfl rfl (by (try simp only [List.take_succ_cons, List.take_zero, List.take_nil, List.drop_succ_cons, List.drop_zero, List.drop_nil, List.cons_append, List.nil_append, List.append_nil, List.length_cons, List.length_nil, Nat.reduceAdd, Nat.zero_add, Nat.add_zero]); rfl) (by rfl) ?_) | (go_at_call 105; ((with_reducible refine (stopsC j A c s0 s1 bg bx bm HJ.out n j.p0 j.p1 0 0 _ (bnd_0 HJ.out hn) (HG.out.kept M.grown (M.at (q := (bm, memG j s0 s1)) (by (repeat' (first | exact List.mem_cons_self | refine List.mem_cons_of_mem _ ?_))))).g).mono ?_); rintro e wc ⟨rfl, hgr, hm⟩; skip; replace M := M.callW (by (repeat (first | exact Upd.head | apply Upd.tail))) hgr hm; clear hgr hm)))
  go_ret
  exact ⟨rfl, M.grown, (M.at (q := (bm, memG j s0 s1)) (by (repeat' (first | exact List.mem_cons_self | refine List.mem_cons_of_mem _ ?_))))⟩

end Go.Proofs.Ythlpceoajhcliaa
end

section
/-
  reed: Guided and Next, whole.
-/
namespace Go.Proofs.Ythlpceoajhcliaa
set_option linter.unusedSimpArgs false
set_option linter.unusedVariables false
open Go.RowKit

def guidedF (j : Jb) : Option Nat := firstB (fun n => readsP j (winS j).1 (winS j).2 n j.p0 j.p1 0 0) 5 0
def nextF (j : Jb) : Option Nat := firstB (fun n => stopsP j (winS j).1 (winS j).2 n j.p0 j.p1 0 0) 5 0
/-- What Guided and Next answer. -/
def guidedJ (j : Jb) : Int × Int := if checkJ j = 0 then (match guidedF j with | some n => ((n : Int), 0) | none => (0, 11)) else (0, checkJ j)
def nextJ (j : Jb) : Int × Int × Int := if checkJ j = 0 then (match nextF j with | some n => if n = 0 then (0, 0, 0) else (strokeP j (winS j).1 (winS j).2 n j.p0 j.p1 0 0, (n : Int), 0) | none => (0, 0, 11)) else (0, 0, checkJ j)

theorem Gn.of_mem {j : Jb} {A : Option Addr} {c : Nat} {s0 s1 : Int} {bg bx bm gG gJ : Nat} {w0 w : World} {ex : Nat → Prop} {L : List (Nat × BA)} (M : Mem w0 ex w L)
    (h : [(gG, .cells (gmA j A c s0 s1 bg bx)), (bx, .cells [.map (some bm)]), (bm, memG j s0 s1), (bg, .cells (gmA j A c s0 s1 bg bx)), (gJ, .cells [.int .i64 j.p0, .int .i64 j.p1, .int .i64 j.t0, .int .i64 j.t1, .int .i64 j.r0, .int .i64 j.r1, .int .i64 j.u0, .int .i64 j.u1, .int .i64 j.d0, .int .i64 j.d1, .int .i64 j.a0, .int .i64 j.a1, .int .i64 j.b0, .int .i64 j.b1, .int .i64 j.le, .slice A j.sh.length c, .int .i64 j.wi, .int .i64 j.me])].Sublist L) : Gn j A c s0 s1 bg bx bm gG gJ w := by
  have N := M.sub h
  have hnd := N.nd
  simp only [List.map_cons, List.map_nil, List.nodup_cons, List.mem_cons, not_or, List.not_mem_nil, not_false_eq_true, List.nodup_nil, and_true] at hnd
  obtain ⟨⟨-, n1, -, -⟩, ⟨n2, -, -⟩, ⟨n3, n4⟩, -⟩ := hnd
  exact ⟨⟨N.get (g := bg) (by (repeat' (first | exact List.mem_cons_self | refine List.mem_cons_of_mem _ ?_))), N.get (g := bx) (by (repeat' (first | exact List.mem_cons_self | refine List.mem_cons_of_mem _ ?_))), N.at (q := (bm, memG j s0 s1)) (by (repeat' (first | exact List.mem_cons_self | refine List.mem_cons_of_mem _ ?_))), fun e => n3 e.symm, n2⟩, N.get (g := gG) (by (repeat' (first | exact List.mem_cons_self | refine List.mem_cons_of_mem _ ?_))), N.get (g := gJ) (by (repeat' (first | exact List.mem_cons_self | refine List.mem_cons_of_mem _ ?_))), n1, fun e => n4 e.symm⟩

set_option maxRecDepth 100000 in
set_option maxHeartbeats 1000000 in
theorem Guided_any (j : Jb) (A : Option Addr) (c : Nat) (w : World) (hr : Rd w w.heap.size 2 A j.sh.length (rc j.sh)) (hn : j.sh.length ≤ 9223372036854775807) :
    Calls Try.prog 24 #[jobV j A c] w fun e w' => e = .returned (.tuple #[.int .i64 (guidedJ j).1, .int .i64 (guidedJ j).2]) ∧ Below w.heap.size w w' := by
  have HR := Lib.hid hr
  clear hr
  by_cases h0 : checkJ j = 0
  · have HJ := Lib.hid (good_of h0)
    have H0 := Lib.hid h0
    cases hq : guidedF j with
    | none =>
      have HF : Hid (firstB (fun n => readsP j (winS j).1 (winS j).2 n j.p0 j.p1 0 0) 5 0 = none) := hq
      have HW : Hid (guidedJ j = (0, 11)) := by show _ = _; unfold guidedJ; rw [if_pos h0, hq]
      clear h0 hq
      generalize guidedJ j = gj at *
      go_enter Try.func24, Try.ntmps24
      refine start noEx ?_
      intro wc M
      go_wp2_with (first | (refine m_ld1 M rfl rfl rfl (by (repeat' (first | exact List.mem_cons_self | refine List.mem_cons_of_mem _ ?_))) (by rfl) ?_) | (refine m_ldr M rfl rfl rfl (by (repeat' (first | exact List.mem_cons_self | refine List.mem_cons_of_mem _ ?_))) (by (try simp only [List.take_succ_cons, List.take_zero, List.take_nil, List.drop_succ_cons, List.drop_zero, List.drop_nil, List.cons_append, List.nil_append, List.append_nil, List.length_cons, List.length_nil, Nat.reduceAdd, Nat.zero_add, Nat.add_zero]); rfl) (by rfl) ?_) | (refine m_st M rfl rfl rfl (by first | exact (rfl : _ = Value.agg _) | exact (rfl : _ = Value.int _ _) | exact (rfl : _ = Value.bool _) | exact (rfl : _ = Value.slice _ _ _) | exact (rfl : _ = Value.pointer _) | exact (rfl : _ = Value.map _) | exact (rfl : _ = Value.func _ _ _) | exact (rfl : _ = Value.string _)) (by rfl) (by (repeat (first | exact Upd.head | apply Upd.tail))) (by (try simp only [List.take_succ_cons, List.take_zero, List.take_nil, List.drop_succ_cons, List.drop_zero, List.drop_nil, List.cons_append, List.nil_append, List.append_nil, List.length_cons, List.length_nil, Nat.reduceAdd, Nat.zero_add, Nat.add_zero]); rfl) (by simp) (by simp [Value.oneCell']) (by kernel_rfl) ?_; clear M; (try clear wc); intro wc M) | (refine m_al M rfl rfl ?_; clear M; (try clear wc); intro g wc M) | (refine m_bx M rfl rfl (by first | exact (rfl : _ = Value.agg _) | exact (rfl : _ = Value.int _ _) | exact (rfl : _ = Value.bool _) | exact (rfl : _ = Value.slice _ _ _) | exact (rfl : _ = Value.pointer _) | exact (rfl : _ = Value.map _) | exact (rfl : _ = Value.func _ _ _) | exact (rfl : _ = Value.string _)) (by rfl) ?_; clear M; (try clear wc); intro g wc M) | (go_at_call 49; ((with_reducible refine (check_any j _ _ _ ?_ ?_).mono ?_); ((exact M.rd HR.out (Nat.le_refl _)); (exact hn)); rw [H0.out]; rintro e wc ⟨rfl, hb⟩; replace M := M.call hb; clear hb)) | (go_at_call 72; refine (play_any (okG j (winS j).1 (winS j).2) j _ _ _ HJ.out.ok ?_).mono ?_; (exact M.rd HR.out (Nat.le_refl _)); rintro e wc ⟨bg, bx, bm, rfl, N⟩; replace M := M.join N; clear N; simp only [List.cons_append, List.nil_append] at M) | (go_at_call 73; refine (fewest_Guided j (winS j).1 (winS j).2 bm _ _ (fun n => readsP j (winS j).1 (winS j).2 n j.p0 j.p1 0 0) (Gn j A c (winS j).1 (winS j).2 bg bx bm _ _) (fun W W' h1 h2 h3 => h1.kept h2 h3) (fun n W hn h => Guided1_any j A c (winS j).1 (winS j).2 bg bx bm _ _ HJ.out n hn W h) _ (Gn.of_mem M (by (repeat (first | exact List.Sublist.slnil | apply List.Sublist.cons_cons | apply List.Sublist.cons)))) (M.at (q := (bm, memG j (winS j).1 (winS j).2)) (by (repeat' (first | exact List.mem_cons_self | refine List.mem_cons_of_mem _ ?_))))).mono ?_; rintro e wc ⟨rfl, hgr, hm⟩; rw [HF.out]; dsimp only [fewV]; replace M := M.callW (by (repeat (first | exact Upd.head | apply Upd.tail))) hgr hm; clear hgr hm))
      go_ret2
      rw [HW.out]
      exact ⟨rfl, M.below⟩
    | some n =>
      have HF : Hid (firstB (fun n => readsP j (winS j).1 (winS j).2 n j.p0 j.p1 0 0) 5 0 = some n) := hq
      have HW : Hid (guidedJ j = ((n : Int), 0)) := by show _ = _; unfold guidedJ; rw [if_pos h0, hq]
      clear h0 hq
      generalize guidedJ j = gj at *
      go_enter Try.func24, Try.ntmps24
      refine start noEx ?_
      intro wc M
      go_wp2_with (first | (refine m_ld1 M rfl rfl rfl (by (repeat' (first | exact List.mem_cons_self | refine List.mem_cons_of_mem _ ?_))) (by rfl) ?_) | (refine m_ldr M rfl rfl rfl (by (repeat' (first | exact List.mem_cons_self | refine List.mem_cons_of_mem _ ?_))) (by (try simp only [List.take_succ_cons, List.take_zero, List.take_nil, List.drop_succ_cons, List.drop_zero, List.drop_nil, List.cons_append, List.nil_append, List.append_nil, List.length_cons, List.length_nil, Nat.reduceAdd, Nat.zero_add, Nat.add_zero]); rfl) (by rfl) ?_) | (refine m_st M rfl rfl rfl (by first | exact (rfl : _ = Value.agg _) | exact (rfl : _ = Value.int _ _) | exact (rfl : _ = Value.bool _) | exact (rfl : _ = Value.slice _ _ _) | exact (rfl : _ = Value.pointer _) | exact (rfl : _ = Value.map _) | exact (rfl : _ = Value.func _ _ _) | exact (rfl : _ = Value.string _)) (by rfl) (by (repeat (first | exact Upd.head | apply Upd.tail))) (by (try simp only [List.take_succ_cons, List.take_zero, List.take_nil, List.drop_succ_cons, List.drop_zero, List.drop_nil, List.cons_append, List.nil_append, List.append_nil, List.length_cons, List.length_nil, Nat.reduceAdd, Nat.zero_add, Nat.add_zero]); rfl) (by simp) (by simp [Value.oneCell']) (by kernel_rfl) ?_; clear M; (try clear wc); intro wc M) | (refine m_al M rfl rfl ?_; clear M; (try clear wc); intro g wc M) | (refine m_bx M rfl rfl (by first | exact (rfl : _ = Value.agg _) | exact (rfl : _ = Value.int _ _) | exact (rfl : _ = Value.bool _) | exact (rfl : _ = Value.slice _ _ _) | exact (rfl : _ = Value.pointer _) | exact (rfl : _ = Value.map _) | exact (rfl : _ = Value.func _ _ _) | exact (rfl : _ = Value.string _)) (by rfl) ?_; clear M; (try clear wc); intro g wc M) | (go_at_call 49; ((with_reducible refine (check_any j _ _ _ ?_ ?_).mono ?_); ((exact M.rd HR.out (Nat.le_refl _)); (exact hn)); rw [H0.out]; rintro e wc ⟨rfl, hb⟩; replace M := M.call hb; clear hb)) | (go_at_call 72; refine (play_any (okG j (winS j).1 (winS j).2) j _ _ _ HJ.out.ok ?_).mono ?_; (exact M.rd HR.out (Nat.le_refl _)); rintro e wc ⟨bg, bx, bm, rfl, N⟩; replace M := M.join N; clear N; simp only [List.cons_append, List.nil_append] at M) | (go_at_call 73; refine (fewest_Guided j (winS j).1 (winS j).2 bm _ _ (fun n => readsP j (winS j).1 (winS j).2 n j.p0 j.p1 0 0) (Gn j A c (winS j).1 (winS j).2 bg bx bm _ _) (fun W W' h1 h2 h3 => h1.kept h2 h3) (fun n W hn h => Guided1_any j A c (winS j).1 (winS j).2 bg bx bm _ _ HJ.out n hn W h) _ (Gn.of_mem M (by (repeat (first | exact List.Sublist.slnil | apply List.Sublist.cons_cons | apply List.Sublist.cons)))) (M.at (q := (bm, memG j (winS j).1 (winS j).2)) (by (repeat' (first | exact List.mem_cons_self | refine List.mem_cons_of_mem _ ?_))))).mono ?_; rintro e wc ⟨rfl, hgr, hm⟩; rw [HF.out]; dsimp only [fewV]; replace M := M.callW (by (repeat (first | exact Upd.head | apply Upd.tail))) hgr hm; clear hgr hm))
      go_ret2
      rw [HW.out]
      exact ⟨rfl, M.below⟩
  · have h1 : (checkJ j != 0) = true := by simpa using h0
    have HW : Hid (guidedJ j = (0, checkJ j)) := by show _ = _; unfold guidedJ; rw [if_neg h0]
    clear h0
    generalize guidedJ j = gj at *
    go_enter Try.func24, Try.ntmps24
    refine start noEx ?_
    intro wc M
    go_wp2_with (first | (refine m_ld1 M rfl rfl rfl (by (repeat' (first | exact List.mem_cons_self | refine List.mem_cons_of_mem _ ?_))) (by rfl) ?_) | (refine m_ldr M rfl rfl rfl (by (repeat' (first | exact List.mem_cons_self | refine List.mem_cons_of_mem _ ?_))) (by (try simp only [List.take_succ_cons, List.take_zero, List.take_nil, List.drop_succ_cons, List.drop_zero, List.drop_nil, List.cons_append, List.nil_append, List.append_nil, List.length_cons, List.length_nil, Nat.reduceAdd, Nat.zero_add, Nat.add_zero]); rfl) (by rfl) ?_) | (refine m_st M rfl rfl rfl (by first | exact (rfl : _ = Value.agg _) | exact (rfl : _ = Value.int _ _) | exact (rfl : _ = Value.bool _) | exact (rfl : _ = Value.slice _ _ _) | exact (rfl : _ = Value.pointer _) | exact (rfl : _ = Value.map _) | exact (rfl : _ = Value.func _ _ _) | exact (rfl : _ = Value.string _)) (by rfl) (by (repeat (first | exact Upd.head | apply Upd.tail))) (by (try simp only [List.take_succ_cons, List.take_zero, List.take_nil, List.drop_succ_cons, List.drop_zero, List.drop_nil, List.cons_append, List.nil_append, List.append_nil, List.length_cons, List.length_nil, Nat.reduceAdd, Nat.zero_add, Nat.add_zero]); rfl) (by simp) (by simp [Value.oneCell']) (by kernel_rfl) ?_; clear M; (try clear wc); intro wc M) | (refine m_al M rfl rfl ?_; clear M; (try clear wc); intro g wc M) | (refine m_bx M rfl rfl (by first | exact (rfl : _ = Value.agg _) | exact (rfl : _ = Value.int _ _) | exact (rfl : _ = Value.bool _) | exact (rfl : _ = Value.slice _ _ _) | exact (rfl : _ = Value.pointer _) | exact (rfl : _ = Value.map _) | exact (rfl : _ = Value.func _ _ _) | exact (rfl : _ = Value.string _)) (by rfl) ?_; clear M; (try clear wc); intro g wc M) | (go_at_call 49; ((with_reducible refine (check_any j _ _ _ ?_ ?_).mono ?_); ((exact M.rd HR.out (Nat.le_refl _)); (exact hn)); rintro e wc ⟨rfl, hb⟩; replace M := M.call hb; clear hb)))
    go_ret2
    rw [HW.out]
    exact ⟨rfl, M.below⟩

set_option maxRecDepth 100000 in
set_option maxHeartbeats 1000000 in
theorem Next_any (j : Jb) (A : Option Addr) (c : Nat) (w : World) (hr : Rd w w.heap.size 2 A j.sh.length (rc j.sh)) (hn : j.sh.length ≤ 9223372036854775807) :
    Calls Try.prog 26 #[jobV j A c] w fun e w' => e = .returned (.tuple #[.int .i64 (nextJ j).1, .int .i64 (nextJ j).2.1, .int .i64 (nextJ j).2.2]) ∧ Below w.heap.size w w' := by
  have HR := Lib.hid hr
  clear hr
  by_cases h0 : checkJ j = 0
  · have HJ := Lib.hid (good_of h0)
    have H0 := Lib.hid h0
    cases hq : nextF j with
    | none =>
      have HF : Hid (firstB (fun n => stopsP j (winS j).1 (winS j).2 n j.p0 j.p1 0 0) 5 0 = none) := hq
      have HW : Hid (nextJ j = (0, 0, 11)) := by show _ = _; unfold nextJ; rw [if_pos h0, hq]
      clear h0 hq
      generalize nextJ j = gj at *
      go_enter Try.func26, Try.ntmps26
      refine start noEx ?_
      intro wc M
      go_wp2_with (first | (refine m_ld1 M rfl rfl rfl (by (repeat' (first | exact List.mem_cons_self | refine List.mem_cons_of_mem _ ?_))) (by rfl) ?_) | (refine m_ldr M rfl rfl rfl (by (repeat' (first | exact List.mem_cons_self | refine List.mem_cons_of_mem _ ?_))) (by (try simp only [List.take_succ_cons, List.take_zero, List.take_nil, List.drop_succ_cons, List.drop_zero, List.drop_nil, List.cons_append, List.nil_append, List.append_nil, List.length_cons, List.length_nil, Nat.reduceAdd, Nat.zero_add, Nat.add_zero]); rfl) (by rfl) ?_) | (refine m_st M rfl rfl rfl (by first | exact (rfl : _ = Value.agg _) | exact (rfl : _ = Value.int _ _) | exact (rfl : _ = Value.bool _) | exact (rfl : _ = Value.slice _ _ _) | exact (rfl : _ = Value.pointer _) | exact (rfl : _ = Value.map _) | exact (rfl : _ = Value.func _ _ _) | exact (rfl : _ = Value.string _)) (by rfl) (by (repeat (first | exact Upd.head | apply Upd.tail))) (by (try simp only [List.take_succ_cons, List.take_zero, List.take_nil, List.drop_succ_cons, List.drop_zero, List.drop_nil, List.cons_append, List.nil_append, List.append_nil, List.length_cons, List.length_nil, Nat.reduceAdd, Nat.zero_add, Nat.add_zero]); rfl) (by simp) (by simp [Value.oneCell']) (by kernel_rfl) ?_; clear M; (try clear wc); intro wc M) | (refine m_al M rfl rfl ?_; clear M; (try clear wc); intro g wc M) | (refine m_bx M rfl rfl (by first | exact (rfl : _ = Value.agg _) | exact (rfl : _ = Value.int _ _) | exact (rfl : _ = Value.bool _) | exact (rfl : _ = Value.slice _ _ _) | exact (rfl : _ = Value.pointer _) | exact (rfl : _ = Value.map _) | exact (rfl : _ = Value.func _ _ _) | exact (rfl : _ = Value.string _)) (by rfl) ?_; clear M; (try clear wc); intro g wc M) | (go_at_call 49; ((with_reducible refine (check_any j _ _ _ ?_ ?_).mono ?_); ((exact M.rd HR.out (Nat.le_refl _)); (exact hn)); rw [H0.out]; rintro e wc ⟨rfl, hb⟩; replace M := M.call hb; clear hb)) | (go_at_call 72; refine (play_any (okG j (winS j).1 (winS j).2) j _ _ _ HJ.out.ok ?_).mono ?_; (exact M.rd HR.out (Nat.le_refl _)); rintro e wc ⟨bg, bx, bm, rfl, N⟩; replace M := M.join N; clear N; simp only [List.cons_append, List.nil_append] at M) | (go_at_call 73; refine (fewest_Next j (winS j).1 (winS j).2 bm _ _ (fun n => stopsP j (winS j).1 (winS j).2 n j.p0 j.p1 0 0) (Gn j A c (winS j).1 (winS j).2 bg bx bm _ _) (fun W W' h1 h2 h3 => h1.kept h2 h3) (fun n W hn h => Next1_any j A c (winS j).1 (winS j).2 bg bx bm _ _ HJ.out n hn W h) _ (Gn.of_mem M (by (repeat (first | exact List.Sublist.slnil | apply List.Sublist.cons_cons | apply List.Sublist.cons)))) (M.at (q := (bm, memG j (winS j).1 (winS j).2)) (by (repeat' (first | exact List.mem_cons_self | refine List.mem_cons_of_mem _ ?_))))).mono ?_; rintro e wc ⟨rfl, hgr, hm⟩; rw [HF.out]; dsimp only [fewV]; replace M := M.callW (by (repeat (first | exact Upd.head | apply Upd.tail))) hgr hm; clear hgr hm))
      go_ret3
      rw [HW.out]
      exact ⟨rfl, M.below⟩
    | some n =>
      have hn5 : n < 5 := by have := first_lt hq; omega
      cases n with
      | zero =>
        have HF : Hid (firstB (fun n => stopsP j (winS j).1 (winS j).2 n j.p0 j.p1 0 0) 5 0 = some 0) := hq
        have HW : Hid (nextJ j = (0, 0, 0)) := by show _ = _; unfold nextJ; rw [if_pos h0, hq]; rfl
        clear h0 hq
        generalize nextJ j = gj at *
        go_enter Try.func26, Try.ntmps26
        refine start noEx ?_
        intro wc M
        go_wp2_with (first | (refine m_ld1 M rfl rfl rfl (by (repeat' (first | exact List.mem_cons_self | refine List.mem_cons_of_mem _ ?_))) (by rfl) ?_) | (refine m_ldr M rfl rfl rfl (by (repeat' (first | exact List.mem_cons_self | refine List.mem_cons_of_mem _ ?_))) (by (try simp only [List.take_succ_cons, List.take_zero, List.take_nil, List.drop_succ_cons, List.drop_zero, List.drop_nil, List.cons_append, List.nil_append, List.append_nil, List.length_cons, List.length_nil, Nat.reduceAdd, Nat.zero_add, Nat.add_zero]); rfl) (by rfl) ?_) | (refine m_st M rfl rfl rfl (by first | exact (rfl : _ = Value.agg _) | exact (rfl : _ = Value.int _ _) | exact (rfl : _ = Value.bool _) | exact (rfl : _ = Value.slice _ _ _) | exact (rfl : _ = Value.pointer _) | exact (rfl : _ = Value.map _) | exact (rfl : _ = Value.func _ _ _) | exact (rfl : _ = Value.string _)) (by rfl) (by (repeat (first | exact Upd.head | apply Upd.tail))) (by (try simp only [List.take_succ_cons, List.take_zero, List.take_nil, List.drop_succ_cons, List.drop_zero, List.drop_nil, List.cons_append, List.nil_append, List.append_nil, List.length_cons, List.length_nil, Nat.reduceAdd, Nat.zero_add, Nat.add_zero]); rfl) (by simp) (by simp [Value.oneCell']) (by kernel_rfl) ?_; clear M; (try clear wc); intro wc M) | (refine m_al M rfl rfl ?_; clear M; (try clear wc); intro g wc M) | (refine m_bx M rfl rfl (by first | exact (rfl : _ = Value.agg _) | exact (rfl : _ = Value.int _ _) | exact (rfl : _ = Value.bool _) | exact (rfl : _ = Value.slice _ _ _) | exact (rfl : _ = Value.pointer _) | exact (rfl : _ = Value.map _) | exact (rfl : _ = Value.func _ _ _) | exact (rfl : _ = Value.string _)) (by rfl) ?_; clear M; (try clear wc); intro g wc M) | (go_at_call 49; ((with_reducible refine (check_any j _ _ _ ?_ ?_).mono ?_); ((exact M.rd HR.out (Nat.le_refl _)); (exact hn)); rw [H0.out]; rintro e wc ⟨rfl, hb⟩; replace M := M.call hb; clear hb)) | (go_at_call 72; refine (play_any (okG j (winS j).1 (winS j).2) j _ _ _ HJ.out.ok ?_).mono ?_; (exact M.rd HR.out (Nat.le_refl _)); rintro e wc ⟨bg, bx, bm, rfl, N⟩; replace M := M.join N; clear N; simp only [List.cons_append, List.nil_append] at M) | (go_at_call 73; refine (fewest_Next j (winS j).1 (winS j).2 bm _ _ (fun n => stopsP j (winS j).1 (winS j).2 n j.p0 j.p1 0 0) (Gn j A c (winS j).1 (winS j).2 bg bx bm _ _) (fun W W' h1 h2 h3 => h1.kept h2 h3) (fun n W hn h => Next1_any j A c (winS j).1 (winS j).2 bg bx bm _ _ HJ.out n hn W h) _ (Gn.of_mem M (by (repeat (first | exact List.Sublist.slnil | apply List.Sublist.cons_cons | apply List.Sublist.cons)))) (M.at (q := (bm, memG j (winS j).1 (winS j).2)) (by (repeat' (first | exact List.mem_cons_self | refine List.mem_cons_of_mem _ ?_))))).mono ?_; rintro e wc ⟨rfl, hgr, hm⟩; rw [HF.out]; dsimp only [fewV]; replace M := M.callW (by (repeat (first | exact Upd.head | apply Upd.tail))) hgr hm; clear hgr hm))
        go_ret3
        rw [HW.out]
        exact ⟨rfl, M.below⟩

      | succ m =>
        obtain ⟨n, hnm⟩ : ∃ n, n = m + 1 := ⟨_, rfl⟩
        rw [← hnm] at hq hn5
        have hn0 : ((n : Int) == 0) = false := by simp; omega
        have hn1 : ¬ n = 0 := by omega
        clear hnm
        have HF : Hid (firstB (fun n => stopsP j (winS j).1 (winS j).2 n j.p0 j.p1 0 0) 5 0 = some n) := hq
        have HW : Hid (nextJ j = (strokeP j (winS j).1 (winS j).2 n j.p0 j.p1 0 0, (n : Int), 0)) := by show _ = _; unfold nextJ; rw [if_pos h0, hq]; exact if_neg hn1
        clear h0 hq
        generalize nextJ j = gj at *
        go_enter Try.func26, Try.ntmps26
        refine start noEx ?_
        intro wc M
        go_wp2_with (first | (refine m_ld1 M rfl rfl rfl (by (repeat' (first | exact List.mem_cons_self | refine List.mem_cons_of_mem _ ?_))) (by rfl) ?_) | (refine m_ldr M rfl rfl rfl (by (repeat' (first | exact List.mem_cons_self | refine List.mem_cons_of_mem _ ?_))) (by (try simp only [List.take_succ_cons, List.take_zero, List.take_nil, List.drop_succ_cons, List.drop_zero, List.drop_nil, List.cons_append, List.nil_append, List.append_nil, List.length_cons, List.length_nil, Nat.reduceAdd, Nat.zero_add, Nat.add_zero]); rfl) (by rfl) ?_) | (refine m_st M rfl rfl rfl (by first | exact (rfl : _ = Value.agg _) | exact (rfl : _ = Value.int _ _) | exact (rfl : _ = Value.bool _) | exact (rfl : _ = Value.slice _ _ _) | exact (rfl : _ = Value.pointer _) | exact (rfl : _ = Value.map _) | exact (rfl : _ = Value.func _ _ _) | exact (rfl : _ = Value.string _)) (by rfl) (by (repeat (first | exact Upd.head | apply Upd.tail))) (by (try simp only [List.take_succ_cons, List.take_zero, List.take_nil, List.drop_succ_cons, List.drop_zero, List.drop_nil, List.cons_append, List.nil_append, List.append_nil, List.length_cons, List.length_nil, Nat.reduceAdd, Nat.zero_add, Nat.add_zero]); rfl) (by simp) (by simp [Value.oneCell']) (by kernel_rfl) ?_; clear M; (try clear wc); intro wc M) | (refine m_al M rfl rfl ?_; clear M; (try clear wc); intro g wc M) | (refine m_bx M rfl rfl (by first | exact (rfl : _ = Value.agg _) | exact (rfl : _ = Value.int _ _) | exact (rfl : _ = Value.bool _) | exact (rfl : _ = Value.slice _ _ _) | exact (rfl : _ = Value.pointer _) | exact (rfl : _ = Value.map _) | exact (rfl : _ = Value.func _ _ _) | exact (rfl : _ = Value.string _)) (by rfl) ?_; clear M; (try clear wc); intro g wc M) | (go_at_call 49; ((with_reducible refine (check_any j _ _ _ ?_ ?_).mono ?_); ((exact M.rd HR.out (Nat.le_refl _)); (exact hn)); rw [H0.out]; rintro e wc ⟨rfl, hb⟩; replace M := M.call hb; clear hb)) | (go_at_call 72; refine (play_any (okG j (winS j).1 (winS j).2) j _ _ _ HJ.out.ok ?_).mono ?_; (exact M.rd HR.out (Nat.le_refl _)); rintro e wc ⟨bg, bx, bm, rfl, N⟩; replace M := M.join N; clear N; simp only [List.cons_append, List.nil_append] at M) | (go_at_call 73; refine (fewest_Next j (winS j).1 (winS j).2 bm _ _ (fun n => stopsP j (winS j).1 (winS j).2 n j.p0 j.p1 0 0) (Gn j A c (winS j).1 (winS j).2 bg bx bm _ _) (fun W W' h1 h2 h3 => h1.kept h2 h3) (fun n W hn h => Next1_any j A c (winS j).1 (winS j).2 bg bx bm _ _ HJ.out n hn W h) _ (Gn.of_mem M (by (repeat (first | exact List.Sublist.slnil | apply List.Sublist.cons_cons | apply List.Sublist.cons)))) (M.at (q := (bm, memG j (winS j).1 (winS j).2)) (by (repeat' (first | exact List.mem_cons_self | refine List.mem_cons_of_mem _ ?_))))).mono ?_; rintro e wc ⟨rfl, hgr, hm⟩; rw [HF.out]; dsimp only [fewV]; replace M := M.callW (by (repeat (first | exact Upd.head | apply Upd.tail))) hgr hm; clear hgr hm) | (go_at_call 78; refine (strokeC j A c (winS j).1 (winS j).2 bg bx bm HJ.out n j.p0 j.p1 0 0 _ (bnd_0 HJ.out hn5) (Gn.of_mem M (by (repeat (first | exact List.Sublist.slnil | apply List.Sublist.cons_cons | apply List.Sublist.cons)))).g).mono ?_; rintro e wc ⟨rfl, hgr, hm⟩; replace M := M.callW (by (repeat (first | exact Upd.head | apply Upd.tail))) hgr hm; clear hgr hm))
        go_ret3
        rw [HW.out]
        exact ⟨rfl, M.below⟩

  · have h1 : (checkJ j != 0) = true := by simpa using h0
    have HW : Hid (nextJ j = (0, 0, checkJ j)) := by show _ = _; unfold nextJ; rw [if_neg h0]
    clear h0
    generalize nextJ j = gj at *
    go_enter Try.func26, Try.ntmps26
    refine start noEx ?_
    intro wc M
    go_wp2_with (first | (refine m_ld1 M rfl rfl rfl (by (repeat' (first | exact List.mem_cons_self | refine List.mem_cons_of_mem _ ?_))) (by rfl) ?_) | (refine m_ldr M rfl rfl rfl (by (repeat' (first | exact List.mem_cons_self | refine List.mem_cons_of_mem _ ?_))) (by (try simp only [List.take_succ_cons, List.take_zero, List.take_nil, List.drop_succ_cons, List.drop_zero, List.drop_nil, List.cons_append, List.nil_append, List.append_nil, List.length_cons, List.length_nil, Nat.reduceAdd, Nat.zero_add, Nat.add_zero]); rfl) (by rfl) ?_) | (refine m_st M rfl rfl rfl (by first | exact (rfl : _ = Value.agg _) | exact (rfl : _ = Value.int _ _) | exact (rfl : _ = Value.bool _) | exact (rfl : _ = Value.slice _ _ _) | exact (rfl : _ = Value.pointer _) | exact (rfl : _ = Value.map _) | exact (rfl : _ = Value.func _ _ _) | exact (rfl : _ = Value.string _)) (by rfl) (by (repeat (first | exact Upd.head | apply Upd.tail))) (by (try simp only [List.take_succ_cons, List.take_zero, List.take_nil, List.drop_succ_cons, List.drop_zero, List.drop_nil, List.cons_append, List.nil_append, List.append_nil, List.length_cons, List.length_nil, Nat.reduceAdd, Nat.zero_add, Nat.add_zero]); rfl) (by simp) (by simp [Value.oneCell']) (by kernel_rfl) ?_; clear M; (try clear wc); intro wc M) | (refine m_al M rfl rfl ?_; clear M; (try clear wc); intro g wc M) | (refine m_bx M rfl rfl (by first | exact (rfl : _ = Value.agg _) | exact (rfl : _ = Value.int _ _) | exact (rfl : _ = Value.bool _) | exact (rfl : _ = Value.slice _ _ _) | exact (rfl : _ = Value.pointer _) | exact (rfl : _ = Value.map _) | exact (rfl : _ = Value.func _ _ _) | exact (rfl : _ = Value.string _)) (by rfl) ?_; clear M; (try clear wc); intro g wc M) | (go_at_call 49; ((with_reducible refine (check_any j _ _ _ ?_ ?_).mono ?_); ((exact M.rd HR.out (Nat.le_refl _)); (exact hn)); rintro e wc ⟨rfl, hb⟩; replace M := M.call hb; clear hb)))
    go_ret3
    rw [HW.out]
    exact ⟨rfl, M.below⟩

end Go.Proofs.Ythlpceoajhcliaa
end

section
/-
  The chapter's examples hold.
-/
namespace Go.Proofs.Ythlpceoajhcliaa
set_option linter.unusedSimpArgs false
set_option linter.unusedVariables false
open Go.RowKit

def exJ (p0 p1 : Int) : Jb := { p0 := p0, p1 := p1, t0 := 30, t1 := 32, r0 := 40, r1 := 41, u0 := 3, u1 := 4, d0 := 2, d1 := 3, a0 := 1, a1 := 2, b0 := 1, b1 := 1, le := 20, sh := [(-2, 1), (0, 3)], wi := 5, me := 1 }
def JobPost (j : Jb) (w : World) (e : Ending) (w' : World) : Prop := ∃ g, e = .returned (jobV j (some ⟨g, 0, none⟩) 2) ∧ Mem w noEx w' [(g, .cells (rc j.sh))]
section
set_option maxRecDepth 100000
theorem ex_window : windowJ (exJ (-12) (-8)) = ((-3, 2), 0) := by decide +kernel
theorem ex_strokes : checkStrokesJ (exJ (-12) (-8)) [1, 2] = 0 := by decide +kernel
theorem ex_after : afterC (exJ (-12) (-8)) [1, 2] = #[.int .i64 (-12), .int .i64 (-6), .int .i64 28, .int .i64 31, .int .i64 39, .int .i64 40] := by
  unfold afterC
  rw [if_pos ex_strokes]
  rfl
theorem ex_short : shortL (exJ (-9) (-9)) = [1, 1] := by decide +kernel
theorem ex_shortE : shortE (exJ (-9) (-9)) = 0 := by decide +kernel
theorem ex_guided : guidedJ (exJ (-12) (-8)) = (3, 0) := by decide +kernel
theorem ex_next : nextJ (exJ 4 6) = (2, 2, 0) := by decide +kernel
end
theorem Window_ex (g : Nat) (w : World) (hr : Rd w w.heap.size 2 (some ⟨g, 0, none⟩) 2 (rc [(-2, 1), (0, 3)])) :
    Calls Try.prog 33 #[jobV (exJ (-12) (-8)) (some ⟨g, 0, none⟩) 2] w fun e w' => e = .returned (.tuple #[R2 (-3) 2, .int .i64 0]) ∧ Below w.heap.size w w' := by
  have h := Window_any (exJ (-12) (-8)) (some ⟨g, 0, none⟩) 2 w hr (by decide)
  rw [ex_window] at h
  exact h
theorem After_ex (g g' : Nat) (w : World) (hr : Rd w w.heap.size 2 (some ⟨g, 0, none⟩) 2 (rc [(-2, 1), (0, 3)])) (hl : Rd w w.heap.size 1 (some ⟨g', 0, none⟩) 2 (ic [1, 2])) :
    Calls Try.prog 34 #[jobV (exJ (-12) (-8)) (some ⟨g, 0, none⟩) 2, .slice (some ⟨g', 0, none⟩) 2 2] w fun e w' => e = .returned (.tuple #[.agg #[.int .i64 (-12), .int .i64 (-6), .int .i64 28, .int .i64 31, .int .i64 39, .int .i64 40], .int .i64 0]) ∧ Below w.heap.size w w' := by
  have h := After_any (exJ (-12) (-8)) (some ⟨g, 0, none⟩) 2 (some ⟨g', 0, none⟩) 2 2 [1, 2] w hr (by decide) hl (by decide)
  rw [ex_after, ex_strokes] at h
  exact h
theorem Shortest_ex (g : Nat) (w : World) (hr : Rd w w.heap.size 2 (some ⟨g, 0, none⟩) 2 (rc [(-2, 1), (0, 3)])) :
    Calls Try.prog 19 #[jobV (exJ (-9) (-9)) (some ⟨g, 0, none⟩) 2] w (ShortPost2 [1, 1] 0 w) := by
  have h := Shortest_own (exJ (-9) (-9)) (some ⟨g, 0, none⟩) 2 w hr (by decide)
  rw [ex_short, ex_shortE] at h
  exact h
theorem Guided_ex (g : Nat) (w : World) (hr : Rd w w.heap.size 2 (some ⟨g, 0, none⟩) 2 (rc [(-2, 1), (0, 3)])) :
    Calls Try.prog 24 #[jobV (exJ (-12) (-8)) (some ⟨g, 0, none⟩) 2] w fun e w' => e = .returned (.tuple #[.int .i64 3, .int .i64 0]) ∧ Below w.heap.size w w' := by
  have h := Guided_any (exJ (-12) (-8)) (some ⟨g, 0, none⟩) 2 w hr (by decide)
  rw [ex_guided] at h
  exact h
theorem Next_ex (g : Nat) (w : World) (hr : Rd w w.heap.size 2 (some ⟨g, 0, none⟩) 2 (rc [(-2, 1), (0, 3)])) :
    Calls Try.prog 26 #[jobV (exJ 4 6) (some ⟨g, 0, none⟩) 2] w fun e w' => e = .returned (.tuple #[.int .i64 2, .int .i64 2, .int .i64 0]) ∧ Below w.heap.size w w' := by
  have h := Next_any (exJ 4 6) (some ⟨g, 0, none⟩) 2 w hr (by decide)
  rw [ex_next] at h
  exact h


set_option maxRecDepth 100000 in
set_option maxHeartbeats 1000000 in
theorem job_any (p0 p1 : Int) (w : World)  :
    Calls Try.prog 65 #[.agg #[.int .i64 p0, .int .i64 p1]] w (JobPost (exJ p0 p1) w) := by
  refine px_enter noEx Try.func65 rfl 16 rfl [.agg #[.int .i64 p0, .int .i64 p1]] rfl rfl (Mem.init w _) ?_
  intro ac wc T M
  refine wp_seq ?_
  refine wp_region_lit ?_
  refine l_w rfl ?_; intro K hK
  refine ow_bx M T rfl rfl rfl rfl (T.ev 0 rfl) rfl ?_; clear M T; intro g1 wc ac M T
  refine sh_out hK _ _ ?_; clear hK K
  refine l_w rfl ?_; intro K hK
  refine ow_al M T rfl rfl rfl rfl ?_; clear M T; intro g2 wc ac M T
  refine sh_out hK _ _ ?_; clear hK K
  refine wpList_nil ?_
  replace T := T.pick [0, 1] rfl
  refine nm_then ?_
  refine wp_seq ?_
  refine g_start2 M (M.perm [1] rfl rfl) 14 (by kernel_rfl) rfl (by kernel_rfl) ?_
  clear M; intro wc M
  refine g_addG 13 M ?_
  refine g_q (T := T) (i := 0) rfl (by kernel_rfl) (by kernel_rfl : (pbits 14 0).setIfInBounds 0 true = pbits 14 1) (si_and (si_G rfl) si_U) (fun _ _ _ h => h) rfl rfl rfl rfl (fun B w' hD hl hS => (rn_rowO (Mem.nth (show Mem w noEx w' _ from ((MA.lft hS) (hD.wait (i := 0) (m := 13) (by kernel_rfl) hl))) 1 rfl) rfl (T.ev 1 rfl) rfl)) ?_; clear T ac; intro ac T
  refine g_w (i := 1) (by kernel_rfl) rfl (by kernel_rfl : (pbits 14 1).setIfInBounds 1 true = pbits 14 3) rfl ?_; intro K hK
  refine ow_call (first := []) (cap := []) T rfl rfl rfl rfl evf (.cons evc (.cons evc .nil)) Try.func31 rfl rfl ?_
  refine Calls.mono (to_any 30 32 _) ?_
  clear T
  rintro e wc ⟨rfl, hb⟩
  intro ac T
  replace M := M.call hb; clear hb
  refine sh_out hK _ _ (MA.mk (fun _ => M.mask [true, true] rfl) (M.mask [false, true] rfl)) ?_; clear hK K
  refine g_w (i := 2) (by kernel_rfl) rfl (by kernel_rfl : (pbits 14 3).setIfInBounds 2 true = pbits 14 7) rfl ?_; intro K hK
  refine ow_call (first := []) (cap := []) T rfl rfl rfl rfl evf (.cons evc (.cons evc .nil)) Try.func31 rfl rfl ?_
  refine Calls.mono (to_any 40 41 _) ?_
  clear T
  rintro e wc ⟨rfl, hb⟩
  intro ac T
  replace M := M.call hb; clear hb
  refine sh_out hK _ _ (MA.mk (fun _ => M.mask [true, true] rfl) (M.mask [false, true] rfl)) ?_; clear hK K
  refine g_q (v := (.agg #[.int .i64 p0, .int .i64 p1, .int .i64 30, .int .i64 32, .int .i64 40, .int .i64 41])) (T := T) (i := 3) rfl (by kernel_rfl) (by kernel_rfl : (pbits 14 7).setIfInBounds 3 true = pbits 14 15) (si_and (si_G rfl) si_U) (fun _ _ _ h => h) rfl rfl rfl rfl (fun _ _ _ _ _ => (rn_build rfl (.cons (T.ev 2 rfl) (.cons (T.ev 1 rfl) (.cons (T.ev 0 rfl) .nil))) (fun _ => by kernel_rfl))) ?_; clear T ac; intro ac T
  refine g_w (i := 4) (by kernel_rfl) rfl (by kernel_rfl : (pbits 14 15).setIfInBounds 4 true = pbits 14 31) rfl ?_; intro K hK
  refine ow_call (first := []) (cap := []) T rfl rfl rfl rfl evf (.cons evc (.cons evc .nil)) Try.func31 rfl rfl ?_
  refine Calls.mono (to_any 3 4 _) ?_
  clear T
  rintro e wc ⟨rfl, hb⟩
  intro ac T
  replace M := M.call hb; clear hb
  refine sh_out hK _ _ (MA.mk (fun _ => M.mask [true, true] rfl) (M.mask [false, true] rfl)) ?_; clear hK K
  refine g_w (i := 5) (by kernel_rfl) rfl (by kernel_rfl : (pbits 14 31).setIfInBounds 5 true = pbits 14 63) rfl ?_; intro K hK
  refine ow_call (first := []) (cap := []) T rfl rfl rfl rfl evf (.cons evc (.cons evc .nil)) Try.func31 rfl rfl ?_
  refine Calls.mono (to_any 2 3 _) ?_
  clear T
  rintro e wc ⟨rfl, hb⟩
  intro ac T
  replace M := M.call hb; clear hb
  refine sh_out hK _ _ (MA.mk (fun _ => M.mask [true, true] rfl) (M.mask [false, true] rfl)) ?_; clear hK K
  refine g_w (i := 6) (by kernel_rfl) rfl (by kernel_rfl : (pbits 14 63).setIfInBounds 6 true = pbits 14 127) rfl ?_; intro K hK
  refine ow_call (first := []) (cap := []) T rfl rfl rfl rfl evf (.cons evc (.cons evc .nil)) Try.func31 rfl rfl ?_
  refine Calls.mono (to_any 1 2 _) ?_
  clear T
  rintro e wc ⟨rfl, hb⟩
  intro ac T
  replace M := M.call hb; clear hb
  refine sh_out hK _ _ (MA.mk (fun _ => M.mask [true, true] rfl) (M.mask [false, true] rfl)) ?_; clear hK K
  refine g_w (i := 7) (by kernel_rfl) rfl (by kernel_rfl : (pbits 14 127).setIfInBounds 7 true = pbits 14 255) rfl ?_; intro K hK
  refine ow_call (first := []) (cap := []) T rfl rfl rfl rfl evf (.cons evc (.cons evc .nil)) Try.func31 rfl rfl ?_
  refine Calls.mono (to_any 1 1 _) ?_
  clear T
  rintro e wc ⟨rfl, hb⟩
  intro ac T
  replace M := M.call hb; clear hb
  refine sh_out hK _ _ (MA.mk (fun _ => M.mask [true, true] rfl) (M.mask [false, true] rfl)) ?_; clear hK K
  refine g_q (v := (.agg #[.int .i64 3, .int .i64 4, .int .i64 2, .int .i64 3, .int .i64 1, .int .i64 2, .int .i64 1, .int .i64 1, .int .i64 20])) (T := T) (i := 8) rfl (by kernel_rfl) (by kernel_rfl : (pbits 14 255).setIfInBounds 8 true = pbits 14 511) (si_and (si_G rfl) si_U) (fun _ _ _ h => h) rfl rfl rfl rfl (fun _ _ _ _ _ => (rn_build rfl (.cons (T.ev 3 rfl) (.cons (T.ev 2 rfl) (.cons (T.ev 1 rfl) (.cons (T.ev 0 rfl) (.cons evc .nil))))) (fun _ => by kernel_rfl))) ?_; clear T ac; intro ac T
  refine g_w (i := 9) (by kernel_rfl) rfl (by kernel_rfl : (pbits 14 511).setIfInBounds 9 true = pbits 14 1023) rfl ?_; intro K hK
  refine ow_call (first := []) (cap := []) T rfl rfl rfl rfl evf (.cons evc (.cons evc .nil)) Try.func31 rfl rfl ?_
  refine Calls.mono (to_any (-2) 1 _) ?_
  clear T
  rintro e wc ⟨rfl, hb⟩
  intro ac T
  replace M := M.call hb; clear hb
  refine sh_out hK _ _ (MA.mk (fun _ => M.mask [true, true] rfl) (M.mask [false, true] rfl)) ?_; clear hK K
  refine g_w (i := 10) (by kernel_rfl) rfl (by kernel_rfl : (pbits 14 1023).setIfInBounds 10 true = pbits 14 2047) rfl ?_; intro K hK
  refine ow_call (first := []) (cap := []) T rfl rfl rfl rfl evf (.cons evc (.cons evc .nil)) Try.func31 rfl rfl ?_
  refine Calls.mono (to_any 0 3 _) ?_
  clear T
  rintro e wc ⟨rfl, hb⟩
  intro ac T
  replace M := M.call hb; clear hb
  refine sh_out hK _ _ (MA.mk (fun _ => M.mask [true, true] rfl) (M.mask [false, true] rfl)) ?_; clear hK K
  refine g_w (i := 11) (by kernel_rfl) rfl (by kernel_rfl : (pbits 14 2047).setIfInBounds 11 true = pbits 14 4095) rfl ?_; intro K hK
  refine ow_bs (e := 23) [.int .i64 (-2), .int .i64 1, .int .i64 0, .int .i64 3] M T rfl rfl rfl rfl (.cons (T.ev 1 rfl) (.cons (T.ev 0 rfl) .nil)) (fun _ => by kernel_rfl) ?_; clear M T; intro g3 wc ac M T
  refine sh_out hK _ _ (MA.mk (fun _ => M.mask [false, true, true] rfl) (M.mask [false, false, true] rfl)) ?_; clear hK K
  refine g_q (v := (.agg #[.int .i64 p0, .int .i64 p1, .int .i64 30, .int .i64 32, .int .i64 40, .int .i64 41, .int .i64 3, .int .i64 4, .int .i64 2, .int .i64 3, .int .i64 1, .int .i64 2, .int .i64 1, .int .i64 1, .int .i64 20, .slice (some ⟨g3, 0, none⟩) 2 2, .int .i64 5, .int .i64 1])) (T := T) (i := 12) rfl (by kernel_rfl) (by kernel_rfl : (pbits 14 4095).setIfInBounds 12 true = pbits 14 8191) (si_and (si_G rfl) si_U) (fun _ _ _ h => h) rfl rfl rfl rfl (fun _ _ _ _ _ => (rn_build rfl (.cons (T.ev 8 rfl) (.cons (T.ev 3 rfl) (.cons (T.ev 0 rfl) (.cons evc (.cons evc .nil))))) (fun _ => by kernel_rfl))) ?_; clear T ac; intro ac T
  refine g_w (i := 13) (by kernel_rfl) rfl (by kernel_rfl : (pbits 14 8191).setIfInBounds 13 true = pbits 14 16383) rfl ?_; intro K hK
  refine ow_stO M T rfl rfl (T.ev 13 rfl) (T.ev 0 rfl) rfl (.tail .head) rfl (by simp) rfl (by kernel_rfl) ?_; clear M T; intro wc ac M T
  refine sh_out hK _ _ (MA.mk (fun h => (no_of (by kernel_rfl) h).elim) (M.mask [false, false, true] rfl)) ?_; clear hK K
  refine g_done (by kernel_rfl) ?_
  replace T := T.pick [13] rfl
  replace M := M.mask [true, true, false] rfl
  refine nm_then ?_
  refine wp_ret ?_
  refine rt_c M T rfl (T.ev 0 rfl) (nthE_mem (i := 1) rfl) rfl ?_
  exact ⟨_, rfl, M.perm [0] rfl rfl⟩

set_option maxRecDepth 100000 in
set_option maxHeartbeats 1000000 in
theorem flat_any  (w : World)  :
    Calls Try.prog 63 #[] w (JobPost (exJ (-12) (-8)) w) := by
  refine px_enter noEx Try.func63 rfl 3 rfl [] rfl rfl (Mem.init w _) ?_
  intro ac wc T M
  refine wp_seq ?_
  refine wp_region_lit ?_
  refine l_w rfl ?_; intro K hK
  refine ow_al M T rfl rfl rfl rfl ?_; clear M T; intro g1 wc ac M T
  refine sh_out hK _ _ ?_; clear hK K
  refine wpList_nil ?_
  refine nm_then ?_
  refine wp_seq ?_
  refine wp_region_lit ?_
  refine l_w rfl ?_; intro K hK
  refine ow_call (first := []) (cap := []) T rfl rfl rfl rfl evf (.cons evc (.cons evc .nil)) Try.func31 rfl rfl ?_
  refine Calls.mono (to_any (-12) (-8) _) ?_
  clear T
  rintro e wc ⟨rfl, hb⟩
  intro ac T
  replace M := M.call hb; clear hb
  refine sh_out hK _ _ ?_; clear hK K
  refine l_w rfl ?_; intro K hK
  refine ow_call (first := []) (cap := []) T rfl rfl rfl rfl evf (.cons (T.ev 0 rfl) .nil) Try.func65 rfl rfl ?_
  refine Calls.mono (job_any (-12) (-8) _) ?_
  clear T
  rintro e wc ⟨gu2, rfl, N⟩
  intro ac T
  replace M := M.join N; clear N
  replace M := M.mask [true, true] rfl
  refine sh_out hK _ _ ?_; clear hK K
  refine l_w rfl ?_; intro K hK
  refine ow_stO M T rfl rfl (T.ev 2 rfl) (T.ev 0 rfl) rfl (.tail .head) rfl (by simp) rfl (by kernel_rfl) ?_; clear M T; intro wc ac M T
  refine sh_out hK _ _ ?_; clear hK K
  refine wpList_nil ?_
  replace T := T.pick [2] rfl
  refine nm_then ?_
  refine wp_ret ?_
  refine rt_c M T rfl (T.ev 0 rfl) (nthE_mem (i := 1) rfl) rfl ?_
  exact ⟨_, rfl, M.perm [0] rfl rfl⟩

set_option maxRecDepth 100000 in
set_option maxHeartbeats 1000000 in
theorem sharper_any  (w : World)  :
    Calls Try.prog 64 #[] w (JobPost (exJ (-9) (-9)) w) := by
  refine px_enter noEx Try.func64 rfl 3 rfl [] rfl rfl (Mem.init w _) ?_
  intro ac wc T M
  refine wp_seq ?_
  refine wp_region_lit ?_
  refine l_w rfl ?_; intro K hK
  refine ow_al M T rfl rfl rfl rfl ?_; clear M T; intro g1 wc ac M T
  refine sh_out hK _ _ ?_; clear hK K
  refine wpList_nil ?_
  refine nm_then ?_
  refine wp_seq ?_
  refine wp_region_lit ?_
  refine l_w rfl ?_; intro K hK
  refine ow_call (first := []) (cap := []) T rfl rfl rfl rfl evf (.cons evc (.cons evc .nil)) Try.func31 rfl rfl ?_
  refine Calls.mono (to_any (-9) (-9) _) ?_
  clear T
  rintro e wc ⟨rfl, hb⟩
  intro ac T
  replace M := M.call hb; clear hb
  refine sh_out hK _ _ ?_; clear hK K
  refine l_w rfl ?_; intro K hK
  refine ow_call (first := []) (cap := []) T rfl rfl rfl rfl evf (.cons (T.ev 0 rfl) .nil) Try.func65 rfl rfl ?_
  refine Calls.mono (job_any (-9) (-9) _) ?_
  clear T
  rintro e wc ⟨gu2, rfl, N⟩
  intro ac T
  replace M := M.join N; clear N
  replace M := M.mask [true, true] rfl
  refine sh_out hK _ _ ?_; clear hK K
  refine l_w rfl ?_; intro K hK
  refine ow_stO M T rfl rfl (T.ev 2 rfl) (T.ev 0 rfl) rfl (.tail .head) rfl (by simp) rfl (by kernel_rfl) ?_; clear M T; intro wc ac M T
  refine sh_out hK _ _ ?_; clear hK K
  refine wpList_nil ?_
  replace T := T.pick [2] rfl
  refine nm_then ?_
  refine wp_ret ?_
  refine rt_c M T rfl (T.ev 0 rfl) (nthE_mem (i := 1) rfl) rfl ?_
  exact ⟨_, rfl, M.perm [0] rfl rfl⟩

theorem sameInts_same (A B : Option Addr) (n m c d : Nat) (l : List Int) (w : World) (ha : Rd w w.heap.size 1 A n (ic l)) (hb : Rd w w.heap.size 1 B m (ic l)) (hn : n ≤ 9223372036854775807) (hm : m ≤ 9223372036854775807) :
    Calls Try.prog 21 #[.slice A n c, .slice B m d] w fun e w' => e = .returned (.bool true) ∧ Below w.heap.size w w' := by
  have := sameInts_any A B n m c d l l w ha hb hn hm
  simpa using this


set_option maxRecDepth 100000 in
set_option maxHeartbeats 1000000 in
theorem tuned_any  (w : World)  :
    Calls Try.prog 15 #[] w fun e w' => e = .returned (.bool true) ∧ Below w.heap.size w w' := by
  refine px_enter noEx Try.func15 rfl 88 rfl [] rfl rfl (Mem.init w _) ?_
  intro ac wc T M
  refine wp_seq ?_
  refine wp_region_lit ?_
  refine l_q T rfl rfl rfl rfl (rn_assign rfl evc) ?_; clear T ac; intro ac T
  refine wpList_nil ?_
  replace T := T.pick [] rfl
  refine nm_then ?_
  refine wp_seq ?_
  refine wp_region_lit ?_
  refine l_w rfl ?_; intro K hK
  refine ow_call (first := []) (cap := []) T rfl rfl rfl rfl evf .nil Try.func63 rfl rfl ?_
  refine Calls.mono (flat_any _) ?_
  clear T
  rintro e wc ⟨gu1, rfl, N⟩
  intro ac T
  replace M := M.join N; clear N
  replace M := M.mask [true] rfl
  refine sh_out hK _ _ ?_; clear hK K
  refine l_w rfl ?_; intro K hK
  refine ow_call (first := []) (cap := []) T rfl rfl rfl rfl evf (.cons (T.ev 0 rfl) .nil) Try.func33 rfl rfl ?_
  refine Calls.mono (Window_ex _ _ (M.rdOwn (nthE_mem (i := 0) rfl) rfl rfl)) ?_
  clear T
  rintro e wc ⟨rfl, hb⟩
  intro ac T
  replace M := M.call hb; clear hb
  refine sh_out hK _ _ ?_; clear hK K
  refine l_q T rfl rfl rfl rfl (rn_move rfl (T.ev 0 rfl)) ?_; clear T ac; intro ac T
  refine l_q T rfl rfl rfl rfl (rn_extract rfl (T.ev 0 rfl) rfl) ?_; clear T ac; intro ac T
  refine l_q T rfl rfl rfl rfl (rn_extract rfl (T.ev 1 rfl) rfl) ?_; clear T ac; intro ac T
  refine l_w rfl ?_; intro K hK
  refine ow_al M T rfl rfl rfl rfl ?_; clear M T; intro g1 wc ac M T
  refine sh_out hK _ _ ?_; clear hK K
  refine l_w rfl ?_; intro K hK
  refine ow_stO M T rfl rfl (T.ev 0 rfl) (T.ev 2 rfl) rfl .head rfl (by simp) rfl (by kernel_rfl) ?_; clear M T; intro wc ac M T
  refine sh_out hK _ _ ?_; clear hK K
  refine l_q T rfl rfl rfl rfl (rn_assign rfl (T.ev 1 rfl)) ?_; clear T ac; intro ac T
  refine wpList_nil ?_
  replace T := T.pick [0, 1] rfl
  replace M := M.mask [true, false] rfl
  refine nm_then ?_
  refine wp_seq ?_
  refine wp_region_lit ?_
  refine l_w rfl ?_; intro K hK
  refine ow_call (first := []) (cap := []) T rfl rfl rfl rfl evf .nil Try.func63 rfl rfl ?_
  refine Calls.mono (flat_any _) ?_
  clear T
  rintro e wc ⟨gu3, rfl, N⟩
  intro ac T
  replace M := M.join N; clear N
  replace M := M.mask [true, true] rfl
  refine sh_out hK _ _ ?_; clear hK K
  refine l_w rfl ?_; intro K hK
  refine ow_bs (e := 3) [.int .i64 1, .int .i64 2] M T rfl rfl rfl rfl (.cons evc (.cons evc .nil)) (fun _ => by kernel_rfl) ?_; clear M T; intro g2 wc ac M T
  refine sh_out hK _ _ ?_; clear hK K
  refine l_w rfl ?_; intro K hK
  refine ow_call (first := []) (cap := []) T rfl rfl rfl rfl evf (.cons (T.ev 1 rfl) (.cons (T.ev 0 rfl) .nil)) Try.func34 rfl rfl ?_
  refine Calls.mono (After_ex _ _ _ (M.rdOwn (nthE_mem (i := 1) rfl) rfl rfl) (M.rdOwn (nthE_mem (i := 0) rfl) rfl rfl)) ?_
  clear T
  rintro e wc ⟨rfl, hb⟩
  intro ac T
  replace M := M.call hb; clear hb
  refine sh_out hK _ _ ?_; clear hK K
  refine l_q T rfl rfl rfl rfl (rn_move rfl (T.ev 0 rfl)) ?_; clear T ac; intro ac T
  refine l_q T rfl rfl rfl rfl (rn_extract rfl (T.ev 0 rfl) rfl) ?_; clear T ac; intro ac T
  refine l_q T rfl rfl rfl rfl (rn_extract rfl (T.ev 1 rfl) rfl) ?_; clear T ac; intro ac T
  refine l_w rfl ?_; intro K hK
  refine ow_al M T rfl rfl rfl rfl ?_; clear M T; intro g3 wc ac M T
  refine sh_out hK _ _ ?_; clear hK K
  refine l_w rfl ?_; intro K hK
  refine ow_stO M T rfl rfl (T.ev 0 rfl) (T.ev 2 rfl) rfl .head rfl (by simp) rfl (by kernel_rfl) ?_; clear M T; intro wc ac M T
  refine sh_out hK _ _ ?_; clear hK K
  refine l_q T rfl rfl rfl rfl (rn_assign rfl (T.ev 1 rfl)) ?_; clear T ac; intro ac T
  refine wpList_nil ?_
  replace T := T.pick [0, 1, 8, 9] rfl
  replace M := M.mask [true, false, false, true] rfl
  refine nm_then ?_
  refine wp_seq ?_
  refine wp_region_lit ?_
  refine l_w rfl ?_; intro K hK
  refine ow_call (first := []) (cap := []) T rfl rfl rfl rfl evf .nil Try.func64 rfl rfl ?_
  refine Calls.mono (sharper_any _) ?_
  clear T
  rintro e wc ⟨gu5, rfl, N⟩
  intro ac T
  replace M := M.join N; clear N
  replace M := M.mask [true, true, true] rfl
  refine sh_out hK _ _ ?_; clear hK K
  refine l_w rfl ?_; intro K hK
  refine ow_call (first := []) (cap := []) T rfl rfl rfl rfl evf (.cons (T.ev 0 rfl) .nil) Try.func19 rfl rfl ?_
  refine Calls.mono (Shortest_ex _ _ (M.rdOwn (nthE_mem (i := 0) rfl) rfl rfl)) ?_
  clear T
  rintro e wc ⟨Au6, cu6, Iu6, rfl, hsnu6, N⟩
  intro ac T
  obtain ⟨bu6, ou6, Su6⟩ := hsnu6.sp (w := w) (ex := noEx) rfl
  replace M := (M.join N).swapI
  replace M := M.mask [true, true, true] rfl
  clear N hsnu6
  refine sh_out hK _ _ ?_; clear hK K
  refine l_q T rfl rfl rfl rfl (rn_move rfl (T.ev 0 rfl)) ?_; clear T ac; intro ac T
  refine l_q T rfl rfl rfl rfl (rn_extract rfl (T.ev 0 rfl) rfl) ?_; clear T ac; intro ac T
  refine l_q T rfl rfl rfl rfl (rn_extract rfl (T.ev 1 rfl) rfl) ?_; clear T ac; intro ac T
  refine l_q T rfl rfl rfl rfl (rn_assign rfl (T.ev 1 rfl)) ?_; clear T ac; intro ac T
  refine l_q T rfl rfl rfl rfl (rn_assign rfl (T.ev 1 rfl)) ?_; clear T ac; intro ac T
  refine wpList_nil ?_
  replace T := T.pick [0, 1, 7, 8, 9, 10] rfl
  replace M := M.mask [false, true, true] rfl
  refine nm_then ?_
  refine wp_seq ?_
  refine wp_region_lit ?_
  refine l_w rfl ?_; intro K hK
  refine ow_call (first := []) (cap := []) T rfl rfl rfl rfl evf .nil Try.func63 rfl rfl ?_
  refine Calls.mono (flat_any _) ?_
  clear T
  rintro e wc ⟨gu7, rfl, N⟩
  intro ac T
  replace M := M.join N; clear N
  replace M := M.mask [true, true, true] rfl
  refine sh_out hK _ _ ?_; clear hK K
  refine l_w rfl ?_; intro K hK
  refine ow_call (first := []) (cap := []) T rfl rfl rfl rfl evf (.cons (T.ev 0 rfl) .nil) Try.func24 rfl rfl ?_
  refine Calls.mono (Guided_ex _ _ (M.rdOwn (nthE_mem (i := 0) rfl) rfl rfl)) ?_
  clear T
  rintro e wc ⟨rfl, hb⟩
  intro ac T
  replace M := M.call hb; clear hb
  refine sh_out hK _ _ ?_; clear hK K
  refine l_q T rfl rfl rfl rfl (rn_move rfl (T.ev 0 rfl)) ?_; clear T ac; intro ac T
  refine l_q T rfl rfl rfl rfl (rn_extract rfl (T.ev 0 rfl) rfl) ?_; clear T ac; intro ac T
  refine l_q T rfl rfl rfl rfl (rn_extract rfl (T.ev 1 rfl) rfl) ?_; clear T ac; intro ac T
  refine l_q T rfl rfl rfl rfl (rn_assign rfl (T.ev 1 rfl)) ?_; clear T ac; intro ac T
  refine l_q T rfl rfl rfl rfl (rn_assign rfl (T.ev 1 rfl)) ?_; clear T ac; intro ac T
  refine wpList_nil ?_
  replace T := T.pick [0, 1, 7, 8, 9, 10, 11, 12] rfl
  replace M := M.mask [false, true, true] rfl
  refine nm_then ?_
  refine wp_seq ?_
  refine wp_region_lit ?_
  refine l_w rfl ?_; intro K hK
  refine ow_call (first := []) (cap := []) T rfl rfl rfl rfl evf (.cons evc (.cons evc .nil)) Try.func31 rfl rfl ?_
  refine Calls.mono (to_any 4 6 _) ?_
  clear T
  rintro e wc ⟨rfl, hb⟩
  intro ac T
  replace M := M.call hb; clear hb
  refine sh_out hK _ _ ?_; clear hK K
  refine l_w rfl ?_; intro K hK
  refine ow_call (first := []) (cap := []) T rfl rfl rfl rfl evf (.cons (T.ev 0 rfl) .nil) Try.func65 rfl rfl ?_
  refine Calls.mono (job_any 4 6 _) ?_
  clear T
  rintro e wc ⟨gu10, rfl, N⟩
  intro ac T
  replace M := M.join N; clear N
  replace M := M.mask [true, true, true] rfl
  refine sh_out hK _ _ ?_; clear hK K
  refine l_w rfl ?_; intro K hK
  refine ow_call (first := []) (cap := []) T rfl rfl rfl rfl evf (.cons (T.ev 0 rfl) .nil) Try.func26 rfl rfl ?_
  refine Calls.mono (Next_ex _ _ (M.rdOwn (nthE_mem (i := 0) rfl) rfl rfl)) ?_
  clear T
  rintro e wc ⟨rfl, hb⟩
  intro ac T
  replace M := M.call hb; clear hb
  refine sh_out hK _ _ ?_; clear hK K
  refine l_q T rfl rfl rfl rfl (rn_move rfl (T.ev 0 rfl)) ?_; clear T ac; intro ac T
  refine l_q T rfl rfl rfl rfl (rn_extract rfl (T.ev 0 rfl) rfl) ?_; clear T ac; intro ac T
  refine l_q T rfl rfl rfl rfl (rn_extract rfl (T.ev 1 rfl) rfl) ?_; clear T ac; intro ac T
  refine l_q T rfl rfl rfl rfl (rn_extract rfl (T.ev 2 rfl) rfl) ?_; clear T ac; intro ac T
  refine l_q T rfl rfl rfl rfl (rn_assign rfl (T.ev 2 rfl)) ?_; clear T ac; intro ac T
  refine l_q T rfl rfl rfl rfl (rn_assign rfl (T.ev 2 rfl)) ?_; clear T ac; intro ac T
  refine l_q T rfl rfl rfl rfl (rn_assign rfl (T.ev 2 rfl)) ?_; clear T ac; intro ac T
  refine wpList_nil ?_
  replace T := T.pick [0, 1, 2, 10, 11, 12, 13, 14, 15, 16, 17] rfl
  replace M := M.mask [false, true, true] rfl
  refine nm_then ?_
  refine wp_seq ?_
  refine g_start2 M (M.mask [true, true] rfl) 49 (by kernel_rfl) rfl (by kernel_rfl) ?_
  clear M; intro wc M
  refine g_q (T := T) (i := 0) rfl (by kernel_rfl) (by kernel_rfl : (pbits 49 0).setIfInBounds 0 true = pbits 49 1) si_U (fun _ _ _ h => h) rfl rfl rfl rfl (fun _ _ _ _ _ => (rn_move rfl (T.ev 9 rfl))) ?_; clear T ac; intro ac T
  refine g_q (v := (.bool true)) (T := T) (i := 1) rfl (by kernel_rfl) (by kernel_rfl : (pbits 49 1).setIfInBounds 1 true = pbits 49 3) si_U (fun _ _ _ h => h) rfl rfl rfl rfl (fun _ _ _ _ _ => (rn_neqof (rn_eql rfl (T.ev 0 rfl) evc) (by simp))) ?_; clear T ac; intro ac T
  refine g_q (T := T) (i := 2) rfl (by kernel_rfl) (by kernel_rfl : (pbits 49 3).setIfInBounds 2 true = pbits 49 7) si_U (fun _ _ _ h => h) rfl rfl rfl rfl (fun _ _ _ _ _ => (rn_move rfl (T.ev 0 rfl))) ?_; clear T ac; intro ac T
  refine g_q (T := T) (i := 3) rfl (by kernel_rfl) (by kernel_rfl : (pbits 49 7).setIfInBounds 3 true = pbits 49 15) si_U (fun _ _ _ h => h) (wanted_yes rfl rfl (T.ev 0 rfl) rfl) rfl rfl rfl (fun _ _ _ _ _ => (rn_move rfl (T.ev 10 rfl))) ?_; clear T ac; intro ac T
  refine g_q (v := (.bool true)) (T := T) (i := 4) rfl (by kernel_rfl) (by kernel_rfl : (pbits 49 15).setIfInBounds 4 true = pbits 49 31) si_U (fun _ _ _ h => h) (wanted_yes rfl rfl (T.ev 1 rfl) rfl) rfl rfl rfl (fun _ _ _ _ _ => (rn_neqof (rn_eql rfl (T.ev 0 rfl) evc) (by simp))) ?_; clear T ac; intro ac T
  refine g_q (T := T) (i := 5) rfl (by kernel_rfl) (by kernel_rfl : (pbits 49 31).setIfInBounds 5 true = pbits 49 63) si_U (fun _ _ _ h => h) rfl rfl rfl rfl (fun _ _ _ _ _ => (rn_pick1 rfl (T.ev 2 rfl) rfl (T.ev 0 rfl))) ?_; clear T ac; intro ac T
  refine g_q (T := T) (i := 6) rfl (by kernel_rfl) (by kernel_rfl : (pbits 49 63).setIfInBounds 6 true = pbits 49 127) si_U (fun _ _ _ h => h) rfl rfl rfl rfl (fun _ _ _ _ _ => (rn_move rfl (T.ev 0 rfl))) ?_; clear T ac; intro ac T
  refine g_q (T := T) (i := 7) rfl (by kernel_rfl) (by kernel_rfl : (pbits 49 127).setIfInBounds 7 true = pbits 49 255) si_U (fun _ _ _ h => h) (wanted_yes rfl rfl (T.ev 0 rfl) rfl) rfl rfl rfl (fun _ _ _ _ _ => (rn_move rfl (T.ev 12 rfl))) ?_; clear T ac; intro ac T
  refine g_q (v := (.bool true)) (T := T) (i := 8) rfl (by kernel_rfl) (by kernel_rfl : (pbits 49 255).setIfInBounds 8 true = pbits 49 511) si_U (fun _ _ _ h => h) (wanted_yes rfl rfl (T.ev 1 rfl) rfl) rfl rfl rfl (fun _ _ _ _ _ => (rn_neqof (rn_eql rfl (T.ev 0 rfl) evc) (by simp))) ?_; clear T ac; intro ac T
  refine g_q (T := T) (i := 9) rfl (by kernel_rfl) (by kernel_rfl : (pbits 49 511).setIfInBounds 9 true = pbits 49 1023) si_U (fun _ _ _ h => h) rfl rfl rfl rfl (fun _ _ _ _ _ => (rn_pick1 rfl (T.ev 2 rfl) rfl (T.ev 0 rfl))) ?_; clear T ac; intro ac T
  refine g_q (T := T) (i := 10) rfl (by kernel_rfl) (by kernel_rfl : (pbits 49 1023).setIfInBounds 10 true = pbits 49 2047) si_U (fun _ _ _ h => h) rfl rfl rfl rfl (fun _ _ _ _ _ => (rn_move rfl (T.ev 0 rfl))) ?_; clear T ac; intro ac T
  refine g_q (T := T) (i := 11) rfl (by kernel_rfl) (by kernel_rfl : (pbits 49 2047).setIfInBounds 11 true = pbits 49 4095) si_U (fun _ _ _ h => h) (wanted_yes rfl rfl (T.ev 0 rfl) rfl) rfl rfl rfl (fun _ _ _ _ _ => (rn_move rfl (T.ev 14 rfl))) ?_; clear T ac; intro ac T
  refine g_q (v := (.bool true)) (T := T) (i := 12) rfl (by kernel_rfl) (by kernel_rfl : (pbits 49 4095).setIfInBounds 12 true = pbits 49 8191) si_U (fun _ _ _ h => h) (wanted_yes rfl rfl (T.ev 1 rfl) rfl) rfl rfl rfl (fun _ _ _ _ _ => (rn_neqof (rn_eql rfl (T.ev 0 rfl) evc) (by simp))) ?_; clear T ac; intro ac T
  refine g_q (T := T) (i := 13) rfl (by kernel_rfl) (by kernel_rfl : (pbits 49 8191).setIfInBounds 13 true = pbits 49 16383) si_U (fun _ _ _ h => h) rfl rfl rfl rfl (fun _ _ _ _ _ => (rn_pick1 rfl (T.ev 2 rfl) rfl (T.ev 0 rfl))) ?_; clear T ac; intro ac T
  refine g_q (T := T) (i := 14) rfl (by kernel_rfl) (by kernel_rfl : (pbits 49 16383).setIfInBounds 14 true = pbits 49 32767) si_U (fun _ _ _ h => h) rfl rfl rfl rfl (fun _ _ _ _ _ => (rn_move rfl (T.ev 0 rfl))) ?_; clear T ac; intro ac T
  refine g_q (T := T) (i := 15) rfl (by kernel_rfl) (by kernel_rfl : (pbits 49 32767).setIfInBounds 15 true = pbits 49 65535) si_U (fun _ _ _ h => h) (wanted_yes rfl rfl (T.ev 0 rfl) rfl) rfl rfl rfl (fun _ _ _ _ _ => (rn_move rfl (T.ev 15 rfl))) ?_; clear T ac; intro ac T
  refine g_q (v := (.bool true)) (T := T) (i := 16) rfl (by kernel_rfl) (by kernel_rfl : (pbits 49 65535).setIfInBounds 16 true = pbits 49 131071) si_U (fun _ _ _ h => h) (wanted_yes rfl rfl (T.ev 1 rfl) rfl) rfl rfl rfl (fun _ _ _ _ _ => (rn_neqof (rn_eql rfl (T.ev 0 rfl) evc) (by simp))) ?_; clear T ac; intro ac T
  refine g_q (T := T) (i := 17) rfl (by kernel_rfl) (by kernel_rfl : (pbits 49 131071).setIfInBounds 17 true = pbits 49 262143) si_U (fun _ _ _ h => h) rfl rfl rfl rfl (fun _ _ _ _ _ => (rn_pick1 rfl (T.ev 2 rfl) rfl (T.ev 0 rfl))) ?_; clear T ac; intro ac T
  refine g_q (T := T) (i := 18) rfl (by kernel_rfl) (by kernel_rfl : (pbits 49 262143).setIfInBounds 18 true = pbits 49 524287) si_U (fun _ _ _ h => h) rfl rfl rfl rfl (fun _ _ _ _ _ => (rn_move rfl (T.ev 0 rfl))) ?_; clear T ac; intro ac T
  refine g_q (T := T) (i := 19) rfl (by kernel_rfl) (by kernel_rfl : (pbits 49 524287).setIfInBounds 19 true = pbits 49 1048575) si_U (fun _ _ _ h => h) (wanted_yes rfl rfl (T.ev 0 rfl) rfl) rfl rfl rfl (fun B w' hD hl hS => (rn_rowO (Mem.nth (show Mem w noEx w' _ from hS) 1 rfl) rfl (T.ev 29 rfl) rfl)) ?_; clear T ac; intro ac T
  refine g_w (i := 20) (by kernel_rfl) rfl (by kernel_rfl : (pbits 49 1048575).setIfInBounds 20 true = pbits 49 2097151) (wanted_yes rfl rfl (T.ev 1 rfl) rfl) ?_; intro K hK
  refine ow_call (first := []) (cap := []) T rfl rfl rfl rfl evf (.cons evc (.cons evc .nil)) Try.func31 rfl rfl ?_
  refine Calls.mono (to_any (-3) 2 _) ?_
  clear T
  rintro e wc ⟨rfl, hb⟩
  intro ac T
  replace M := M.call hb; clear hb
  refine sh_out hK _ _ (M.mask [true, true] rfl) ?_; clear hK K
  refine g_addU M ?_
  refine g_q (v := (.bool true)) (T := T) (i := 21) rfl (by kernel_rfl) (by kernel_rfl : (pbits 49 2097151).setIfInBounds 21 true = pbits 49 4194303) (si_and si_U si_U) (fun _ _ _ h => h) (wanted_yes rfl rfl (T.ev 2 rfl) rfl) rfl rfl rfl (fun _ _ _ _ _ => (rn_neqof (rn_bin rfl (T.ev 1 rfl) (T.ev 0 rfl) eqT23) (by simp))) ?_; clear T ac; intro ac T
  refine g_q (T := T) (i := 22) rfl (by kernel_rfl) (by kernel_rfl : (pbits 49 4194303).setIfInBounds 22 true = pbits 49 8388607) (si_and si_U si_U) (fun _ _ _ h => h) rfl rfl rfl rfl (fun _ _ _ _ _ => (rn_pick1 rfl (T.ev 3 rfl) rfl (T.ev 0 rfl))) ?_; clear T ac; intro ac T
  refine g_q (T := T) (i := 23) rfl (by kernel_rfl) (by kernel_rfl : (pbits 49 8388607).setIfInBounds 23 true = pbits 49 16777215) (si_and si_U si_U) (fun _ _ _ h => h) rfl rfl rfl rfl (fun _ _ _ _ _ => (rn_move rfl (T.ev 0 rfl))) ?_; clear T ac; intro ac T
  refine g_q (T := T) (i := 24) rfl (by kernel_rfl) (by kernel_rfl : (pbits 49 16777215).setIfInBounds 24 true = pbits 49 33554431) (si_and si_U si_U) (fun _ _ _ h => h) (wanted_yes rfl rfl (T.ev 0 rfl) rfl) rfl rfl rfl (fun B w' hD hl hS => (rn_rowO (Mem.nth (show Mem w noEx w' _ from (MA.lft hS)) 0 rfl) rfl (T.ev 32 rfl) rfl)) ?_; clear T ac; intro ac T
  refine g_w (i := 25) (by kernel_rfl) rfl (by kernel_rfl : (pbits 49 33554431).setIfInBounds 25 true = pbits 49 67108863) (wanted_yes rfl rfl (T.ev 1 rfl) rfl) ?_; intro K hK
  refine ow_call (first := []) (cap := []) T rfl rfl rfl rfl evf (.cons evc (.cons evc .nil)) Try.func31 rfl rfl ?_
  refine Calls.mono (to_any (-12) (-6) _) ?_
  clear T
  rintro e wc ⟨rfl, hb⟩
  intro ac T
  replace M := M.call hb; clear hb
  refine sh_out hK _ _ (MA.mk (M.mask [true, true] rfl) (M.mask [true, true] rfl)) ?_; clear hK K
  refine g_w (i := 26) (by kernel_rfl) rfl (by kernel_rfl : (pbits 49 67108863).setIfInBounds 26 true = pbits 49 134217727) (wanted_yes rfl rfl (T.ev 2 rfl) rfl) ?_; intro K hK
  refine ow_call (first := []) (cap := []) T rfl rfl rfl rfl evf (.cons evc (.cons evc .nil)) Try.func31 rfl rfl ?_
  refine Calls.mono (to_any 28 31 _) ?_
  clear T
  rintro e wc ⟨rfl, hb⟩
  intro ac T
  replace M := M.call hb; clear hb
  refine sh_out hK _ _ (MA.mk (M.mask [true, true] rfl) (M.mask [true, true] rfl)) ?_; clear hK K
  refine g_w (i := 27) (by kernel_rfl) rfl (by kernel_rfl : (pbits 49 134217727).setIfInBounds 27 true = pbits 49 268435455) (wanted_yes rfl rfl (T.ev 3 rfl) rfl) ?_; intro K hK
  refine ow_call (first := []) (cap := []) T rfl rfl rfl rfl evf (.cons evc (.cons evc .nil)) Try.func31 rfl rfl ?_
  refine Calls.mono (to_any 39 40 _) ?_
  clear T
  rintro e wc ⟨rfl, hb⟩
  intro ac T
  replace M := M.call hb; clear hb
  refine sh_out hK _ _ (MA.mk (M.mask [true, true] rfl) (M.mask [true, true] rfl)) ?_; clear hK K
  refine g_q (v := (.agg #[.int .i64 (-12), .int .i64 (-6), .int .i64 28, .int .i64 31, .int .i64 39, .int .i64 40])) (T := T) (i := 28) rfl (by kernel_rfl) (by kernel_rfl : (pbits 49 268435455).setIfInBounds 28 true = pbits 49 536870911) (si_and si_U si_U) (fun _ _ _ h => h) (wanted_yes rfl rfl (T.ev 4 rfl) rfl) rfl rfl rfl (fun _ _ _ _ _ => (rn_build rfl (.cons (T.ev 2 rfl) (.cons (T.ev 1 rfl) (.cons (T.ev 0 rfl) .nil))) (fun _ => by kernel_rfl))) ?_; clear T ac; intro ac T
  refine g_q (v := (.bool true)) (T := T) (i := 29) rfl (by kernel_rfl) (by kernel_rfl : (pbits 49 536870911).setIfInBounds 29 true = pbits 49 1073741823) (si_and si_U si_U) (fun _ _ _ h => h) (wanted_yes rfl rfl (T.ev 5 rfl) rfl) rfl rfl rfl (fun _ _ _ _ _ => (rn_neqof (rn_bin rfl (T.ev 4 rfl) (T.ev 0 rfl) eqT25) (by simp))) ?_; clear T ac; intro ac T
  refine g_q (T := T) (i := 30) rfl (by kernel_rfl) (by kernel_rfl : (pbits 49 1073741823).setIfInBounds 30 true = pbits 49 2147483647) (si_and si_U si_U) (fun _ _ _ h => h) rfl rfl rfl rfl (fun _ _ _ _ _ => (rn_pick1 rfl (T.ev 6 rfl) rfl (T.ev 0 rfl))) ?_; clear T ac; intro ac T
  refine g_q (T := T) (i := 31) rfl (by kernel_rfl) (by kernel_rfl : (pbits 49 2147483647).setIfInBounds 31 true = pbits 49 4294967295) (si_and si_U si_U) (fun _ _ _ h => h) rfl rfl rfl rfl (fun _ _ _ _ _ => (rn_move rfl (T.ev 0 rfl))) ?_; clear T ac; intro ac T
  refine g_q (T := T) (i := 32) rfl (by kernel_rfl) (by kernel_rfl : (pbits 49 4294967295).setIfInBounds 32 true = pbits 49 8589934591) (si_and si_U si_U) (fun _ _ _ h => h) (wanted_yes rfl rfl (T.ev 0 rfl) rfl) rfl rfl rfl (fun _ _ _ _ _ => (rn_move rfl (T.ev 36 rfl))) ?_; clear T ac; intro ac T
  refine g_q (v := (.bool true)) (T := T) (i := 33) rfl (by kernel_rfl) (by kernel_rfl : (pbits 49 8589934591).setIfInBounds 33 true = pbits 49 17179869183) (si_and si_U si_U) (fun _ _ _ h => h) (wanted_yes rfl rfl (T.ev 1 rfl) rfl) rfl rfl rfl (fun _ _ _ _ _ => (rn_neqof (rn_eql rfl (T.ev 0 rfl) evc) (by simp))) ?_; clear T ac; intro ac T
  refine g_q (T := T) (i := 34) rfl (by kernel_rfl) (by kernel_rfl : (pbits 49 17179869183).setIfInBounds 34 true = pbits 49 34359738367) (si_and si_U si_U) (fun _ _ _ h => h) rfl rfl rfl rfl (fun _ _ _ _ _ => (rn_pick1 rfl (T.ev 2 rfl) rfl (T.ev 0 rfl))) ?_; clear T ac; intro ac T
  refine g_q (T := T) (i := 35) rfl (by kernel_rfl) (by kernel_rfl : (pbits 49 34359738367).setIfInBounds 35 true = pbits 49 68719476735) (si_and si_U si_U) (fun _ _ _ h => h) rfl rfl rfl rfl (fun _ _ _ _ _ => (rn_move rfl (T.ev 0 rfl))) ?_; clear T ac; intro ac T
  refine g_q (T := T) (i := 36) rfl (by kernel_rfl) (by kernel_rfl : (pbits 49 68719476735).setIfInBounds 36 true = pbits 49 137438953471) (si_and si_U si_U) (fun _ _ _ h => h) (wanted_yes rfl rfl (T.ev 0 rfl) rfl) rfl rfl rfl (fun _ _ _ _ _ => (rn_move rfl (T.ev 38 rfl))) ?_; clear T ac; intro ac T
  refine g_q (v := (.bool true)) (T := T) (i := 37) rfl (by kernel_rfl) (by kernel_rfl : (pbits 49 137438953471).setIfInBounds 37 true = pbits 49 274877906943) (si_and si_U si_U) (fun _ _ _ h => h) (wanted_yes rfl rfl (T.ev 1 rfl) rfl) rfl rfl rfl (fun _ _ _ _ _ => (rn_neqof (rn_eql rfl (T.ev 0 rfl) evc) (by simp))) ?_; clear T ac; intro ac T
  refine g_q (T := T) (i := 38) rfl (by kernel_rfl) (by kernel_rfl : (pbits 49 274877906943).setIfInBounds 38 true = pbits 49 549755813887) (si_and si_U si_U) (fun _ _ _ h => h) rfl rfl rfl rfl (fun _ _ _ _ _ => (rn_pick1 rfl (T.ev 2 rfl) rfl (T.ev 0 rfl))) ?_; clear T ac; intro ac T
  refine g_q (T := T) (i := 39) rfl (by kernel_rfl) (by kernel_rfl : (pbits 49 549755813887).setIfInBounds 39 true = pbits 49 1099511627775) (si_and si_U si_U) (fun _ _ _ h => h) rfl rfl rfl rfl (fun _ _ _ _ _ => (rn_move rfl (T.ev 0 rfl))) ?_; clear T ac; intro ac T
  refine g_q (T := T) (i := 40) rfl (by kernel_rfl) (by kernel_rfl : (pbits 49 1099511627775).setIfInBounds 40 true = pbits 49 2199023255551) (si_and si_U si_U) (fun _ _ _ h => h) (wanted_yes rfl rfl (T.ev 0 rfl) rfl) rfl rfl rfl (fun _ _ _ _ _ => (rn_move rfl (T.ev 41 rfl))) ?_; clear T ac; intro ac T
  refine g_q (v := (.bool true)) (T := T) (i := 41) rfl (by kernel_rfl) (by kernel_rfl : (pbits 49 2199023255551).setIfInBounds 41 true = pbits 49 4398046511103) (si_and si_U si_U) (fun _ _ _ h => h) (wanted_yes rfl rfl (T.ev 1 rfl) rfl) rfl rfl rfl (fun _ _ _ _ _ => (rn_neqof (rn_eql rfl (T.ev 0 rfl) evc) (by simp))) ?_; clear T ac; intro ac T
  refine g_q (T := T) (i := 42) rfl (by kernel_rfl) (by kernel_rfl : (pbits 49 4398046511103).setIfInBounds 42 true = pbits 49 8796093022207) (si_and si_U si_U) (fun _ _ _ h => h) rfl rfl rfl rfl (fun _ _ _ _ _ => (rn_pick1 rfl (T.ev 2 rfl) rfl (T.ev 0 rfl))) ?_; clear T ac; intro ac T
  refine g_q (T := T) (i := 43) rfl (by kernel_rfl) (by kernel_rfl : (pbits 49 8796093022207).setIfInBounds 43 true = pbits 49 17592186044415) (si_and si_U si_U) (fun _ _ _ h => h) rfl rfl rfl rfl (fun _ _ _ _ _ => (rn_move rfl (T.ev 0 rfl))) ?_; clear T ac; intro ac T
  refine g_q (T := T) (i := 44) rfl (by kernel_rfl) (by kernel_rfl : (pbits 49 17592186044415).setIfInBounds 44 true = pbits 49 35184372088831) (si_and si_U si_U) (fun _ _ _ h => h) (wanted_yes rfl rfl (T.ev 0 rfl) rfl) rfl rfl rfl (fun _ _ _ _ _ => (rn_move rfl (T.ev 50 rfl))) ?_; clear T ac; intro ac T
  refine g_w (i := 45) (by kernel_rfl) rfl (by kernel_rfl : (pbits 49 35184372088831).setIfInBounds 45 true = pbits 49 70368744177663) (wanted_yes rfl rfl (T.ev 1 rfl) rfl) ?_; intro K hK
  refine ow_bs (e := 3) [.int .i64 1, .int .i64 1] M T rfl rfl rfl rfl (.cons evc (.cons evc .nil)) (fun _ => by kernel_rfl) ?_; clear M T; intro g4 wc ac M T
  refine sh_out hK _ _ (MA.mk (M.mask [false, true, true] rfl) (M.mask [false, true, true] rfl)) ?_; clear hK K
  refine g_w (i := 46) (by kernel_rfl) rfl (by kernel_rfl : (pbits 49 70368744177663).setIfInBounds 46 true = pbits 49 140737488355327) (wanted_yes rfl rfl (T.ev 2 rfl) rfl) ?_; intro K hK
  refine ow_call (first := []) (cap := []) T rfl rfl rfl rfl evf (.cons (T.ev 1 rfl) (.cons (T.ev 0 rfl) .nil)) Try.func21 rfl rfl ?_
  refine Calls.mono (sameInts_same _ _ _ _ _ _ ([1, 1]) _ (Su6.rd M (.cons _ (.cons _ (.cons _ (List.Sublist.refl _))))) (M.rdOwn (nthE_mem (i := 0) rfl) rfl rfl) (by first | omega | decide | (simp; omega)) (by first | omega | decide | (simp; omega))) ?_
  clear T
  rintro e wc ⟨rfl, hb⟩
  intro ac T
  replace M := M.call hb; clear hb
  refine sh_out hK _ _ (MA.mk (M.mask [false, true, true] rfl) (M.mask [false, true, true] rfl)) ?_; clear hK K
  refine g_q (T := T) (i := 47) rfl (by kernel_rfl) (by kernel_rfl : (pbits 49 140737488355327).setIfInBounds 47 true = pbits 49 281474976710655) (si_and si_U si_U) (fun _ _ _ h => h) rfl rfl rfl rfl (fun _ _ _ _ _ => (rn_pick1 rfl (T.ev 3 rfl) rfl (T.ev 0 rfl))) ?_; clear T ac; intro ac T
  refine g_q (T := T) (i := 48) rfl (by kernel_rfl) (by kernel_rfl : (pbits 49 281474976710655).setIfInBounds 48 true = pbits 49 562949953421311) (si_and si_U si_U) (fun _ _ _ h => h) rfl rfl rfl rfl (fun _ _ _ _ _ => (rn_assign rfl (T.ev 0 rfl))) ?_; clear T ac; intro ac T
  refine g_done (by kernel_rfl) ?_
  replace T := T.pick [0] rfl
  replace M := M.mask [false, false, false] rfl
  refine nm_then ?_
  refine wp_ret ?_
  refine rt_1 T rfl (T.ev 0 rfl) ?_
  exact ⟨rfl, M.below⟩

end Go.Proofs.Ythlpceoajhcliaa
end

section
/-
  What the laws' walks use.
-/
namespace Go.Proofs.Ythlpceoajhcliaa
set_option linter.unusedSimpArgs false
set_option linter.unusedVariables false
open Go.RowKit

/-- A job whose ranges are single numbers. -/
def Jb.one (j : Jb) : Jb := { j with p1 := j.p0, u1 := j.u0, d1 := j.d0, a1 := j.a0, b1 := j.b0, le := min (min j.le j.t0) j.r0 }
theorem Mem.joinW {w0 w w' : World} {ex : Nat → Prop} {L L' I : List (Nat × BA)} {g : Nat} {p p' : BA} (M : Mem w0 ex w L) (hu : Upd L g p p' L') (N : Mem w (fun b => b = g) w' (I ++ [(g, p')])) : Mem w0 ex w' (I ++ L') := by
  have hg := M.blk _ hu.mem
  have hgl := BA.lt hg.2
  have hnd := N.nd
  rw [List.map_append] at hnd
  obtain ⟨n1, n2, n3⟩ := List.nodup_append.1 hnd
  have hI : ∀ q ∈ I, w.heap.size ≤ q.1 := fun q hq => by
    rcases (N.blk q (List.mem_append_left _ hq)).1 with h | h
    · exact h
    · exact absurd h (n3 q.1 (List.mem_map.2 ⟨q, hq, rfl⟩) g (by simp))
  refine ⟨N.os.trans M.os, N.tape.trans M.tape, N.output.trans M.output, Nat.le_trans M.size N.size, fun b hb hx => ?_, fun q hq => ?_, ?_⟩
  · refine (N.block b (Nat.lt_of_lt_of_le hb M.size) fun e => ?_).trans (M.block b hb hx)
    have e : b = g := e
    subst e
    rcases hg.1 with h | h
    · have h : w0.heap.size ≤ b := h
      omega
    · exact hx h
  · rcases List.mem_append.1 hq with hq | hq
    · exact ⟨.inl (Nat.le_trans M.size (hI q hq)), (N.blk q (List.mem_append_left _ hq)).2⟩
    · rcases hu.all M.nd q hq with rfl | ⟨h1, h2⟩
      · exact ⟨hg.1, (N.blk _ (List.mem_append_right _ List.mem_cons_self)).2⟩
      · have h3 := M.blk q h1
        exact ⟨h3.1, BA.same h3.2 N.size (N.block _ (BA.lt h3.2) h2)⟩
  · rw [List.map_append, hu.keys]
    refine List.nodup_append.2 ⟨n1, M.nd, fun a ha b hb e => ?_⟩
    obtain ⟨q, hq, rfl⟩ := List.mem_map.1 ha
    obtain ⟨r, hr, rfl⟩ := List.mem_map.1 hb
    have h1 := hI q hq
    have h2 := BA.lt (M.blk r hr).2
    omega


end Go.Proofs.Ythlpceoajhcliaa
end

section
/-
  kit: strokes out of a pot, Turn.
-/
namespace Go.Proofs.Ythlpceoajhcliaa
set_option linter.unusedSimpArgs false
set_option linter.unusedVariables false
open Go.RowKit

theorem Bk.of_heap {w : World} {g : Nat} {t : TypeId} {cur : Array Value} (h : w.heap[g]? = some (.cells cur t)) : Bk w g cur.toList.toArray :=
  ⟨(Array.getElem?_eq_some_iff.1 h).1, fun o => by simp only [World.cell?, h]; rfl, fun o => by simp only [World.frozen?, h]; simp⟩
theorem Sp.mono {w : World} {ex : Nat → Prop} {I I' : List (Nat × BA)} {A : Option Addr} {n size b o : Nat} {xs : List Value} (S : Sp w ex I A n size b o xs) (h : I.Sublist I') : Sp w ex I' A n size b o xs :=
  ⟨S.at0, S.len, fun w' L M hI hn => S.lt w' L M (h.trans hI) hn, fun w' L M hI => S.cell w' L M (h.trans hI)⟩
theorem Sp.pre {w : World} {ex : Nat → Prop} {size n g : Nat} {xs ys : List Value} (hl : xs.length = n * size) : Sp w ex [(g, .cells (xs ++ ys))] (some ⟨g, 0, none⟩) n size g 0 xs :=
  ⟨fun _ => rfl, hl, fun w' L M hI _ => BA.lt (M.blk _ (hI.subset List.mem_cons_self)).2, fun w' L M hI j u hu => by
    have hb := M.get (hI.subset List.mem_cons_self)
    rw [hb.cell, Nat.zero_add, List.getElem?_toArray, List.getElem?_append_left (List.getElem?_eq_some_iff.1 hu).1]
    exact hu⟩
/-- A list of jobs. -/
abbrev JE := Jb × Option Addr × Nat
def jc (l : List JE) : List Value := l.flatMap fun x => jobL x.1 x.2.1 x.2.2
/-- A list of lists. -/
abbrev LE := List Int × Option Addr × Nat
def lc (l : List LE) : List Value := l.map fun x => .slice x.2.1 x.1.length x.2.2
section
variable {w w' : World} {ex : Nat → Prop} {I L : List (Nat × BA)} {n b o k : Nat} {A : Option Addr} {l : List JE} {r : List LE}
end

section
variable {P : Program} {op : Oper} {a : Act} {K : Act → World → Prop} {Q : Exit → Act → World → Prop} {w0 w : World} {ex : Nat → Prop} {L0 L : List (Nat × BA)} {E : List (Nat × Value)} {t n : Nat}
end
def Sw (size : Nat) (A : Option Addr) (n b : Nat) (xs : List Value) (I : List (Nat × BA)) : Prop := xs.length = n * size ∧ (n = 0 ∨ (A = some ⟨b, 0, none⟩ ∧ ∃ ys, I = [(b, .cells (xs ++ ys))]))
theorem Sw.sp {w : World} {ex : Nat → Prop} {size n b : Nat} {A : Option Addr} {xs : List Value} {I : List (Nat × BA)} (h : Sw size A n b xs I) : Sp w ex I A n size b 0 xs := by
  obtain ⟨hl, rfl | ⟨rfl, ys, rfl⟩⟩ := h
  · obtain rfl : xs = [] := List.eq_nil_of_length_eq_zero (by omega)
    exact ⟨fun h => absurd h (by omega), by simp, fun _ _ _ _ h => absurd h (by omega), fun _ _ _ _ j u hu => by simp at hu⟩
  · exact Sp.pre hl
theorem Upd.app {g : Nat} {p p' : BA} : ∀ (L : List (Nat × BA)), Upd (L ++ [(g, p)]) g p p' (L ++ [(g, p')])
  | [] => .head
  | _ :: L => .tail (Upd.app L)
def TurnPost (n : Nat) (w : World) (e : Ending) (w' : World) : Prop := ∃ k : Nat, e = .returned (.int .i64 k) ∧ k < n ∧ Below w.heap.size w w'
def StrokesPost (bp : Nat) (most : Int) (w : World) (e : Ending) (w' : World) : Prop :=
  ∃ (l : List Int) (A : Option Addr) (c : Nat) (s : Int) (I : List (Nat × BA)), e = .returned (.slice A l.length c) ∧ ((l.length : Int) ≤ most ∧ ∀ q ∈ l, q = 1 ∨ q = 2) ∧ u64ok s ∧ Sl 3 1 (.slice A l.length c) l.length (ic l) I ∧ Mem w (fun b => b = bp) w' (I ++ [(bp, .cells [.int .u64 s])])
theorem ic_snoc (l : List Int) (x : Int) : ic l ++ [.int .i64 x] = ic (l ++ [x]) := by simp [ic]


set_option maxRecDepth 100000 in
set_option maxHeartbeats 1000000 in
theorem strokesOf_any (s : Int) (bp : Nat) (most : Int) (w : World) (hm0 : 0 ≤ most) (hm1 : most ≤ 40) (hp : Bk w bp #[.int .u64 s]) (hs : u64ok s) :
    Calls Try.prog 32 #[.pointer (some ⟨bp, 0, none⟩), .int .i64 most] w (StrokesPost bp most w) := by
  refine px_enter (fun b => b = bp) Try.func32 rfl 21 rfl [.pointer (some ⟨bp, 0, none⟩), .int .i64 most] rfl rfl (Mem.initEx (p := .cells [.int .u64 s]) hp) ?_
  intro ac wc T M
  refine wp_seq ?_
  refine wp_region_lit ?_
  refine l_q T rfl rfl rfl rfl (rn_assign rfl evc) ?_; clear T ac; intro ac T
  refine wpList_nil ?_
  replace T := T.pick [1, 2] rfl
  refine nm_then ?_
  refine wp_seq ?_
  refine wp_region_lit ?_
  refine l_q T rfl rfl rfl rfl (rn_assign rfl evc) ?_; clear T ac; intro ac T
  refine wpList_nil ?_
  refine nm_then ?_
  refine wp_seq ?_
  refine wp_seq ?_
  refine wp_region_lit ?_
  refine l_q T rfl rfl rfl rfl (rn_move rfl (T.ev 1 rfl)) ?_; clear T ac; intro ac T
  refine l_q T rfl rfl rfl rfl (rn_move rfl (T.ev 3 rfl)) ?_; clear T ac; intro ac T
  refine l_w rfl ?_; intro K hK
  refine ow_call (first := []) (cap := []) T rfl rfl rfl rfl evf (.cons (T.ev 1 rfl) (.cons (T.ev 0 rfl) .nil)) Try.func28 rfl rfl ?_
  refine Calls.mono (upto_any _ bp most _ (by omega) (by omega) (M.nth 0 rfl) hs) ?_
  clear T
  rintro e wc ⟨xu1, su1, hxu1, hsu1, rfl, hgr, hbk⟩
  intro ac T
  replace M := M.callC (cs' := [.int .u64 su1]) .head hgr hbk
  clear hgr hbk
  refine sh_out hK _ _ ?_; clear hK K
  refine l_q T rfl rfl rfl rfl (rn_assign rfl (T.ev 0 rfl)) ?_; clear T ac; intro ac T
  refine wpList_nil ?_
  replace T := T.pick [0, 4, 5] rfl
  refine nm_then ?_
  refine wp_block ?_
  refine wp_loop_n (fun mz ac wc => ∃ (i : Int) (l : List Int) (A : Option Addr) (c : Nat) (s : Int) (I : List (Nat × BA)), mz = i.toNat ∧ (0 ≤ i) ∧ ((l.length : Int) + i ≤ most) ∧ (∀ q ∈ l, q = 1 ∨ q = 2) ∧ (u64ok s) ∧ (Sl 3 1 (.slice A l.length c) l.length (ic l) I) ∧ Tm ac 21 [(0, .pointer (some ⟨bp, 0, none⟩)), (5, .slice A l.length c), (6, .int .i64 i)] ∧ Mem w (fun b => b = bp) wc ((bp, .cells [.int .u64 s]) :: I)) ?_ ?_
  · exact ⟨_, _, [], none, 0, _, [], rfl, (by omega), (by simp; omega), (fun q hq => by cases hq), hsu1, (Sl.nil _ _), T.pick [2, 1, 0] rfl, M.mask [true] rfl⟩
  · clear T M
    rintro mz ac wc ⟨i, l, A, c, s, I, hmm1, hi, hlen, hq, hs, hsl, T, M⟩
    refine wp_seq ?_
    refine wp_seq ?_
    refine wp_region_lit ?_
    refine l_q T rfl rfl rfl rfl (rn_move rfl (T.ev 2 rfl)) ?_; clear T ac; intro ac T
    refine l_q T rfl rfl rfl rfl (rn_gtr rfl (T.ev 0 rfl) evc) ?_; clear T ac; intro ac T
    refine wpList_nil ?_
    replace T := T.pick [0, 2, 3, 4] rfl
    refine nm_then ?_
    refine wp_if (T.ev 0 rfl) ?_ ?_
    · intro h1
      refine wp_skip ?_
      refine nm_then ?_
      refine wp_seq ?_
      refine wp_block ?_
      refine wp_region_lit ?_
      refine l_q T rfl rfl rfl rfl (rn_move rfl (T.ev 2 rfl)) ?_; clear T ac; intro ac T
      refine l_q T rfl rfl rfl rfl (rn_move rfl (T.ev 2 rfl)) ?_; clear T ac; intro ac T
      refine l_w rfl ?_; intro K hK
      refine ow_bs (e := 3) [.int .i64 1, .int .i64 2] M T rfl rfl rfl rfl (.cons evc (.cons evc .nil)) (fun _ => by kernel_rfl) ?_; clear M T; intro g1 wc ac M T
      refine sh_out hK _ _ ?_; clear hK K
      refine l_w rfl ?_; intro K hK
      refine ow_call (first := []) (cap := []) T rfl rfl rfl rfl evf (.cons (T.ev 1 rfl) (.cons (T.ev 0 rfl) .nil)) Try.func60 rfl rfl ?_
      refine Calls.mono (of_any _ bp _ 2 2 [1, 2] _ (M.rdOwn (nthE_mem (i := 0) rfl) rfl rfl) (M.nee 0 1 rfl rfl rfl) (by decide) (by decide) (M.nth 1 rfl) hs) ?_
      clear T
      rintro e wc ⟨xu2, su2, hxu2, hsu2, rfl, hgr, hbk⟩
      intro ac T
      replace M := M.callC (cs' := [.int .u64 su2]) (.tail .head) hgr hbk
      clear hgr hbk
      simp only [List.mem_cons, List.not_mem_nil, or_false] at hxu2
      refine sh_out hK _ _ ?_; clear hK K
      refine l_w rfl ?_; intro K hK
      refine ow_bs (e := 3) [.int .i64 xu2] M T rfl rfl rfl rfl (.cons (T.ev 0 rfl) .nil) (fun _ => by kernel_rfl) ?_; clear M T; intro g2 wc ac M T
      refine sh_out hK _ _ ?_; clear hK K
      refine l_w rfl ?_; intro K hK
      refine ow_app ([(g2, .cells [.int .i64 xu2]), (g1, .cells [.int .i64 1, .int .i64 2]), (bp, .cells [.int .u64 su2])]) Try.info3 hsl M (by first | rfl | simp) T rfl rfl rfl rfl Try.underlying31 rfl rfl rfl (by omega) (T.ev 4 rfl) (T.ev 0 rfl) (nthE_mem (i := 0) rfl) rfl rfl ?_; clear M T; intro ga1 cga1 wc ac M T
      refine sh_out hK _ _ ?_; clear hK K
      refine l_q (v := (.slice (some ⟨ga1, 0, none⟩) (l.length + 1) cga1)) (T.pick [0, 1, 2, 3, 4, 5, 6, 7, 9] rfl) rfl rfl rfl rfl (rn_assign rfl (T.ev 0 rfl)) ?_; clear T ac; intro ac T
      refine wpList_nil ?_
      replace T := T.pick [0, 8, 9] rfl
      replace M := M.mask [true, false, false, true] rfl
      refine nm_blk ?_
      refine nm_then ?_
      refine wp_region_lit ?_
      refine l_q T rfl rfl rfl rfl (rn_move rfl (T.ev 2 rfl)) ?_; clear T ac; intro ac T
      refine l_q T rfl rfl rfl rfl (rn_sub rfl (T.ev 0 rfl) evc (by omega)) ?_; clear T ac; intro ac T
      refine l_q (v := (.int .i64 (i - 1))) (T.pick [0, 1, 2, 3] rfl) rfl rfl rfl rfl (rn_assign rfl (T.ev 0 rfl)) ?_; clear T ac; intro ac T
      refine wpList_nil ?_
      replace T := T.pick [0, 3, 4] rfl
      refine nm_then ?_
      have e9 : l.length + 1 = (l ++ [xu2]).length := by simp
      rw [e9, ic_snoc] at M
      rw [e9] at T
      clear e9
      exact ⟨_, by omega, (i - 1), (l ++ [xu2]), _, cga1, su2, [(ga1, .row 3 1 (l ++ [xu2]).length (ic (l ++ [xu2])) cga1)], rfl, (by omega), (by simp only [List.length_append, List.length_cons, List.length_nil]; omega), (fun q hq' => by rcases List.mem_append.1 hq' with h9 | h9; exact hq q h9; simp only [List.mem_cons, List.not_mem_nil, or_false] at h9; subst h9; omega), hsu2, (Sl.row _ _ _ _ _ _), T.pick [2, 1, 0] rfl, M.perm [1, 0] rfl rfl⟩
    · intro h1
      refine wp_exit ?_
      refine ex_then ?_
      refine ex_then ?_
      refine ex_hit ?_
      refine nm_then ?_
      refine wp_seq ?_
      refine wp_region_lit ?_
      refine l_q T rfl rfl rfl rfl (rn_move rfl (T.ev 2 rfl)) ?_; clear T ac; intro ac T
      refine l_q T rfl rfl rfl rfl (rn_assign rfl (T.ev 0 rfl)) ?_; clear T ac; intro ac T
      refine wpList_nil ?_
      replace T := T.pick [0] rfl
      refine nm_then ?_
      refine wp_ret ?_
      refine rt_1 T rfl (T.ev 0 rfl) ?_
      exact ⟨l, A, c, _, I, rfl, ⟨by omega, hq⟩, hs, hsl, Mem.swapI (I := [(bp, .cells [.int .u64 s])]) (L := I) (M.mask [true] rfl)⟩

end Go.Proofs.Ythlpceoajhcliaa
end

section
/-
  Tongues after strokes, by the program and by ref1: contracts for the laws.
-/
namespace Go.Proofs.Ythlpceoajhcliaa
set_option linter.unusedSimpArgs false
set_option linter.unusedVariables false
open Go.RowKit

theorem afterC_eq (j : Jb) (l : List Int) : Value.agg (afterC j l) = (.agg #[.int .i64 ((afT j l).p0), .int .i64 ((afT j l).p1), .int .i64 ((afT j l).t0), .int .i64 ((afT j l).t1), .int .i64 ((afT j l).r0), .int .i64 ((afT j l).r1)]) := by
  unfold afterC afT
  by_cases h : checkStrokesJ j l = 0
  · rw [if_pos h, if_pos h]; rfl
  · rw [if_neg h, if_neg h]; rfl


theorem After_T (j : Jb) (A : Option Addr) (c : Nat) (B : Option Addr) (d n : Nat) (l : List Int) (w : World) (hr : Rd w w.heap.size 2 A j.sh.length (rc j.sh)) (hn : j.sh.length ≤ 9223372036854775807) (hl : Rd w w.heap.size 1 B n (ic l)) (hm : n ≤ 9223372036854775807) :
    Calls Try.prog 34 #[jobV j A c, .slice B n d] w fun e w' => e = .returned (.tuple #[.agg #[.int .i64 ((afT j l).p0), .int .i64 ((afT j l).p1), .int .i64 ((afT j l).t0), .int .i64 ((afT j l).t1), .int .i64 ((afT j l).r0), .int .i64 ((afT j l).r1)], .int .i64 (checkStrokesJ j l)]) ∧ Below w.heap.size w w' := by
  have h := After_any j A c B d n l w hr hn hl hm
  rw [afterC_eq] at h
  exact h

end Go.Proofs.Ythlpceoajhcliaa
end

section
/-
  Plain laws: whoever reads a meter needs no more strokes than whoever does not.
-/
namespace Go.Proofs.Ythlpceoajhcliaa
set_option linter.unusedSimpArgs false
set_option linter.unusedVariables false

/-- Thick enough behind so many strokes. -/
def thick (j : Jb) (t r : Int) : Prop := j.le ≤ j.t0 - t * j.a1 ∧ j.le ≤ j.r0 - r * j.b1
/-- A job whose numbers are known. -/
structure Jb.sg (j : Jb) : Prop where
  g : j.good
  p : j.p1 = j.p0
  u : j.u1 = j.u0
  d : j.d1 = j.d0
  t : j.le ≤ j.t0
  r : j.le ≤ j.r0
end Go.Proofs.Ythlpceoajhcliaa
end

section
/-
  Plain laws: a job and its mirror.
-/
namespace Go.Proofs.Ythlpceoajhcliaa
set_option linter.unusedSimpArgs false
set_option linter.unusedVariables false

def m2 (x : Int × Int) : Int × Int := (-x.2, -x.1)
def mirJ (j : Jb) : Jb := ⟨-j.p1, -j.p0, j.r0, j.r1, j.t0, j.t1, j.d0, j.d1, j.u0, j.u1, j.b0, j.b1, j.a0, j.a1, j.le, j.sh.map m2, j.wi, j.me⟩
def mirS (s : St) : St := ⟨-s.p1, -s.p0, s.r0, s.r1, s.t0, s.t1, s.d0, s.d1, s.u0, s.u1, s.b0, s.b1, s.a0, s.a1, s.le⟩

theorem shx_ex {j : Jb} (h : j.good) : (∃ s, s ∈ shx j.sh) ∧ ∀ s ∈ shx j.sh, -60 ≤ s.1 ∧ s.1 ≤ s.2 ∧ s.2 ≤ 60 := by
  have hs := h.sh
  unfold shx
  split
  · exact ⟨⟨_, List.mem_cons_self⟩, fun s hs => by simp only [List.mem_cons, List.not_mem_nil, or_false] at hs; subst hs; decide⟩
  · rename_i hne
    obtain ⟨x, l, e⟩ := List.exists_cons_of_ne_nil hne
    exact ⟨⟨x, by rw [e]; exact List.mem_cons_self⟩, hs⟩
theorem chkS_ok : ∀ (l : List Int), (∀ k ∈ l, k = 1 ∨ k = 2) → chkS l = 0
  | [], _ => rfl
  | k :: l, h => by
    have := chkS_ok l fun q hq => h q (List.mem_cons_of_mem _ hq)
    rcases h k List.mem_cons_self with rfl | rfl <;> simpa [chkS, okS] using this
theorem strokes_ok {j : Jb} (h : j.good) {l : List Int} (hl : l.length ≤ 6) (hk : ∀ k ∈ l, k = 1 ∨ k = 2) : checkStrokesJ j l = 0 := by
  unfold checkStrokesJ
  rw [if_neg (by rw [check_of_good h]; decide), if_neg (by omega)]
  exact chkS_ok l hk

/-- x is j, known better. -/
structure Nar (x j : Jb) : Prop where
  p : j.p0 ≤ x.p0 ∧ x.p1 ≤ j.p1
  t : j.t0 ≤ x.t0 ∧ x.t1 ≤ j.t1
  r : j.r0 ≤ x.r0 ∧ x.r1 ≤ j.r1
  u : j.u0 ≤ x.u0 ∧ x.u1 ≤ j.u1
  d : j.d0 ≤ x.d0 ∧ x.d1 ≤ j.d1
  a : j.a0 ≤ x.a0 ∧ x.a1 ≤ j.a1
  b : j.b0 ≤ x.b0 ∧ x.b1 ≤ j.b1
  le : x.le = j.le
  wi : x.wi = j.wi
  me : x.me ≤ j.me
  len : x.sh.length = j.sh.length
  sh : ∀ (i : Nat) (y : Int × Int), x.sh[i]? = some y → ∃ s, j.sh[i]? = some s ∧ s.1 ≤ y.1 ∧ y.2 ≤ s.2
structure NarS (x s : St) : Prop where
  p : s.p0 ≤ x.p0 ∧ x.p1 ≤ s.p1
  t : s.t0 ≤ x.t0 ∧ x.t1 ≤ s.t1
  r : s.r0 ≤ x.r0 ∧ x.r1 ≤ s.r1
  u : s.u0 ≤ x.u0 ∧ x.u1 ≤ s.u1
  d : s.d0 ≤ x.d0 ∧ x.d1 ≤ s.d1
  a : s.a0 ≤ x.a0 ∧ x.a1 ≤ s.a1
  b : s.b0 ≤ x.b0 ∧ x.b1 ≤ s.b1
  le : x.le = s.le
/-- All ranges are in order. -/
structure OrdS (s : St) : Prop where
  p : s.p0 ≤ s.p1
  t : s.t0 ≤ s.t1
  r : s.r0 ≤ s.r1
  u : s.u0 ≤ s.u1
  d : s.d0 ≤ s.d1
  a : s.a0 ≤ s.a1
  b : s.b0 ≤ s.b1
theorem Nar.st {x j : Jb} (h : Nar x j) : NarS x.st j.st := ⟨h.p, h.t, h.r, h.u, h.d, h.a, h.b, h.le⟩
theorem OrdS.of {j : Jb} (h : j.good) : OrdS j.st := ⟨h.p.2.1, h.t.2.1, h.r.2.1, h.u.2.1, h.d.2.1, h.a.2.1, h.b.2.1⟩
theorem NarS.filed {x s : St} (h : NarS x s) (k : Int) : NarS (x.filed k) (s.filed k) := by
  obtain ⟨h1, h2, h3, h4, h5, h6, h7, h8⟩ := h
  unfold St.filed
  split
  · exact ⟨by simp only [St.tip]; omega, by simp only [St.tip]; omega, h3, h4, h5, h6, h7, h8⟩
  · exact ⟨by simp only [St.root]; omega, h2, by simp only [St.root]; omega, h4, h5, h6, h7, h8⟩
theorem OrdS.filed {s : St} (h : OrdS s) (k : Int) : OrdS (s.filed k) := by
  obtain ⟨h1, h2, h3, h4, h5, h6, h7⟩ := h
  unfold St.filed
  split
  · exact ⟨by simp only [St.tip]; omega, by simp only [St.tip]; omega, h3, h4, h5, h6, h7⟩
  · exact ⟨by simp only [St.root]; omega, h2, by simp only [St.root]; omega, h4, h5, h6, h7⟩
theorem NarS.after : ∀ (l : List Int) {x s : St}, NarS x s → NarS (x.after l) (s.after l)
  | [], _, _, h => h
  | k :: l, _, _, h => NarS.after l (h.filed k)
theorem OrdS.after : ∀ (l : List Int) {s : St}, OrdS s → OrdS (s.after l)
  | [], _, h => h
  | k :: l, _, h => OrdS.after l (h.filed k)
theorem has_iff2 (a b c d : Int) : hasB a b c d = true ↔ a ≤ c ∧ d ≤ b := by unfold hasB; rw [decide_eq_true_eq]
end Go.Proofs.Ythlpceoajhcliaa
end

section
/-
  Plain laws: a game that is played, and gone through.
-/
namespace Go.Proofs.Ythlpceoajhcliaa
set_option linter.unusedSimpArgs false
set_option linter.unusedVariables false

/-- v is the least number up to 'most' with f, and one more than 'most' if there is none. -/
structure Need (f : Nat → Bool) (most : Nat) (v : Int) : Prop where
  lo : 0 ≤ v
  hi : v ≤ most + 1
  iff : ∀ m : Nat, m ≤ most → (v ≤ m ↔ f m = true)
theorem Need.zero (most : Nat) : Need (fun _ => true) most 0 := ⟨by omega, by omega, fun m _ => ⟨fun _ => rfl, fun _ => by omega⟩⟩
theorem Need.congr {f g : Nat → Bool} {most : Nat} {v : Int} (h : Need f most v) (e : ∀ m, f m = g m) : Need g most v :=
  ⟨h.lo, h.hi, fun m hm => by rw [h.iff m hm, e m]⟩
theorem Need.max {f g : Nat → Bool} {most : Nat} {a b : Int} (ha : Need f most a) (hb : Need g most b) : Need (fun m => f m && g m) most (max a b) := by
  refine ⟨by have := ha.lo; omega, by have := ha.hi; have := hb.hi; omega, fun m hm => ?_⟩
  rw [Bool.and_eq_true, ← ha.iff m hm, ← hb.iff m hm]
  omega
theorem Need.best {n : Nat} {b v1 v2 : Int} {c1 c2 : Bool} {f1 f2 f : Nat → Bool} (h1 : c1 = true → Need f1 n v1) (h2 : c2 = true → Need f2 n v2)
    (hb : b = min (min ((n : Int) + 2) (if c1 = true then 1 + v1 else n + 2)) (if c2 = true then 1 + v2 else n + 2)) (f0 : f 0 = false) (fS : ∀ m, f (m + 1) = ((c1 && f1 m) || (c2 && f2 m))) : Need f (n + 1) b := by
  have k1 : c1 = true → 0 ≤ v1 ∧ v1 ≤ n + 1 := fun h => ⟨(h1 h).lo, (h1 h).hi⟩
  have k2 : c2 = true → 0 ≤ v2 ∧ v2 ≤ n + 1 := fun h => ⟨(h2 h).lo, (h2 h).hi⟩
  have key : 1 ≤ b ∧ b ≤ n + 2 ∧ ∀ m : Nat, m ≤ n → (b ≤ m + 1 ↔ (c1 = true ∧ v1 ≤ m) ∨ (c2 = true ∧ v2 ≤ m)) := by
    by_cases e1 : c1 = true <;> by_cases e2 : c2 = true
    · have q1 := k1 e1
      have q2 := k2 e2
      rw [if_pos e1, if_pos e2] at hb
      simp only [e1, e2, eq_self, true_and]
      refine ⟨by omega, by omega, fun m hm => ?_⟩
      omega
    · have q1 := k1 e1
      rw [if_pos e1, if_neg e2] at hb
      simp only [e1, e2, eq_self, true_and, Bool.false_eq_true, false_and, or_false]
      refine ⟨by omega, by omega, fun m hm => ?_⟩
      omega
    · have q2 := k2 e2
      rw [if_neg e1, if_pos e2] at hb
      simp only [e1, e2, eq_self, true_and, Bool.false_eq_true, false_and, false_or]
      refine ⟨by omega, by omega, fun m hm => ?_⟩
      omega
    · rw [if_neg e1, if_neg e2] at hb
      simp only [e1, e2, Bool.false_eq_true, false_and, or_false, iff_false]
      refine ⟨by omega, by omega, fun m hm => ?_⟩
      omega
  refine ⟨by omega, by omega, fun m hm => ?_⟩
  cases m with
  | zero => rw [f0]; constructor
            · intro h; omega
            · intro h; cases h
  | succ m =>
    rw [fS m, show ((m + 1 : Nat) : Int) = (m : Int) + 1 by omega, key.2.2 m (by omega), Bool.or_eq_true, Bool.and_eq_true, Bool.and_eq_true]
    constructor
    · rintro (⟨a, c⟩ | ⟨a, c⟩)
      · exact .inl ⟨a, ((h1 a).iff m (by omega)).1 c⟩
      · exact .inr ⟨a, ((h2 a).iff m (by omega)).1 c⟩
    · rintro (⟨a, c⟩ | ⟨a, c⟩)
      · exact .inl ⟨a, ((h1 a).iff m (by omega)).2 c⟩
      · exact .inr ⟨a, ((h2 a).iff m (by omega)).2 c⟩

/-- The first k readings. -/
def readsK (j : Jb) (s0 s1 : Int) (p0 p1 t r : Int) (k : Nat) (m : Nat) : Bool := (List.range k).all fun i => stopsP j s0 s1 m (rdg p0 p1 j.me i).1 (rdg p0 p1 j.me i).2 t r
theorem readsK_all (j : Jb) (s0 s1 p0 p1 t r : Int) (m : Nat) : readsK j s0 s1 p0 p1 t r (rdN p0 p1 j.me) m = readsP j s0 s1 m p0 p1 t r := by
  unfold readsK readsP rdgs
  rw [List.all_map]
  rfl
theorem readsK_le {j : Jb} {s0 s1 p0 p1 t r : Int} {k k' m : Nat} (h : k ≤ k') (hr : readsK j s0 s1 p0 p1 t r k' m = true) : readsK j s0 s1 p0 p1 t r k m = true := by
  unfold readsK at *
  rw [List.all_eq_true] at *
  exact fun x hx => hr x (List.mem_range.2 (by have := List.mem_range.1 hx; omega))
theorem Need.exit {j : Jb} {s0 s1 p0 p1 t r v : Int} {k most : Nat} (h : Need (readsK j s0 s1 p0 p1 t r k) most v) (hv : (most : Int) < v) (hk : k ≤ rdN p0 p1 j.me) : Need (fun m => readsP j s0 s1 m p0 p1 t r) most v := by
  refine ⟨h.lo, h.hi, fun m hm => ⟨fun h8 => by omega, fun h8 => ?_⟩⟩
  rw [← readsK_all] at h8
  exact (h.iff m hm).2 (readsK_le hk h8)
theorem Need.stop {j : Jb} {s0 s1 p0 p1 t r b v1 v2 : Int} {n : Nat} {c1 c2 : Bool} (hno : hasB s0 s1 p0 p1 = false) (e1 : c1 = okT j (t + 1) r) (e2 : c2 = okT j t (r + 1))
    (h1 : c1 = true → Need (fun m => readsP j s0 s1 m (p0 + j.u0) (p1 + j.u1) (t + 1) r) n v1) (h2 : c2 = true → Need (fun m => readsP j s0 s1 m (p0 - j.d1) (p1 - j.d0) t (r + 1)) n v2)
    (hb : b = min (min ((n : Int) + 2) (if c1 = true then 1 + v1 else n + 2)) (if c2 = true then 1 + v2 else n + 2)) : Need (fun m => stopsP j s0 s1 m p0 p1 t r) (n + 1) b := by
  refine Need.best h1 h2 hb hno fun m => ?_
  subst e1 e2
  show (hasB s0 s1 p0 p1 || ((okT j (t + 1) r && readsP j s0 s1 m (p0 + j.u0) (p1 + j.u1) (t + 1) r) || (okT j t (r + 1) && readsP j s0 s1 m (p0 - j.d1) (p1 - j.d0) t (r + 1)))) = _
  rw [hno, Bool.false_or]
/-- A job of which more is known. -/
abbrev Jb.at (j : Jb) (p0 p1 : Int) : Jb := { j with p0 := p0, p1 := p1 }
abbrev Jb.filed (j : Jb) (k : Int) : Jb := { j with p0 := (afT j [k]).p0, p1 := (afT j [k]).p1, t0 := (afT j [k]).t0, t1 := (afT j [k]).t1, r0 := (afT j [k]).r0, r1 := (afT j [k]).r1 }
/-- Two jobs with the same file and the same conditions. -/
structure SameF (k j : Jb) : Prop where
  u0 : k.u0 = j.u0
  u1 : k.u1 = j.u1
  d0 : k.d0 = j.d0
  d1 : k.d1 = j.d1
  a0 : k.a0 = j.a0
  a1 : k.a1 = j.a1
  b0 : k.b0 = j.b0
  b1 : k.b1 = j.b1
  le : k.le = j.le
  sh : k.sh = j.sh
  wi : k.wi = j.wi
  me : k.me = j.me
theorem SameF.refl (j : Jb) : SameF j j := ⟨rfl, rfl, rfl, rfl, rfl, rfl, rfl, rfl, rfl, rfl, rfl, rfl⟩
theorem SameF.at {k j : Jb} (h : SameF k j) (p0 p1 : Int) : SameF (k.at p0 p1) j := ⟨h.u0, h.u1, h.d0, h.d1, h.a0, h.a1, h.b0, h.b1, h.le, h.sh, h.wi, h.me⟩
theorem SameF.filed {k j : Jb} (h : SameF k j) (q : Int) : SameF (k.filed q) j := ⟨h.u0, h.u1, h.d0, h.d1, h.a0, h.a1, h.b0, h.b1, h.le, h.sh, h.wi, h.me⟩
theorem SameF.file {k j : Jb} (h : SameF k j) : FileOf k.st j := ⟨h.u0, h.u1, h.d0, h.d1, h.a0, h.a1, h.b0, h.b1, h.le⟩
/-- What a tongue truly is. -/
structure InS (s : St) (a b c : Int) : Prop where
  p : s.p0 ≤ a ∧ a ≤ s.p1
  t : s.t0 ≤ b ∧ b ≤ s.t1
  r : s.r0 ≤ c ∧ c ≤ s.r1

/-- The job of the law: its meter errs by at most 2. -/
def Jb.me2 (j : Jb) : Jb := { j with me := min j.me 2 }
end Go.Proofs.Ythlpceoajhcliaa
end

section
/-
  kit: what a tongue truly is.
-/
namespace Go.Proofs.Ythlpceoajhcliaa
set_option linter.unusedSimpArgs false
set_option linter.unusedVariables false
open Go.RowKit

def FiledPost (bp : Nat) (s : St) (w : World) (e : Ending) (w' : World) : Prop :=
  ∃ a b c s' : Int, InS s a b c ∧ u64ok s' ∧ e = .returned (.agg #[.int .i64 a, .int .i64 b, .int .i64 c]) ∧ w.grownBy w' (some bp) ∧ Bk w' bp #[.int .u64 s']


end Go.Proofs.Ythlpceoajhcliaa
end

section
/-
  More steps: a receiver that is no nil pointer, functions without results, parts of slices.
-/
namespace Go.Proofs.Ythlpceoajhcliaa
set_option linter.unusedSimpArgs false
set_option linter.unusedVariables false
open Go.RowKit

section
variable {P : Program} {ops : Array Oper} {rest : List Oper} {op : Oper} {a : Act} {Q : Exit → Act → World → Prop} {w0 w : World} {ex : Nat → Prop} {L : List (Nat × BA)} {K : Act → World → Prop} {n t : Nat} {E : List (Nat × Value)} {v : Value}
theorem rn_nil {x : Operand} {p : Addr} (ho : op.op = .nilCheck x) (hx : a.eval x = .pointer (some p)) : Runs P op a (.pointer (some p)) w := by
  unfold Runs execOp
  simp only [ho, hx, Sem.run_pure]
theorem rt_0 {fn : Func} {R : Ending → World → Prop} (T : Tm a n E) (hr : fn.results = #[]) (h : R (.returned (.tuple #[])) w) : bodyPost P fn R .ret a w := ⟨T.defers, _, results_none hr _ _ _, h⟩
theorem nm_0 {fn : Func} {R : Ending → World → Prop} (T : Tm a n E) (hr : fn.results = #[]) (h : R (.returned (.tuple #[])) w) : bodyPost P fn R .normal a w := ⟨T.defers, _, results_none hr _ _ _, h⟩
/-- A bound of a part: d where none is said. -/
def Bd (a : Act) (y : Option Operand) (d l : Nat) : Prop := match y with
  | none => l = d
  | some y => a.eval y = .int .i64 (l : Int)
theorem rn_slice {ty e : TypeId} {size : Nat} {x : Operand} {A : Option Addr} {m c : Nat} {lo hi : Option Operand} {l h : Nat} (ho : op.op = .slice ty x lo hi none) (hu : P.underlying ty = some (.slice e)) (hs : (P.info? e).map (·.size) = some size)
    (hx : a.eval x = .slice A m c) (hl : Bd a lo 0 l) (hh : Bd a hi m h) (h1 : l ≤ h) (h2 : h ≤ c) : Runs P op a (.slice (if c = l then A else A.map (·.add (l * size))) (h - l) (c - l)) w := by
  cases hi' : P.info? e with
  | none => rw [hi'] at hs; simp at hs
  | some inf =>
    rw [hi'] at hs
    simp at hs
    have q1 : (l : Int) ≤ (h : Int) := by omega
    have q2 : (h : Int) ≤ (c : Int) := by omega
    unfold Runs execOp
    cases lo with
    | none =>
      have hl : l = 0 := hl
      subst hl
      cases hi with
      | none =>
        have hh : h = m := hh
        subst hh
        simp [ho, hx, Instr.sliceAt, Instr.slice, Instr.sliceBounds, Sem.run_bind, run_underlying, hu, sizeOf, typeInfo, hi', hs]
      | some y =>
        have hh : a.eval y = .int .i64 (h : Int) := hh
        simp [ho, hx, hh, Instr.sliceAt, Instr.slice, Instr.sliceBounds, Instr.sliceBound, asIntOf, Sem.run_bind, run_underlying, hu, sizeOf, typeInfo, hi', hs, h2]
    | some z =>
      have hl : a.eval z = .int .i64 (l : Int) := hl
      cases hi with
      | none =>
        have hh : h = m := hh
        subst hh
        simp [ho, hx, hl, Instr.sliceAt, Instr.slice, Instr.sliceBounds, Instr.sliceBound, asIntOf, Sem.run_bind, run_underlying, hu, sizeOf, typeInfo, hi', hs, h1]
      | some y =>
        have hh : a.eval y = .int .i64 (h : Int) := hh
        simp [ho, hx, hh, hl, Instr.sliceAt, Instr.slice, Instr.sliceBounds, Instr.sliceBound, asIntOf, Sem.run_bind, run_underlying, hu, sizeOf, typeInfo, hi', hs, h1, h2]
end
theorem Sp.sub {w : World} {ex : Nat → Prop} {I : List (Nat × BA)} {A : Option Addr} {n size b o : Nat} {xs : List Value} (S : Sp w ex I A n size b o xs) {l h c : Nat} (h1 : l ≤ h) (h2 : h ≤ n) (h3 : n ≤ c) :
    Sp w ex I (if c = l then A else A.map (·.add (l * size))) (h - l) size b (o + l * size) ((xs.drop (l * size)).take ((h - l) * size)) := by
  have hlen : (h - l) * size ≤ n * size - l * size := by
    rw [← Nat.sub_mul]
    exact Nat.mul_le_mul_right _ (by omega)
  refine ⟨fun hp => ?_, ?_, fun w' L M hI hp => S.lt w' L M hI (by omega), fun w' L M hI j u hu => ?_⟩
  · rw [if_neg (by omega), S.at0 (by omega), Option.map_some, Addr.add_mid]
  · rw [List.length_take, List.length_drop, S.len]
    omega
  · rw [List.getElem?_take] at hu
    split at hu
    · rw [List.getElem?_drop] at hu
      have := S.cell w' L M hI _ u hu
      rw [← Nat.add_assoc] at this
      exact this
    · cases hu
theorem ic_part (l : List Int) (k h : Nat) : ((ic l).drop (k * 1)).take ((h - k) * 1) = ic ((l.drop k).take (h - k)) := by
  rw [Nat.mul_one, Nat.mul_one]
  unfold ic
  rw [List.map_take, List.map_drop]
theorem rc_drop : ∀ (l : List (Int × Int)) (k : Nat), (rc l).drop (k * 2) = rc (l.drop k)
  | l, 0 => by simp
  | [], k + 1 => by simp [rc]
  | x :: l, k + 1 => by
    rw [show (k + 1) * 2 = k * 2 + 2 by omega, List.drop_succ_cons, ← rc_drop l k]
    rfl
theorem rc_take : ∀ (l : List (Int × Int)) (k : Nat), (rc l).take (k * 2) = rc (l.take k)
  | l, 0 => by simp [rc]
  | [], k + 1 => by simp [rc]
  | x :: l, k + 1 => by
    rw [show (k + 1) * 2 = k * 2 + 2 by omega, List.take_succ_cons, show rc (x :: l.take k) = _ :: _ :: rc (l.take k) from rfl, ← rc_take l k]
    rfl
end Go.Proofs.Ythlpceoajhcliaa
end

section
/-
  Plain laws: whatever a tongue and the shifts truly are.
-/
namespace Go.Proofs.Ythlpceoajhcliaa
set_option linter.unusedSimpArgs false
set_option linter.unusedVariables false

/-- By how many cents a pitch is off at most, with some shifts. -/
def farF (p : Int) (l : List Int) : Int := l.foldl (fun n s => max (max n (p + s)) (-p - s)) 0
theorem far_fold (p w : Int) : ∀ (l : List Int) (n : Int), l.foldl (fun n s => max (max n (p + s)) (-p - s)) n ≤ w ↔ n ≤ w ∧ ∀ s ∈ l, p + s ≤ w ∧ -p - s ≤ w
  | [], n => by simp
  | x :: l, n => by
    rw [List.foldl_cons, far_fold p w l]
    simp only [List.mem_cons, forall_eq_or_imp]
    constructor
    · rintro ⟨h1, h2⟩
      exact ⟨by omega, ⟨by omega, by omega⟩, h2⟩
    · rintro ⟨h1, ⟨h2, h3⟩, h4⟩
      exact ⟨by omega, h4⟩
theorem far_le (p w : Int) (l : List Int) (hw : 0 ≤ w) : farF p l ≤ w ↔ ∀ s ∈ l, p + s ≤ w ∧ -p - s ≤ w := by
  unfold farF
  rw [far_fold]
  exact ⟨fun h => h.2, fun h => ⟨hw, h⟩⟩
theorem far_snoc (p : Int) (l : List Int) (k : Nat) (x : Int) (h : l[k]? = some x) : farF p (l.take (k + 1)) = max (max (farF p (l.take k)) (p + x)) (-p - x) := by
  unfold farF
  rw [List.take_add_one, h, Option.toList_some, List.foldl_append]
  rfl
/-- One shift of each condition. -/
def ShF (sh : List (Int × Int)) (l : List Int) : Prop := l.length = sh.length ∧ ∀ (i : Nat) (s : Int × Int) (n : Int), sh[i]? = some s → l[i]? = some n → s.1 ≤ n ∧ n ≤ s.2
theorem ShF.fst {sh : List (Int × Int)} {l : List Int} (h : ShF sh l) {n : Int} (hn : n ∈ l) : ∃ s ∈ sh, s.1 ≤ n ∧ n ≤ s.2 := by
  obtain ⟨i, hi⟩ := List.getElem?_of_mem hn
  have hlt := (List.getElem?_eq_some_iff.1 hi).1
  have hi2 : i < sh.length := by have := h.1; omega
  have hs : sh[i]? = some sh[i] := List.getElem?_eq_getElem hi2
  exact ⟨_, List.mem_of_getElem? hs, h.2 i _ n hs hi⟩
theorem ShF.snd {sh : List (Int × Int)} {l : List Int} (h : ShF sh l) {s : Int × Int} (hs : s ∈ sh) : ∃ n ∈ l, s.1 ≤ n ∧ n ≤ s.2 := by
  obtain ⟨i, hi⟩ := List.getElem?_of_mem hs
  have hlt := (List.getElem?_eq_some_iff.1 hi).1
  have hi2 : i < l.length := by have := h.1; omega
  have hn : l[i]? = some l[i] := List.getElem?_eq_getElem hi2
  exact ⟨_, List.mem_of_getElem? hn, h.2 i s _ hi hn⟩
/-- Whether a verdict is right if something is so, or not. -/
def rightB (v : Int) (b : Bool) : Bool := (decide (v = 3) || (decide (v = 1) && b)) || (decide (v = 2) && !b)
theorem passes_in {j : Jb} (hj : j.good) {l : List Int} (hl : ShF (shx j.sh) l) {p0 p1 a : Int} (ha : p0 ≤ a ∧ a ≤ p1) :
    (passesJ j p0 p1 = 1 → farF a l ≤ j.wi) ∧ (passesJ j p0 p1 = 2 → j.wi < farF a l) ∧ 1 ≤ passesJ j p0 p1 ∧ passesJ j p0 p1 ≤ 3 := by
  have hw := hj.wi
  refine ⟨fun h => ?_, fun h => ?_, passes_13 j p0 p1⟩
  · have h1 : hasB (winS j).1 (winS j).2 p0 p1 = true := by rw [← passes_1, h]; rfl
    rw [has_iff2] at h1
    rw [far_le _ _ _ hw.1]
    intro n hn
    obtain ⟨s, hs, hb⟩ := hl.fst hn
    have q1 := (winS_lo j p0).1 h1.1 s hs
    have q2 := (winS_hi j p1).1 h1.2 s hs
    omega
  · rcases Int.lt_or_le j.wi (farF a l) with hlt | hle
    · exact hlt
    · exfalso
      rw [far_le _ _ _ hw.1] at hle
      have q1 : (winL j).1 ≤ a := (winL_lo j a).2 fun s hs => by obtain ⟨n, hn, hb⟩ := hl.snd hs; have := hle n hn; omega
      have q2 : a ≤ (winL j).2 := (winL_hi j a).2 fun s hs => by obtain ⟨n, hn, hb⟩ := hl.snd hs; have := hle n hn; omega
      unfold passesJ at h
      split at h
      · omega
      split at h
      · rename_i h3
        have e1 : (meetL (winL j) [(p0, p1)]).1 ≤ a := (meet_lo a _ _).2 ⟨q1, fun s hs => by simp only [List.mem_cons, List.not_mem_nil, or_false] at hs; subst hs; exact ha.1⟩
        have e2 : a ≤ (meetL (winL j) [(p0, p1)]).2 := (meet_hi a _ _).2 ⟨q2, fun s hs => by simp only [List.mem_cons, List.not_mem_nil, or_false] at hs; subst hs; exact ha.2⟩
        omega
      · omega
theorem worst_in {sh : List (Int × Int)} {l : List Int} (hl : ShF (shx sh) l) {p0 p1 a : Int} (ha : p0 ≤ a ∧ a ≤ p1) : farF a l ≤ worstF p0 p1 sh := by
  have h0 : 0 ≤ worstF p0 p1 sh := ((wfold_le p0 p1 (worstF p0 p1 sh) (if sh = [] then [(0, 0)] else sh) 0).1 (Int.le_refl _)).1
  have h1 := (worst_le p0 p1 (worstF p0 p1 sh) h0 sh).1 (Int.le_refl _)
  rw [far_le _ _ _ h0]
  intro n hn
  obtain ⟨s, hs, hb⟩ := hl.fst hn
  have := h1 s hs
  omega
theorem spoiled_in {s : St} {a b c : Int} (h : InS s a b c) : (s.spoiled = 1 → b < s.le ∨ c < s.le) ∧ (s.spoiled = 2 → s.le ≤ b ∧ s.le ≤ c) ∧ 1 ≤ s.spoiled ∧ s.spoiled ≤ 3 := by
  have h1 := h.t
  have h2 := h.r
  unfold St.spoiled
  split
  · exact ⟨fun _ => by omega, fun h => by omega, by omega, by omega⟩
  · split
    · exact ⟨fun h => by omega, fun _ => by omega, by omega, by omega⟩
    · exact ⟨fun h => by omega, fun h => by omega, by omega, by omega⟩
theorem InS.le_after {j : Jb} : ∀ (l : List Int) {s : St}, s.le = j.le → (s.after l).le = j.le
  | [], _, h => h
  | k :: l, s, h => InS.le_after (j := j) l (s := s.filed k) (by unfold St.filed; split <;> exact h)

theorem top_after {j : Jb} (hj : j.good) {l : List Int} (hl : l.length ≤ 6) (hk : ∀ k ∈ l, k = 1 ∨ k = 2) : checkStrokesJ j l = 0 ∧ afT j l = j.st.after l ∧ worstT j l = (worstF (j.st.after l).p0 (j.st.after l).p1 j.sh, 0) ∧ spoiledT j l = ((j.st.after l).spoiled, 0) ∧ fineT j l = (fineJ j (j.st.after l), 0) := by
  have e := strokes_ok hj hl hk
  exact ⟨e, if_pos e, if_pos e, if_pos e, if_pos e⟩

end Go.Proofs.Ythlpceoajhcliaa
end

section
/-
  law1: how far off a pitch is, and whether verdicts are right.
-/
namespace Go.Proofs.Ythlpceoajhcliaa
set_option linter.unusedSimpArgs false
set_option linter.unusedVariables false
open Go.RowKit


set_option maxRecDepth 100000 in
set_option maxHeartbeats 1000000 in
theorem far_any (p : Int) (D : Option Addr) (d n : Nat) (l : List Int) (w : World) (hl : Rd w w.heap.size 1 D n (ic l)) (hm : n ≤ 1000) (hp : -100000 ≤ p ∧ p ≤ 100000) (hb : ∀ s ∈ l, -1000 ≤ s ∧ s ≤ 1000) :
    Calls Try.prog 111 #[.int .i64 p, .slice D n d] w fun e w' => e = .returned (.int .i64 (farF p l)) ∧ Below w.heap.size w w' := by
  have hll := hl.len1
  obtain ⟨bI, oI, SI⟩ := Sp.old hl
  refine px_enter noEx Try.func111 rfl 29 rfl [.int .i64 p, .slice D n d] rfl rfl (Mem.init w _) ?_
  intro ac wc T M
  refine wp_seq ?_
  refine wp_region_lit ?_
  refine l_q T rfl rfl rfl rfl (rn_assign rfl evc) ?_; clear T ac; intro ac T
  refine wpList_nil ?_
  replace T := T.pick [1, 2] rfl
  refine nm_then ?_
  refine wp_seq ?_
  refine wp_region_lit ?_
  refine l_q T rfl rfl rfl rfl (rn_assign rfl evc) ?_; clear T ac; intro ac T
  refine wpList_nil ?_
  refine nm_then ?_
  refine wp_seq ?_
  refine wp_seq ?_
  refine wp_region_lit ?_
  refine l_q T rfl rfl rfl rfl (rn_assign rfl evc) ?_; clear T ac; intro ac T
  refine wpList_nil ?_
  refine nm_then ?_
  refine wp_block ?_
  refine wp_loop_n (fun mz ac wc => ∃ (k : Nat) (V : Int), mz = n - k ∧ (k ≤ n) ∧ (V = farF p (l.take k)) ∧ Tm ac 29 [(0, .int .i64 p), (1, .slice D n d), (5, .int .i64 V), (6, .int .i64 (k : Int))] ∧ Mem w noEx wc []) ?_ ?_
  ·exact ⟨_, 0, _, rfl, (by omega), rfl, T.pick [2, 3, 1, 0] rfl, M.mask [] rfl⟩
  ·clear T M
   rintro mz ac wc ⟨k, V, hmm1, hk, H, T, M⟩
   refine wp_seq ?_
   refine wp_seq ?_
   refine wp_region_lit ?_
   refine l_q T rfl rfl rfl rfl (rn_move rfl (T.ev 3 rfl)) ?_; clear T ac; intro ac T
   refine l_q T rfl rfl rfl rfl (rn_move rfl (T.ev 2 rfl)) ?_; clear T ac; intro ac T
   refine l_q T rfl rfl rfl rfl (rn_lenS rfl Try.underlying31 (T.ev 0 rfl)) ?_; clear T ac; intro ac T
   refine l_q T rfl rfl rfl rfl (rn_lss rfl (T.ev 2 rfl) (T.ev 0 rfl)) ?_; clear T ac; intro ac T
   refine wpList_nil ?_
   replace T := T.pick [0, 4, 5, 6, 7] rfl
   refine nm_then ?_
   refine wp_if (T.ev 0 rfl) ?_ ?_
   ·intro h1
    obtain ⟨x0, hk1, -⟩ := ic_next (l := l) (k := k) (by omega)
    have hb1 := hb _ (List.mem_of_getElem? hk1)
    refine wp_skip ?_
    refine nm_then ?_
    refine wp_seq ?_
    refine wp_block ?_
    refine g_start2 M (M.mask [] rfl) 16 (by kernel_rfl) rfl (by kernel_rfl) ?_
    clear M; intro wc M
    refine g_q (T := T) (i := 0) rfl (by kernel_rfl) (by kernel_rfl : (pbits 16 0).setIfInBounds 0 true = pbits 16 1) si_U (fun _ _ _ h => h) rfl rfl rfl rfl (fun _ _ _ _ _ => (rn_move rfl (T.ev 3 rfl))) ?_; clear T ac; intro ac T
    refine g_q (T := T) (i := 1) rfl (by kernel_rfl) (by kernel_rfl : (pbits 16 1).setIfInBounds 1 true = pbits 16 3) si_U (fun _ _ _ h => h) rfl rfl rfl rfl (fun _ _ _ _ _ => (rn_move rfl (T.ev 2 rfl))) ?_; clear T ac; intro ac T
    refine g_q (T := T) (i := 2) rfl (by kernel_rfl) (by kernel_rfl : (pbits 16 3).setIfInBounds 2 true = pbits 16 7) si_U (fun _ _ _ h => h) rfl rfl rfl rfl (fun _ _ _ _ _ => (rn_move rfl (T.ev 4 rfl))) ?_; clear T ac; intro ac T
    refine g_q (T := T) (i := 3) rfl (by kernel_rfl) (by kernel_rfl : (pbits 16 7).setIfInBounds 3 true = pbits 16 15) si_U (fun _ _ _ h => h) rfl rfl rfl rfl (fun _ _ _ _ _ => (rn_move rfl (T.ev 7 rfl))) ?_; clear T ac; intro ac T
    refine g_q (T := T) (i := 4) rfl (by kernel_rfl) (by kernel_rfl : (pbits 16 15).setIfInBounds 4 true = pbits 16 31) si_U (fun _ _ _ h => h) rfl rfl rfl rfl (fun _ _ _ _ _ => (rn_indexAddr (size := 1) k rfl (T.ev 1 rfl) (T.ev 0 rfl) ⟨_, Try.underlying31, by kernel_rfl⟩ rfl (by omega) (SI.at0 (by omega)))) ?_; clear T ac; intro ac T
    refine g_q (T := T) (i := 5) rfl (by kernel_rfl) (by kernel_rfl : (pbits 16 31).setIfInBounds 5 true = pbits 16 63) si_U (fun _ _ _ h => h) rfl rfl rfl rfl (fun B w' hD hl hS => (rn_cell (Sp.ic0 SI (show Mem w noEx w' _ from hS) (List.nil_sublist _) hk1) rfl (T.ev 0 rfl))) ?_; clear T ac; intro ac T
    refine g_q (T := T) (i := 6) rfl (by kernel_rfl) (by kernel_rfl : (pbits 16 63).setIfInBounds 6 true = pbits 16 127) si_U (fun _ _ _ h => h) rfl rfl rfl rfl (fun _ _ _ _ _ => (rn_add rfl (T.ev 4 rfl) (T.ev 0 rfl) (by omega))) ?_; clear T ac; intro ac T
    refine g_q (T := T) (i := 7) rfl (by kernel_rfl) (by kernel_rfl : (pbits 16 127).setIfInBounds 7 true = pbits 16 255) si_U (fun _ _ _ h => h) rfl rfl rfl rfl (fun _ _ _ _ _ => (rn_move rfl (T.ev 8 rfl))) ?_; clear T ac; intro ac T
    refine g_q (T := T) (i := 8) rfl (by kernel_rfl) (by kernel_rfl : (pbits 16 255).setIfInBounds 8 true = pbits 16 511) si_U (fun _ _ _ h => h) rfl rfl rfl rfl (fun _ _ _ _ _ => (rn_neg rfl (T.ev 0 rfl) (by omega))) ?_; clear T ac; intro ac T
    refine g_q (T := T) (i := 9) rfl (by kernel_rfl) (by kernel_rfl : (pbits 16 511).setIfInBounds 9 true = pbits 16 1023) si_U (fun _ _ _ h => h) rfl rfl rfl rfl (fun _ _ _ _ _ => (rn_move rfl (T.ev 11 rfl))) ?_; clear T ac; intro ac T
    refine g_q (T := T) (i := 10) rfl (by kernel_rfl) (by kernel_rfl : (pbits 16 1023).setIfInBounds 10 true = pbits 16 2047) si_U (fun _ _ _ h => h) rfl rfl rfl rfl (fun _ _ _ _ _ => (rn_move rfl (T.ev 14 rfl))) ?_; clear T ac; intro ac T
    refine g_q (T := T) (i := 11) rfl (by kernel_rfl) (by kernel_rfl : (pbits 16 2047).setIfInBounds 11 true = pbits 16 4095) si_U (fun _ _ _ h => h) rfl rfl rfl rfl (fun _ _ _ _ _ => (rn_indexAddr (size := 1) k rfl (T.ev 1 rfl) (T.ev 0 rfl) ⟨_, Try.underlying31, by kernel_rfl⟩ rfl (by omega) (SI.at0 (by omega)))) ?_; clear T ac; intro ac T
    refine g_q (T := T) (i := 12) rfl (by kernel_rfl) (by kernel_rfl : (pbits 16 4095).setIfInBounds 12 true = pbits 16 8191) si_U (fun _ _ _ h => h) rfl rfl rfl rfl (fun B w' hD hl hS => (rn_cell (Sp.ic0 SI (show Mem w noEx w' _ from hS) (List.nil_sublist _) hk1) rfl (T.ev 0 rfl))) ?_; clear T ac; intro ac T
    refine g_q (T := T) (i := 13) rfl (by kernel_rfl) (by kernel_rfl : (pbits 16 8191).setIfInBounds 13 true = pbits 16 16383) si_U (fun _ _ _ h => h) rfl rfl rfl rfl (fun _ _ _ _ _ => (rn_sub rfl (T.ev 4 rfl) (T.ev 0 rfl) (by omega))) ?_; clear T ac; intro ac T
    refine g_q (T := T) (i := 14) rfl (by kernel_rfl) (by kernel_rfl : (pbits 16 16383).setIfInBounds 14 true = pbits 16 32767) si_U (fun _ _ _ h => h) rfl rfl rfl rfl (fun _ _ _ _ _ => (rn_max3 rfl (T.ev 13 rfl) (T.ev 7 rfl) (T.ev 0 rfl))) ?_; clear T ac; intro ac T
    refine g_q (v := (.int .i64 (max (max V (p + x0)) ((-p) - x0)))) (T := T.pick [0, 1, 2, 3, 4, 5, 6, 7, 8, 9, 10, 11, 12, 13, 14, 15, 16, 17, 19] rfl) (i := 15) rfl (by kernel_rfl) (by kernel_rfl : (pbits 16 32767).setIfInBounds 15 true = pbits 16 65535) si_U (fun _ _ _ h => h) rfl rfl rfl rfl (fun _ _ _ _ _ => (rn_assign rfl (T.ev 0 rfl))) ?_; clear T ac; intro ac T
    refine g_done (by kernel_rfl) ?_
    replace T := T.pick [0, 17, 18, 19] rfl
    refine nm_blk ?_
    refine nm_then ?_
    refine wp_region_lit ?_
    refine l_q T rfl rfl rfl rfl (rn_move rfl (T.ev 3 rfl)) ?_; clear T ac; intro ac T
    refine l_q T rfl rfl rfl rfl (rn_add rfl (T.ev 0 rfl) evc (by omega)) ?_; clear T ac; intro ac T
    refine l_q (v := (.int .i64 ((k : Int) + 1))) (T.pick [0, 1, 2, 3, 4] rfl) rfl rfl rfl rfl (rn_assign rfl (T.ev 0 rfl)) ?_; clear T ac; intro ac T
    refine wpList_nil ?_
    replace T := T.pick [0, 3, 4, 5] rfl
    refine nm_then ?_
    exact ⟨_, by omega, k + 1, _, rfl, (by omega), (by rw [far_snoc _ _ _ _ hk1, H]), T.pick [2, 3, 1, 0] rfl, M.mask [] rfl⟩
   ·intro h1
    refine wp_exit ?_
    refine ex_then ?_
    refine ex_then ?_
    refine ex_hit ?_
    refine nm_then ?_
    refine wp_seq ?_
    refine wp_region_lit ?_
    refine l_q T rfl rfl rfl rfl (rn_move rfl (T.ev 3 rfl)) ?_; clear T ac; intro ac T
    refine l_q T rfl rfl rfl rfl (rn_assign rfl (T.ev 0 rfl)) ?_; clear T ac; intro ac T
    refine wpList_nil ?_
    replace T := T.pick [0] rfl
    refine nm_then ?_
    refine wp_ret ?_
    refine rt_1 T rfl (T.ev 0 rfl) ?_
    refine ⟨ret_int ?_, M.below⟩
    rw [H, List.take_of_length_le (by omega)]

end Go.Proofs.Ythlpceoajhcliaa
end

section
/-
  Plain laws: all truths of a job are gone through.
-/
namespace Go.Proofs.Ythlpceoajhcliaa
set_option linter.unusedSimpArgs false
set_option linter.unusedVariables false

/-- What was found of all truths. -/
structure En where
  a0 : Int
  a1 : Int
  b0 : Int
  b1 : Int
  c0 : Int
  c1 : Int
  wo : Int
  pa : Int
  th : Int
  fi : Int
  tr : Int
abbrev Tr := (Int × Int × Int) × List Int
def thinB (j : Jb) (b c : Int) : Bool := decide (b < j.le) || decide (c < j.le)
def En.note (j : Jb) (e : En) (x : Tr) : En :=
  ⟨min (if e.tr = 0 then x.1.1 else e.a0) x.1.1, max (if e.tr = 0 then x.1.1 else e.a1) x.1.1, min (if e.tr = 0 then x.1.2.1 else e.b0) x.1.2.1, max (if e.tr = 0 then x.1.2.1 else e.b1) x.1.2.1,
    min (if e.tr = 0 then x.1.2.2 else e.c0) x.1.2.2, max (if e.tr = 0 then x.1.2.2 else e.c1) x.1.2.2, max e.wo (farF x.1.1 x.2), (if farF x.1.1 x.2 ≤ j.wi then e.pa + 1 else e.pa),
    (bif thinB j x.1.2.1 x.1.2.2 then e.th + 1 else e.th), (bif (decide (farF x.1.1 x.2 ≤ j.wi) && !thinB j x.1.2.1 x.1.2.2) then e.fi + 1 else e.fi), e.tr + 1⟩
def En.zero : En := ⟨0, 0, 0, 0, 0, 0, 0, 0, 0, 0, 0⟩
def En.all (j : Jb) (e : En) (l : List Tr) : En := l.foldl (En.note j) e
def rangeI (lo hi : Int) : List Int := (List.range (hi - lo + 1).toNat).map fun (k : Nat) => lo + (k : Int)
theorem rangeI_mem {lo hi n : Int} : n ∈ rangeI lo hi ↔ lo ≤ n ∧ n ≤ hi := by
  unfold rangeI
  rw [List.mem_map]
  constructor
  · rintro ⟨k, hk, rfl⟩
    have := List.mem_range.1 hk
    omega
  · intro h
    exact ⟨(n - lo).toNat, List.mem_range.2 (by omega), by omega⟩
theorem rangeI_get {lo hi n : Int} {k : Nat} (h : n = lo + (k : Int)) (hn : n ≤ hi) : (rangeI lo hi)[k]? = some n := by
  unfold rangeI
  rw [List.getElem?_map, List.getElem?_range (by omega), h]
  rfl
theorem rangeI_length (lo hi : Int) : (rangeI lo hi).length = (hi - lo + 1).toNat := by simp [rangeI]
theorem take_flat {α β : Type} (F : α → List β) (l : List α) (k : Nat) (x : α) (h : l[k]? = some x) : (l.take (k + 1)).flatMap F = (l.take k).flatMap F ++ F x := by
  rw [List.take_add_one, h, Option.toList_some, List.flatMap_append]
  simp
/-- All shifts that go on from some. -/
def shT : List (Int × Int) → List Int → List (List Int)
  | [], acc => [if acc = [] then [0] else acc]
  | s :: r, acc => (rangeI s.1 s.2).flatMap fun n => shT r (acc ++ [n])
def upR (j : Jb) (k : Int) : Int × Int := if k = 2 then (-j.d1, -j.d0) else (j.u0, j.u1)
def wearR (j : Jb) (k : Int) : Int × Int := if k = 2 then (j.b0, j.b1) else (j.a0, j.a1)
def moveT (k : Int) (f : Int × Int × Int) (n w : Int) : Int × Int × Int := if k = 1 then (f.1 + n, f.2.1 - w, f.2.2) else (f.1 + n, f.2.1, f.2.2 - w)
/-- All that a tongue can be after strokes. -/
def stT (j : Jb) : List Int → Int × Int × Int → List (Int × Int × Int)
  | [], f => [f]
  | k :: r, f => (rangeI (upR j k).1 (upR j k).2).flatMap fun n => (rangeI (wearR j k).1 (wearR j k).2).flatMap fun w => stT j r (moveT k f n w)
/-- All truths that go on from a tongue. -/
def trT (j : Jb) (l : List Int) (f : Int × Int × Int) : List Tr := (stT j l f).flatMap fun g => (shT j.sh []).map fun q => (g, q)
theorem trT_nil (j : Jb) (f : Int × Int × Int) : trT j [] f = (shT j.sh []).map fun q => (f, q) := by simp [trT, stT]
theorem trT_cons (j : Jb) (k : Int) (r : List Int) (f : Int × Int × Int) : trT j (k :: r) f = (rangeI (upR j k).1 (upR j k).2).flatMap fun n => (rangeI (wearR j k).1 (wearR j k).2).flatMap fun w => trT j r (moveT k f n w) := by
  unfold trT
  rw [stT, List.flatMap_assoc]
  congr 1
  funext n
  rw [List.flatMap_assoc]
theorem all_app (j : Jb) (e : En) (l r : List Tr) : En.all j e (l ++ r) = En.all j (En.all j e l) r := by unfold En.all; rw [List.foldl_append]
/-- Numbers of truths stay small. -/
structure En.ok (e : En) (m : Nat) : Prop where
  tr : 0 ≤ e.tr ∧ e.tr + m ≤ 1000000
  pa : 0 ≤ e.pa ∧ e.pa ≤ e.tr
  th : 0 ≤ e.th ∧ e.th ≤ e.tr
  fi : 0 ≤ e.fi ∧ e.fi ≤ e.tr
theorem En.ok.note {j : Jb} {e : En} {m : Nat} (h : e.ok (m + 1)) (x : Tr) : (En.note j e x).ok m := by
  obtain ⟨h1, h2, h3, h4⟩ := h
  refine ⟨?_, ?_, ?_, ?_⟩
  · show 0 ≤ e.tr + 1 ∧ e.tr + 1 + m ≤ 1000000
    omega
  · show 0 ≤ (if farF x.1.1 x.2 ≤ j.wi then e.pa + 1 else e.pa) ∧ (if farF x.1.1 x.2 ≤ j.wi then e.pa + 1 else e.pa) ≤ e.tr + 1
    split <;> omega
  · show 0 ≤ (bif thinB j x.1.2.1 x.1.2.2 then e.th + 1 else e.th) ∧ (bif thinB j x.1.2.1 x.1.2.2 then e.th + 1 else e.th) ≤ e.tr + 1
    cases thinB j x.1.2.1 x.1.2.2 <;> simp only [cond_true, cond_false] <;> omega
  · show 0 ≤ (bif (decide (farF x.1.1 x.2 ≤ j.wi) && !thinB j x.1.2.1 x.1.2.2) then e.fi + 1 else e.fi) ∧ (bif (decide (farF x.1.1 x.2 ≤ j.wi) && !thinB j x.1.2.1 x.1.2.2) then e.fi + 1 else e.fi) ≤ e.tr + 1
    cases (decide (farF x.1.1 x.2 ≤ j.wi) && !thinB j x.1.2.1 x.1.2.2) <;> simp only [cond_true, cond_false] <;> omega
theorem En.ok.all {j : Jb} : ∀ (l : List Tr) {e : En} {m : Nat}, e.ok (l.length + m) → (En.all j e l).ok m
  | [], e, m, h => by simpa [En.all] using h
  | x :: l, e, m, h => En.ok.all l (e := En.note j e x) (En.ok.note (by rw [List.length_cons] at h; rw [show l.length + m + 1 = l.length + 1 + m by omega]; exact h) x)

/-! What is found. -/
theorem all_tr (j : Jb) : ∀ (l : List Tr) (e : En), (En.all j e l).tr = e.tr + l.length
  | [], e => by simp [En.all]
  | x :: l, e => by
    have := all_tr j l (En.note j e x)
    show (En.all j (En.note j e x) l).tr = _
    rw [this]
    show e.tr + 1 + (l.length : Int) = e.tr + ((l.length + 1 : Nat) : Int)
    omega
theorem all_wo (j : Jb) (w : Int) : ∀ (l : List Tr) (e : En), (En.all j e l).wo ≤ w ↔ e.wo ≤ w ∧ ∀ x ∈ l, farF x.1.1 x.2 ≤ w
  | [], e => by simp [En.all]
  | x :: l, e => by
    show (En.all j (En.note j e x) l).wo ≤ w ↔ _
    rw [all_wo j w l]
    show max e.wo (farF x.1.1 x.2) ≤ w ∧ _ ↔ _
    simp only [List.mem_cons, forall_eq_or_imp]
    constructor
    · rintro ⟨h1, h2⟩; exact ⟨by omega, by omega, h2⟩
    · rintro ⟨h1, h2, h3⟩; exact ⟨by omega, h3⟩
/-- The ends of numbers that truths have: pr says which number, lo and hi where the ends stand. -/
theorem all_lo (j : Jb) (pr : Tr → Int) (lo : En → Int) (hn : ∀ e x, lo (En.note j e x) = min (if e.tr = 0 then pr x else lo e) (pr x)) (w : Int) : ∀ (l : List Tr) (e : En), 0 ≤ e.tr → (0 < e.tr ∨ l ≠ []) → (w ≤ lo (En.all j e l) ↔ (0 < e.tr → w ≤ lo e) ∧ ∀ x ∈ l, w ≤ pr x)
  | [], e, h0, h => by
    have h : 0 < e.tr := by rcases h with h | h; exact h; exact absurd rfl h
    simp [En.all, h]
  | x :: l, e, h0, _ => by
    show w ≤ lo (En.all j (En.note j e x) l) ↔ _
    have e1 : (En.note j e x).tr = e.tr + 1 := rfl
    rw [all_lo j pr lo hn w l (En.note j e x) (by omega) (.inl (by omega)), hn, e1]
    simp only [List.mem_cons, forall_eq_or_imp]
    by_cases h9 : e.tr = 0
    · rw [if_pos h9]
      constructor
      · rintro ⟨h1, h2⟩; have := h1 (by omega); exact ⟨fun h => by omega, by omega, h2⟩
      · rintro ⟨h1, h2, h3⟩; exact ⟨fun h => by omega, h3⟩
    · rw [if_neg h9]
      constructor
      · rintro ⟨h1, h2⟩; have := h1 (by omega); exact ⟨fun h => by omega, by omega, h2⟩
      · rintro ⟨h1, h2, h3⟩; have := h1 (by omega); exact ⟨fun h => by omega, h3⟩
theorem all_hi (j : Jb) (pr : Tr → Int) (hi : En → Int) (hn : ∀ e x, hi (En.note j e x) = max (if e.tr = 0 then pr x else hi e) (pr x)) (w : Int) : ∀ (l : List Tr) (e : En), 0 ≤ e.tr → (0 < e.tr ∨ l ≠ []) → (hi (En.all j e l) ≤ w ↔ (0 < e.tr → hi e ≤ w) ∧ ∀ x ∈ l, pr x ≤ w)
  | [], e, h0, h => by
    have h : 0 < e.tr := by rcases h with h | h; exact h; exact absurd rfl h
    simp [En.all, h]
  | x :: l, e, h0, _ => by
    show hi (En.all j (En.note j e x) l) ≤ w ↔ _
    have e1 : (En.note j e x).tr = e.tr + 1 := rfl
    rw [all_hi j pr hi hn w l (En.note j e x) (by omega) (.inl (by omega)), hn, e1]
    simp only [List.mem_cons, forall_eq_or_imp]
    by_cases h9 : e.tr = 0
    · rw [if_pos h9]
      constructor
      · rintro ⟨h1, h2⟩; have := h1 (by omega); exact ⟨fun h => by omega, by omega, h2⟩
      · rintro ⟨h1, h2, h3⟩; exact ⟨fun h => by omega, h3⟩
    · rw [if_neg h9]
      constructor
      · rintro ⟨h1, h2⟩; have := h1 (by omega); exact ⟨fun h => by omega, by omega, h2⟩
      · rintro ⟨h1, h2, h3⟩; have := h1 (by omega); exact ⟨fun h => by omega, h3⟩
/-- How many truths are so. -/
theorem all_cnt (j : Jb) (q : Tr → Bool) (cn : En → Int) (hn : ∀ e x, cn (En.note j e x) = if q x = true then cn e + 1 else cn e) : ∀ (l : List Tr) (e : En), cn (En.all j e l) = cn e + (l.countP q : Nat)
  | [], e => by simp [En.all]
  | x :: l, e => by
    show cn (En.all j (En.note j e x) l) = _
    rw [all_cnt j q cn hn l, hn, List.countP_cons]
    split <;> omega
/-- The verdict on what is so in some of all truths. -/
def toldT (so all : Int) : Int := if so = all then 1 else if so = 0 then 2 else 3
theorem told_is (q : Tr → Bool) {l : List Tr} (hne : l ≠ []) {v : Int} (h1 : v = 1 ↔ ∀ x ∈ l, q x = true) (h2 : v = 2 ↔ ∀ x ∈ l, q x = false) (h3 : 1 ≤ v ∧ v ≤ 3) : toldT ((l.countP q : Nat) : Int) (l.length : Int) = v := by
  unfold toldT
  by_cases a : ∀ x ∈ l, q x = true
  · rw [if_pos (by rw [List.countP_eq_length.2 a]), h1.2 a]
  · rw [if_neg (by intro h; exact a (List.countP_eq_length.1 (by omega)))]
    have n1 : v ≠ 1 := fun h => a (h1.1 h)
    by_cases b : ∀ x ∈ l, q x = false
    · rw [if_pos (by rw [List.countP_eq_zero.2 (fun x hx => by rw [b x hx]; simp)]; rfl), h2.2 b]
    · rw [if_neg (by intro h; exact b (fun x hx => by have := List.countP_eq_zero.1 (by omega : l.countP q = 0) x hx; simpa using this))]
      have n2 : v ≠ 2 := fun h => b (h2.1 h)
      omega

end Go.Proofs.Ythlpceoajhcliaa
end

section
/-
  Plain laws: After, Worst, Passes, Spoiled and Fine are just what all truths say.
-/
namespace Go.Proofs.Ythlpceoajhcliaa
set_option linter.unusedSimpArgs false
set_option linter.unusedVariables false

theorem ShF.nil : ShF [] [] := ⟨rfl, fun i s n h => by simp at h⟩
theorem ShF.cons {s : Int × Int} {sh : List (Int × Int)} {n : Int} {q : List Int} (h1 : s.1 ≤ n ∧ n ≤ s.2) (h : ShF sh q) : ShF (s :: sh) (n :: q) := by
  refine ⟨by simp [h.1], fun i t m ht hm => ?_⟩
  cases i with
  | zero => simp at ht hm; subst ht hm; exact h1
  | succ i => simp at ht hm; exact h.2 i t m ht hm
theorem ShF.uncons {s : Int × Int} {sh : List (Int × Int)} {q : List Int} (h : ShF (s :: sh) q) : ∃ n r, q = n :: r ∧ (s.1 ≤ n ∧ n ≤ s.2) ∧ ShF sh r := by
  cases q with
  | nil => have := h.1; simp at this
  | cons n r =>
    refine ⟨n, r, rfl, h.2 0 s n rfl rfl, by have := h.1; simpa using this, fun i t m ht hm => h.2 (i + 1) t m (by simpa using ht) (by simpa using hm)⟩
theorem ShF.map {sh : List (Int × Int)} (f : Int × Int → Int) (h : ∀ s ∈ sh, s.1 ≤ f s ∧ f s ≤ s.2) : ShF sh (sh.map f) := by
  refine ⟨by simp, fun i s n hs hn => ?_⟩
  rw [List.getElem?_map, hs] at hn
  simp at hn
  subst hn
  exact h s (List.mem_of_getElem? hs)
theorem shT_mem : ∀ (sh : List (Int × Int)) (acc q : List Int), q ∈ shT sh acc ↔ ∃ t, q = (if acc ++ t = [] then [0] else acc ++ t) ∧ ShF sh t
  | [], acc, q => by
    unfold shT
    rw [List.mem_singleton]
    constructor
    · intro h; exact ⟨[], by simpa using h, ShF.nil⟩
    · rintro ⟨t, h, ht⟩
      have : t = [] := List.eq_nil_of_length_eq_zero ht.1
      subst this
      simpa using h
  | s :: sh, acc, q => by
    unfold shT
    rw [List.mem_flatMap]
    constructor
    · rintro ⟨n, hn, hq⟩
      obtain ⟨t, h1, h2⟩ := (shT_mem sh (acc ++ [n]) q).1 hq
      exact ⟨n :: t, by simpa using h1, ShF.cons (rangeI_mem.1 hn) h2⟩
    · rintro ⟨t, h1, h2⟩
      obtain ⟨n, r, rfl, hn, hr⟩ := h2.uncons
      exact ⟨n, rangeI_mem.2 hn, (shT_mem sh (acc ++ [n]) q).2 ⟨r, by simpa using h1, hr⟩⟩
theorem shT_all {sh : List (Int × Int)} {q : List Int} : q ∈ shT sh [] ↔ ShF (shx sh) q := by
  rw [shT_mem]
  unfold shx
  cases sh with
  | nil =>
    rw [if_pos rfl]
    constructor
    · rintro ⟨t, h1, h2⟩
      have : t = [] := List.eq_nil_of_length_eq_zero h2.1
      subst this
      simp at h1
      subst h1
      exact ShF.cons (by decide) ShF.nil
    · intro h
      obtain ⟨n, r, rfl, hn, hr⟩ := h.uncons
      have : r = [] := List.eq_nil_of_length_eq_zero hr.1
      subst this
      have hn : 0 ≤ n ∧ n ≤ 0 := hn
      obtain rfl : n = 0 := by omega
      exact ⟨[], rfl, ShF.nil⟩
  | cons s sh =>
    rw [if_neg (by simp)]
    constructor
    · rintro ⟨t, h1, h2⟩
      obtain ⟨n, r, rfl, hn, hr⟩ := h2.uncons
      simp at h1
      subst h1
      exact ShF.cons hn hr
    · intro h
      obtain ⟨n, r, rfl, hn, hr⟩ := h.uncons
      exact ⟨n :: r, by simp, ShF.cons hn hr⟩
theorem stT_mem {j : Jb} : ∀ (l : List Int) (s : St), FileOf s j → OrdS s → (∀ k ∈ l, k = 1 ∨ k = 2) → ∀ (g : Int × Int × Int), (∃ f : Int × Int × Int, InS s f.1 f.2.1 f.2.2 ∧ g ∈ stT j l f) ↔ InS (s.after l) g.1 g.2.1 g.2.2
  | [], s, hf, ho, hk, g => by
    constructor
    · rintro ⟨f, h1, h2⟩
      simp only [stT, List.mem_singleton] at h2
      subst h2
      exact h1
    · intro h; exact ⟨g, h, by simp [stT]⟩
  | k :: l, s, hf, ho, hk, g => by
    have ih := stT_mem l (s.filed k) (hf.filed k) (ho.filed k) (fun q hq => hk q (List.mem_cons_of_mem _ hq)) g
    show _ ↔ InS ((s.filed k).after l) g.1 g.2.1 g.2.2
    rw [← ih]
    obtain ⟨o1, o2, o3, o4, o5, o6, o7⟩ := ho
    obtain ⟨f1, f2, f3, f4, f5, f6, f7, f8, f9⟩ := hf
    constructor
    · rintro ⟨f, h1, h2⟩
      simp only [stT, List.mem_flatMap] at h2
      obtain ⟨n, hn, w, hw, h2⟩ := h2
      refine ⟨moveT k f n w, ?_, h2⟩
      have hn := rangeI_mem.1 hn
      have hw := rangeI_mem.1 hw
      obtain ⟨i1, i2, i3⟩ := h1
      rcases hk k List.mem_cons_self with rfl | rfl
      · simp only [upR, wearR, show ¬ ((1 : Int) = 2) from by decide, if_false] at hn hw
        simp only [moveT, St.filed, if_true, St.tip]
        exact ⟨by dsimp only; omega, by dsimp only; omega, i3⟩
      · simp only [upR, wearR, if_true] at hn hw
        simp only [moveT, St.filed, show ¬ ((2 : Int) = 1) from by decide, if_false, St.root]
        exact ⟨by dsimp only; omega, i2, by dsimp only; omega⟩
    · rintro ⟨f, h1, h2⟩
      obtain ⟨i1, i2, i3⟩ := h1
      rcases hk k List.mem_cons_self with rfl | rfl
      · simp only [St.filed, if_true, St.tip] at i1 i2 i3
        refine ⟨(f.1 - max s.u0 (f.1 - s.p1), f.2.1 + max s.a0 (s.t0 - f.2.1), f.2.2), ⟨by dsimp only; omega, by dsimp only; omega, i3⟩, ?_⟩
        simp only [stT, List.mem_flatMap]
        refine ⟨max s.u0 (f.1 - s.p1), rangeI_mem.2 ?_, max s.a0 (s.t0 - f.2.1), rangeI_mem.2 ?_, ?_⟩
        · simp only [upR, show ¬ ((1 : Int) = 2) from by decide, if_false]; omega
        · simp only [wearR, show ¬ ((1 : Int) = 2) from by decide, if_false]; omega
        · simp only [moveT, if_true]
          rw [show f.1 - max s.u0 (f.1 - s.p1) + max s.u0 (f.1 - s.p1) = f.1 by omega, show f.2.1 + max s.a0 (s.t0 - f.2.1) - max s.a0 (s.t0 - f.2.1) = f.2.1 by omega]
          exact h2
      · simp only [St.filed, show ¬ ((2 : Int) = 1) from by decide, if_false, St.root] at i1 i2 i3
        refine ⟨(f.1 - max (-s.d1) (f.1 - s.p1), f.2.1, f.2.2 + max s.b0 (s.r0 - f.2.2)), ⟨by dsimp only; omega, i2, by dsimp only; omega⟩, ?_⟩
        simp only [stT, List.mem_flatMap]
        refine ⟨max (-s.d1) (f.1 - s.p1), rangeI_mem.2 ?_, max s.b0 (s.r0 - f.2.2), rangeI_mem.2 ?_, ?_⟩
        · simp only [upR, if_true]; omega
        · simp only [wearR, if_true]; omega
        · simp only [moveT, show ¬ ((2 : Int) = 1) from by decide, if_false]
          rw [show f.1 - max (-s.d1) (f.1 - s.p1) + max (-s.d1) (f.1 - s.p1) = f.1 by omega, show f.2.2 + max s.b0 (s.r0 - f.2.2) - max s.b0 (s.r0 - f.2.2) = f.2.2 by omega]
          exact h2
/-- All truths of a job. -/
def allT (j : Jb) (l : List Int) : List Tr := (rangeI j.p0 j.p1).flatMap fun n => (rangeI j.t0 j.t1).flatMap fun t => (rangeI j.r0 j.r1).flatMap fun r => trT j l (n, t, r)
theorem allT_mem {j : Jb} (hj : j.good) {l : List Int} (hk : ∀ k ∈ l, k = 1 ∨ k = 2) (x : Tr) : x ∈ allT j l ↔ InS (j.st.after l) x.1.1 x.1.2.1 x.1.2.2 ∧ ShF (shx j.sh) x.2 := by
  rw [← stT_mem l j.st ⟨rfl, rfl, rfl, rfl, rfl, rfl, rfl, rfl, rfl⟩ (OrdS.of hj) hk]
  unfold allT trT
  simp only [List.mem_flatMap, List.mem_map, rangeI_mem]
  constructor
  · rintro ⟨n, hn, t, ht, r, hr, g, hg, q, hq, rfl⟩
    exact ⟨⟨(n, t, r), ⟨hn, ht, hr⟩, hg⟩, shT_all.1 hq⟩
  · rintro ⟨⟨f, hf, hg⟩, hq⟩
    exact ⟨f.1, hf.p, f.2.1, hf.t, f.2.2, hf.r, x.1, hg, x.2, shT_all.2 hq, rfl⟩
theorem eq_of_le {A B : Int} (h : ∀ w, w ≤ A ↔ w ≤ B) : A = B := by
  have h1 := (h A).1 (Int.le_refl _)
  have h2 := (h B).2 (Int.le_refl _)
  omega
theorem eq_of_ge {A B : Int} (h : ∀ w, A ≤ w ↔ B ≤ w) : A = B := by
  have h1 := (h A).1 (Int.le_refl _)
  have h2 := (h B).2 (Int.le_refl _)
  omega
structure AllLaw (j : Jb) (s : St) (e : En) : Prop where
  a0 : e.a0 = s.p0
  a1 : e.a1 = s.p1
  b0 : e.b0 = s.t0
  b1 : e.b1 = s.t1
  c0 : e.c0 = s.r0
  c1 : e.c1 = s.r1
  wo : e.wo = worstF s.p0 s.p1 j.sh
  th : toldT e.th e.tr = s.spoiled
  fi : toldT e.fi e.tr = fineJ j s
  pa : toldT e.pa e.tr = passesJ j s.p0 s.p1
theorem all_law {j : Jb} (hj : j.good) {l : List Int} (hk : ∀ k ∈ l, k = 1 ∨ k = 2) : AllLaw j (j.st.after l) (En.all j En.zero (allT j l)) := by
  have hm := allT_mem hj hk
  have ho := OrdS.after l (OrdS.of hj)
  have hle : (j.st.after l).le = j.le := InS.le_after (j := j) l rfl
  generalize allT j l = L at *
  generalize j.st.after l = s at *
  obtain ⟨o1, o2, o3, -, -, -, -⟩ := ho
  obtain ⟨⟨sx, hsx⟩, hsh⟩ := shx_ex hj
  have lows : ShF (shx j.sh) ((shx j.sh).map (·.1)) := ShF.map _ fun q hq => by have := hsh q hq; omega
  have highs : ShF (shx j.sh) ((shx j.sh).map (·.2)) := ShF.map _ fun q hq => by have := hsh q hq; omega
  have hx : ∀ {a b c : Int} {q : List Int}, s.p0 ≤ a ∧ a ≤ s.p1 → s.t0 ≤ b ∧ b ≤ s.t1 → s.r0 ≤ c ∧ c ≤ s.r1 → ShF (shx j.sh) q → (((a, b, c), q) : Tr) ∈ L := fun h1 h2 h3 h4 => (hm _).2 ⟨⟨h1, h2, h3⟩, h4⟩
  have k0 : (((s.p0, s.t0, s.r0), (shx j.sh).map (·.1)) : Tr) ∈ L := hx (by omega) (by omega) (by omega) lows
  have k1 : (((s.p1, s.t1, s.r1), (shx j.sh).map (·.2)) : Tr) ∈ L := hx (by omega) (by omega) (by omega) highs
  have hne : L ≠ [] := fun h => by rw [h] at k0; cases k0
  have hz : (0 : Int) ≤ En.zero.tr := Int.le_refl _
  have htr : (En.all j En.zero L).tr = L.length := by rw [all_tr]; show (0 : Int) + _ = _; omega
  have hwi := hj.wi
  have pass1 : passesJ j s.p0 s.p1 = 1 ↔ ∀ x ∈ L, decide (farF x.1.1 x.2 ≤ j.wi) = true := by
    constructor
    · intro h x hx'
      obtain ⟨i1, i2⟩ := (hm x).1 hx'
      exact decide_eq_true ((passes_in hj i2 i1.p).1 h)
    · intro h
      have a := of_decide_eq_true (h _ k0)
      have b := of_decide_eq_true (h _ k1)
      rw [far_le _ _ _ hwi.1] at a b
      have e : hasB (winS j).1 (winS j).2 s.p0 s.p1 = true := by
        rw [has_iff2]
        refine ⟨(winS_lo j _).2 fun q hq => ?_, (winS_hi j _).2 fun q hq => ?_⟩
        · have := (a q.1 (List.mem_map.2 ⟨q, hq, rfl⟩)).2; dsimp only at this; omega
        · have := (b q.2 (List.mem_map.2 ⟨q, hq, rfl⟩)).1; dsimp only at this; omega
      rw [← passes_1] at e
      simpa using e
  have pass2 : passesJ j s.p0 s.p1 = 2 ∨ ∃ a q, (s.p0 ≤ a ∧ a ≤ s.p1) ∧ ShF (shx j.sh) q ∧ farF a q ≤ j.wi := by
    by_cases h : passesJ j s.p0 s.p1 = 2
    · exact .inl h
    · refine .inr ?_
      by_cases h1 : passesJ j s.p0 s.p1 = 1
      · exact ⟨s.p0, _, by omega, lows, of_decide_eq_true (pass1.1 h1 _ k0)⟩
      · have e : ¬ (meetL (winL j) [(s.p0, s.p1)]).2 < (meetL (winL j) [(s.p0, s.p1)]).1 := by
          intro hlt
          unfold passesJ at h h1
          split at h1
          · exact h1 rfl
          · rename_i h9
            rw [if_neg h9, if_pos hlt] at h
            exact h rfl
        have m1 := (meet_lo (meetL (winL j) [(s.p0, s.p1)]).1 [(s.p0, s.p1)] (winL j)).1 (Int.le_refl _)
        have m2 := (meet_hi (meetL (winL j) [(s.p0, s.p1)]).1 [(s.p0, s.p1)] (winL j)).1 (by omega)
        generalize (meetL (winL j) [(s.p0, s.p1)]).1 = a at m1 m2
        have b1 := m1.2 _ List.mem_cons_self
        have b2 := m2.2 _ List.mem_cons_self
        dsimp only at b1 b2
        have c1 := (winL_lo j a).1 m1.1
        have c2 := (winL_hi j a).1 m2.1
        refine ⟨a, (shx j.sh).map (fun q => max q.1 (-j.wi - a)), ⟨b1, b2⟩, ShF.map _ fun q hq => ?_, ?_⟩
        · have := hsh q hq; have := c1 q hq; omega
        · rw [far_le _ _ _ hwi.1]
          intro n hn
          obtain ⟨q, hq, rfl⟩ := List.mem_map.1 hn
          have := c2 q hq
          try dsimp only
          omega
  have pass2' : passesJ j s.p0 s.p1 = 2 ↔ ∀ x ∈ L, decide (farF x.1.1 x.2 ≤ j.wi) = false := by
    constructor
    · intro h x hx'
      obtain ⟨i1, i2⟩ := (hm x).1 hx'
      exact decide_eq_false (by have := (passes_in hj i2 i1.p).2.1 h; omega)
    · intro h
      rcases pass2 with h2 | ⟨a, q, h3, h4, h5⟩
      · exact h2
      · have := of_decide_eq_false (h _ (hx h3 (show s.t0 ≤ s.t0 ∧ s.t0 ≤ s.t1 by omega) (show s.r0 ≤ s.r0 ∧ s.r0 ≤ s.r1 by omega) h4))
        exact absurd h5 this
  have thin1 : s.spoiled = 1 ↔ ∀ x ∈ L, thinB j x.1.2.1 x.1.2.2 = true := by
    constructor
    · intro h x hx'
      have := (spoiled_in ((hm x).1 hx').1).1 h
      unfold thinB
      rw [Bool.or_eq_true, decide_eq_true_eq, decide_eq_true_eq, ← hle]
      exact this
    · intro h
      have := h _ k1
      unfold thinB at this
      rw [Bool.or_eq_true, decide_eq_true_eq, decide_eq_true_eq, ← hle] at this
      unfold St.spoiled
      rw [if_pos this]
  have thin2 : s.spoiled = 2 ↔ ∀ x ∈ L, thinB j x.1.2.1 x.1.2.2 = false := by
    constructor
    · intro h x hx'
      have := (spoiled_in ((hm x).1 hx').1).2.1 h
      unfold thinB
      rw [Bool.or_eq_false_iff, decide_eq_false_iff_not, decide_eq_false_iff_not, ← hle]
      omega
    · intro h
      have := h _ k0
      unfold thinB at this
      rw [Bool.or_eq_false_iff, decide_eq_false_iff_not, decide_eq_false_iff_not, ← hle] at this
      dsimp only at this
      unfold St.spoiled
      rw [if_neg (by omega), if_pos (by omega)]
  have thin3 := (spoiled_in ((hm _).1 k0).1).2.2
  refine ⟨?_, ?_, ?_, ?_, ?_, ?_, ?_, ?_, ?_, ?_⟩
  · refine eq_of_le fun w => ?_
    rw [all_lo j (fun x => x.1.1) (·.a0) (fun _ _ => rfl) w L _ hz (.inr hne)]
    exact ⟨fun h => h.2 _ k0, fun h => ⟨fun h9 => absurd h9 (by decide), fun x hx' => by have := ((hm x).1 hx').1.p; (try dsimp only); omega⟩⟩
  · refine eq_of_ge fun w => ?_
    rw [all_hi j (fun x => x.1.1) (·.a1) (fun _ _ => rfl) w L _ hz (.inr hne)]
    exact ⟨fun h => h.2 _ k1, fun h => ⟨fun h9 => absurd h9 (by decide), fun x hx' => by have := ((hm x).1 hx').1.p; (try dsimp only); omega⟩⟩
  · refine eq_of_le fun w => ?_
    rw [all_lo j (fun x => x.1.2.1) (·.b0) (fun _ _ => rfl) w L _ hz (.inr hne)]
    exact ⟨fun h => h.2 _ k0, fun h => ⟨fun h9 => absurd h9 (by decide), fun x hx' => by have := ((hm x).1 hx').1.t; (try dsimp only); omega⟩⟩
  · refine eq_of_ge fun w => ?_
    rw [all_hi j (fun x => x.1.2.1) (·.b1) (fun _ _ => rfl) w L _ hz (.inr hne)]
    exact ⟨fun h => h.2 _ k1, fun h => ⟨fun h9 => absurd h9 (by decide), fun x hx' => by have := ((hm x).1 hx').1.t; (try dsimp only); omega⟩⟩
  · refine eq_of_le fun w => ?_
    rw [all_lo j (fun x => x.1.2.2) (·.c0) (fun _ _ => rfl) w L _ hz (.inr hne)]
    exact ⟨fun h => h.2 _ k0, fun h => ⟨fun h9 => absurd h9 (by decide), fun x hx' => by have := ((hm x).1 hx').1.r; (try dsimp only); omega⟩⟩
  · refine eq_of_ge fun w => ?_
    rw [all_hi j (fun x => x.1.2.2) (·.c1) (fun _ _ => rfl) w L _ hz (.inr hne)]
    exact ⟨fun h => h.2 _ k1, fun h => ⟨fun h9 => absurd h9 (by decide), fun x hx' => by have := ((hm x).1 hx').1.r; (try dsimp only); omega⟩⟩
  · refine eq_of_ge fun w => ?_
    rw [all_wo]
    have h0 : 0 ≤ worstF s.p0 s.p1 j.sh := ((wfold_le s.p0 s.p1 (worstF s.p0 s.p1 j.sh) (if j.sh = [] then [(0, 0)] else j.sh) 0).1 (Int.le_refl _)).1
    constructor
    · rintro ⟨h1, h2⟩
      have h1 : 0 ≤ w := h1
      rw [worst_le _ _ _ h1]
      have a := h2 _ k0
      have b := h2 _ k1
      rw [far_le _ _ _ h1] at a b
      intro q hq
      have a1 := (a q.1 (List.mem_map.2 ⟨q, hq, rfl⟩)).2
      have b1 := (b q.2 (List.mem_map.2 ⟨q, hq, rfl⟩)).1
      dsimp only at a1 b1
      omega
    · intro h
      refine ⟨by show (0 : Int) ≤ w; omega, fun x hx' => ?_⟩
      obtain ⟨i1, i2⟩ := (hm x).1 hx'
      have := worst_in i2 i1.p
      omega
  · have e := all_cnt j (fun x => thinB j x.1.2.1 x.1.2.2) (·.th) (fun e x => by show (bif thinB j x.1.2.1 x.1.2.2 then e.th + 1 else e.th) = _; cases thinB j x.1.2.1 x.1.2.2 <;> rfl) L En.zero
    rw [htr, show (En.all j En.zero L).th = ((L.countP fun x => thinB j x.1.2.1 x.1.2.2 : Nat) : Int) from e.trans (by show (0 : Int) + _ = _; omega)]
    exact told_is _ hne thin1 thin2 thin3
  · have e := all_cnt j (fun x => decide (farF x.1.1 x.2 ≤ j.wi) && !thinB j x.1.2.1 x.1.2.2) (·.fi) (fun e x => by show (bif (decide (farF x.1.1 x.2 ≤ j.wi) && !thinB j x.1.2.1 x.1.2.2) then e.fi + 1 else e.fi) = _; cases (decide (farF x.1.1 x.2 ≤ j.wi) && !thinB j x.1.2.1 x.1.2.2) <;> rfl) L En.zero
    rw [htr, show (En.all j En.zero L).fi = ((L.countP fun x => decide (farF x.1.1 x.2 ≤ j.wi) && !thinB j x.1.2.1 x.1.2.2 : Nat) : Int) from e.trans (by show (0 : Int) + _ = _; omega)]
    refine told_is _ hne ?_ ?_ ?_
    · unfold fineJ
      constructor
      · intro h
        have h9 : passesJ j s.p0 s.p1 = 1 ∧ s.spoiled = 2 := by
          split at h
          · assumption
          · split at h <;> omega
        intro x hx'
        try dsimp only
        rw [pass1.1 h9.1 x hx', thin2.1 h9.2 x hx']
        rfl
      · intro h
        rw [if_pos]
        refine ⟨pass1.2 fun x hx' => ?_, thin2.2 fun x hx' => ?_⟩
        · have := h x hx'
          rw [Bool.and_eq_true] at this
          exact this.1
        · have := h x hx'
          rw [Bool.and_eq_true, Bool.not_eq_true'] at this
          exact this.2
    · unfold fineJ
      constructor
      · intro h
        have h9 : passesJ j s.p0 s.p1 = 2 ∨ s.spoiled = 1 := by
          split at h
          · omega
          · split at h
            · assumption
            · omega
        intro x hx'
        try dsimp only
        rcases h9 with h9 | h9
        · rw [pass2'.1 h9 x hx']; rfl
        · rw [thin1.1 h9 x hx']; simp
      · intro h
        have h9 : passesJ j s.p0 s.p1 = 2 ∨ s.spoiled = 1 := by
          rcases pass2 with h2 | ⟨a, q, h3, h4, h5⟩
          · exact .inl h2
          · refine .inr (thin1.2 fun x hx' => ?_)
            obtain ⟨i1, i2⟩ := (hm x).1 hx'
            have := h _ (hx h3 i1.t i1.r h4)
            dsimp only at this
            rw [decide_eq_true h5, Bool.true_and, Bool.not_eq_false'] at this
            exact this
        rw [if_neg (by omega), if_pos h9]
    · unfold fineJ
      split
      · omega
      · split <;> omega
  · have e := all_cnt j (fun x => decide (farF x.1.1 x.2 ≤ j.wi)) (·.pa) (fun e x => by show (if farF x.1.1 x.2 ≤ j.wi then e.pa + 1 else e.pa) = _; by_cases h : farF x.1.1 x.2 ≤ j.wi <;> simp [h]) L En.zero
    rw [htr, show (En.all j En.zero L).pa = ((L.countP fun x => decide (farF x.1.1 x.2 ≤ j.wi) : Nat) : Int) from e.trans (by show (0 : Int) + _ = _; omega)]
    exact told_is _ hne pass1 pass2' (passes_13 _ _ _)

end Go.Proofs.Ythlpceoajhcliaa
end

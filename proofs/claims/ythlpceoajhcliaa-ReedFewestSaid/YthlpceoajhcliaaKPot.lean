/-
  kit: a pot that hands out numbers: which ones they are is not asked.
-/
import Derived.Test.YthlpceoajhcliaaKSame
import Derived.Test.YthlpceoajhcliaaTypes
namespace Go.Proofs.Ythlpceoajhcliaa
set_option linter.unusedSimpArgs false
set_option linter.unusedVariables false
open Go.RowKit

def u64ok (s : Int) : Prop := 0 ≤ s ∧ s < 18446744073709551616
theorem u64_wrap (n : Int) : u64ok (IntKind.u64.wrap n) := by
  unfold u64ok IntKind.wrap
  simp [IntKind.signed, IntKind.bits]
  omega
theorem u64_bits (a b : Int) : u64ok (bits .xor .u64 a b) := by unfold bits; exact u64_wrap _

theorem Mem.callC {w0 w w' : World} {ex : Nat → Prop} {L L' : List (Nat × BA)} {g : Nat} {cs cs' : List Value} (M : Mem w0 ex w L) (hu : Upd L g (.cells cs) (.cells cs') L') (h : w.grownBy w' (some g)) (hp : Bk w' g cs'.toArray) : Mem w0 ex w' L' := M.callW hu h hp

/-- A number of the pot: what is said of it; the pot goes on. -/
def PotPost (bp : Nat) (R : Int → Prop) (k : IntKind) (w : World) (e : Ending) (w' : World) : Prop :=
  ∃ n s : Int, R n ∧ u64ok s ∧ e = .returned (.int k n) ∧ w.grownBy w' (some bp) ∧ Bk w' bp #[.int .u64 s]

set_option maxRecDepth 100000 in
set_option maxHeartbeats 1000000 in
theorem step_any (s : Int) (bp : Nat) (w : World) (hp : Bk w bp #[.int .u64 s]) :
    Calls Try.prog 82 #[.pointer (some ⟨bp, 0, none⟩)] w (PotPost bp u64ok .u64 w) := by
  have M := Mem.initEx (p := .cells [.int .u64 s]) hp
  clear hp
  go_enter Try.func82, Try.ntmps82
  refine m_start M ?_
  clear M
  intro wc M
  go_wp2_with (first | (refine m_ld1 M rfl rfl rfl (by (repeat' (first | exact List.mem_cons_self | refine List.mem_cons_of_mem _ ?_))) (by rfl) ?_) | (refine m_ldr M rfl rfl rfl (by (repeat' (first | exact List.mem_cons_self | refine List.mem_cons_of_mem _ ?_))) (by (try simp only [List.take_succ_cons, List.take_zero, List.take_nil, List.drop_succ_cons, List.drop_zero, List.drop_nil, List.cons_append, List.nil_append, List.append_nil, List.length_cons, List.length_nil, Nat.reduceAdd, Nat.zero_add, Nat.add_zero]); rfl) (by rfl) ?_) | (refine m_st M rfl rfl rfl (by first | exact (rfl : _ = Value.agg _) | exact (rfl : _ = Value.int _ _) | exact (rfl : _ = Value.bool _) | exact (rfl : _ = Value.slice _ _ _) | exact (rfl : _ = Value.pointer _) | exact (rfl : _ = Value.map _) | exact (rfl : _ = Value.func _ _ _) | exact (rfl : _ = Value.string _)) (by rfl) (by (repeat (first | exact Upd.head | apply Upd.tail))) (by (try simp only [List.take_succ_cons, List.take_zero, List.take_nil, List.drop_succ_cons, List.drop_zero, List.drop_nil, List.cons_append, List.nil_append, List.append_nil, List.length_cons, List.length_nil, Nat.reduceAdd, Nat.zero_add, Nat.add_zero]); rfl) (by simp) (by simp [Value.oneCell']) (by kernel_rfl) ?_; clear M; (try clear wc); intro wc M) | (refine m_al M rfl rfl ?_; clear M; (try clear wc); intro g wc M) | (refine m_bx M rfl rfl (by first | exact (rfl : _ = Value.agg _) | exact (rfl : _ = Value.int _ _) | exact (rfl : _ = Value.bool _) | exact (rfl : _ = Value.slice _ _ _) | exact (rfl : _ = Value.pointer _) | exact (rfl : _ = Value.map _) | exact (rfl : _ = Value.func _ _ _) | exact (rfl : _ = Value.string _)) (by rfl) ?_; clear M; (try clear wc); intro g wc M))
  go_ret
  exact ⟨_, _, u64_bits _ _, u64_wrap _, rfl, M.grown, M.get (by (repeat' (first | exact List.mem_cons_self | refine List.mem_cons_of_mem _ ?_)))⟩

set_option maxRecDepth 100000 in
set_option maxHeartbeats 1000000 in
theorem upto_any (s : Int) (bp : Nat) (most : Int) (w : World) (hm : most ≤ 1000000) (hm0 : 0 ≤ most) (hp : Bk w bp #[.int .u64 s]) (hs : u64ok s) :
    Calls Try.prog 28 #[.pointer (some ⟨bp, 0, none⟩), .int .i64 most] w (PotPost bp (fun n => 0 ≤ n ∧ n ≤ most) .i64 w) := by
  have M := Mem.initEx (p := .cells [.int .u64 s]) hp
  have HS := Lib.hid hs
  clear hp hs
  by_cases h1 : most < 1
  · go_enter Try.func28, Try.ntmps28
    refine m_start M ?_
    clear M
    intro wc M
    go_wp2_with (first | (refine m_ld1 M rfl rfl rfl (by (repeat' (first | exact List.mem_cons_self | refine List.mem_cons_of_mem _ ?_))) (by rfl) ?_) | (refine m_ldr M rfl rfl rfl (by (repeat' (first | exact List.mem_cons_self | refine List.mem_cons_of_mem _ ?_))) (by (try simp only [List.take_succ_cons, List.take_zero, List.take_nil, List.drop_succ_cons, List.drop_zero, List.drop_nil, List.cons_append, List.nil_append, List.append_nil, List.length_cons, List.length_nil, Nat.reduceAdd, Nat.zero_add, Nat.add_zero]); rfl) (by rfl) ?_) | (refine m_st M rfl rfl rfl (by first | exact (rfl : _ = Value.agg _) | exact (rfl : _ = Value.int _ _) | exact (rfl : _ = Value.bool _) | exact (rfl : _ = Value.slice _ _ _) | exact (rfl : _ = Value.pointer _) | exact (rfl : _ = Value.map _) | exact (rfl : _ = Value.func _ _ _) | exact (rfl : _ = Value.string _)) (by rfl) (by (repeat (first | exact Upd.head | apply Upd.tail))) (by (try simp only [List.take_succ_cons, List.take_zero, List.take_nil, List.drop_succ_cons, List.drop_zero, List.drop_nil, List.cons_append, List.nil_append, List.append_nil, List.length_cons, List.length_nil, Nat.reduceAdd, Nat.zero_add, Nat.add_zero]); rfl) (by simp) (by simp [Value.oneCell']) (by kernel_rfl) ?_; clear M; (try clear wc); intro wc M) | (refine m_al M rfl rfl ?_; clear M; (try clear wc); intro g wc M) | (refine m_bx M rfl rfl (by first | exact (rfl : _ = Value.agg _) | exact (rfl : _ = Value.int _ _) | exact (rfl : _ = Value.bool _) | exact (rfl : _ = Value.slice _ _ _) | exact (rfl : _ = Value.pointer _) | exact (rfl : _ = Value.map _) | exact (rfl : _ = Value.func _ _ _) | exact (rfl : _ = Value.string _)) (by rfl) ?_; clear M; (try clear wc); intro g wc M))
    go_ret
    exact ⟨0, s, ⟨by omega, by omega⟩, HS.out, rfl, M.grown, M.get (by (repeat' (first | exact List.mem_cons_self | refine List.mem_cons_of_mem _ ?_)))⟩
  · go_enter Try.func28, Try.ntmps28
    refine m_start M ?_
    clear M
    intro wc M
    go_wp2_with (first | (refine m_ld1 M rfl rfl rfl (by (repeat' (first | exact List.mem_cons_self | refine List.mem_cons_of_mem _ ?_))) (by rfl) ?_) | (refine m_ldr M rfl rfl rfl (by (repeat' (first | exact List.mem_cons_self | refine List.mem_cons_of_mem _ ?_))) (by (try simp only [List.take_succ_cons, List.take_zero, List.take_nil, List.drop_succ_cons, List.drop_zero, List.drop_nil, List.cons_append, List.nil_append, List.append_nil, List.length_cons, List.length_nil, Nat.reduceAdd, Nat.zero_add, Nat.add_zero]); rfl) (by rfl) ?_) | (refine m_st M rfl rfl rfl (by first | exact (rfl : _ = Value.agg _) | exact (rfl : _ = Value.int _ _) | exact (rfl : _ = Value.bool _) | exact (rfl : _ = Value.slice _ _ _) | exact (rfl : _ = Value.pointer _) | exact (rfl : _ = Value.map _) | exact (rfl : _ = Value.func _ _ _) | exact (rfl : _ = Value.string _)) (by rfl) (by (repeat (first | exact Upd.head | apply Upd.tail))) (by (try simp only [List.take_succ_cons, List.take_zero, List.take_nil, List.drop_succ_cons, List.drop_zero, List.drop_nil, List.cons_append, List.nil_append, List.append_nil, List.length_cons, List.length_nil, Nat.reduceAdd, Nat.zero_add, Nat.add_zero]); rfl) (by simp) (by simp [Value.oneCell']) (by kernel_rfl) ?_; clear M; (try clear wc); intro wc M) | (refine m_al M rfl rfl ?_; clear M; (try clear wc); intro g wc M) | (refine m_bx M rfl rfl (by first | exact (rfl : _ = Value.agg _) | exact (rfl : _ = Value.int _ _) | exact (rfl : _ = Value.bool _) | exact (rfl : _ = Value.slice _ _ _) | exact (rfl : _ = Value.pointer _) | exact (rfl : _ = Value.map _) | exact (rfl : _ = Value.func _ _ _) | exact (rfl : _ = Value.string _)) (by rfl) ?_; clear M; (try clear wc); intro g wc M) | (go_at_call 82; refine (step_any s bp _ (M.get (by (repeat' (first | exact List.mem_cons_self | refine List.mem_cons_of_mem _ ?_))))).mono ?_; rintro e wc ⟨v, s', hv, hs', rfl, hgr, hb⟩; have HV := Lib.hid hv; have HS' := Lib.hid hs'; have v0 : 0 ≤ v := hv.1; clear hv hs'; replace M := M.callC (cs' := [.int .u64 s']) (by (repeat (first | exact Upd.head | apply Upd.tail))) hgr hb; clear hgr hb))
    go_ret
    have r0 : 0 ≤ v / 2048 % (most + 1) := Int.emod_nonneg _ (by omega)
    have r1 : v / 2048 % (most + 1) < most + 1 := Int.emod_lt_of_pos _ (by omega)
    generalize v / 2048 % (most + 1) = rr at *
    have e : wrap64 rr = rr := IntWalk.wrap64_in rr (by omega)
    rw [e]
    exact ⟨rr, s', ⟨r0, by omega⟩, HS'.out, rfl, M.grown, M.get (by (repeat' (first | exact List.mem_cons_self | refine List.mem_cons_of_mem _ ?_)))⟩

set_option maxRecDepth 100000 in
set_option maxHeartbeats 1000000 in
theorem within_pot (s : Int) (bp : Nat) (lo hi : Int) (w : World) (hl : -1000 ≤ lo) (hh : hi ≤ 1000) (hlh : lo ≤ hi) (hp : Bk w bp #[.int .u64 s]) (hs : u64ok s) :
    Calls Try.prog 38 #[.pointer (some ⟨bp, 0, none⟩), .int .i64 lo, .int .i64 hi] w (PotPost bp (fun n => lo ≤ n ∧ n ≤ hi) .i64 w) := by
  have M := Mem.initEx (p := .cells [.int .u64 s]) hp
  have HS := Lib.hid hs
  clear hp hs
  go_enter Try.func38, Try.ntmps38
  refine m_start M ?_
  clear M
  intro wc M
  go_wp2_with (first | (refine m_ld1 M rfl rfl rfl (by (repeat' (first | exact List.mem_cons_self | refine List.mem_cons_of_mem _ ?_))) (by rfl) ?_) | (refine m_ldr M rfl rfl rfl (by (repeat' (first | exact List.mem_cons_self | refine List.mem_cons_of_mem _ ?_))) (by (try simp only [List.take_succ_cons, List.take_zero, List.take_nil, List.drop_succ_cons, List.drop_zero, List.drop_nil, List.cons_append, List.nil_append, List.append_nil, List.length_cons, List.length_nil, Nat.reduceAdd, Nat.zero_add, Nat.add_zero]); rfl) (by rfl) ?_) | (refine m_st M rfl rfl rfl (by first | exact (rfl : _ = Value.agg _) | exact (rfl : _ = Value.int _ _) | exact (rfl : _ = Value.bool _) | exact (rfl : _ = Value.slice _ _ _) | exact (rfl : _ = Value.pointer _) | exact (rfl : _ = Value.map _) | exact (rfl : _ = Value.func _ _ _) | exact (rfl : _ = Value.string _)) (by rfl) (by (repeat (first | exact Upd.head | apply Upd.tail))) (by (try simp only [List.take_succ_cons, List.take_zero, List.take_nil, List.drop_succ_cons, List.drop_zero, List.drop_nil, List.cons_append, List.nil_append, List.append_nil, List.length_cons, List.length_nil, Nat.reduceAdd, Nat.zero_add, Nat.add_zero]); rfl) (by simp) (by simp [Value.oneCell']) (by kernel_rfl) ?_; clear M; (try clear wc); intro wc M) | (refine m_al M rfl rfl ?_; clear M; (try clear wc); intro g wc M) | (refine m_bx M rfl rfl (by first | exact (rfl : _ = Value.agg _) | exact (rfl : _ = Value.int _ _) | exact (rfl : _ = Value.bool _) | exact (rfl : _ = Value.slice _ _ _) | exact (rfl : _ = Value.pointer _) | exact (rfl : _ = Value.map _) | exact (rfl : _ = Value.func _ _ _) | exact (rfl : _ = Value.string _)) (by rfl) ?_; clear M; (try clear wc); intro g wc M) | (go_at_call 28; refine (upto_any s bp (hi - lo) _ (by omega) (by omega) (M.get (by (repeat' (first | exact List.mem_cons_self | refine List.mem_cons_of_mem _ ?_)))) HS.out).mono ?_; rintro e wc ⟨v, s, hv, hs, rfl, hgr, hb⟩; have HS := Lib.hid hs; clear hs; replace M := M.callC (cs' := [.int .u64 s]) (by (repeat (first | exact Upd.head | apply Upd.tail))) hgr hb; clear hgr hb; skip))
  go_ret
  exact ⟨_, _, ⟨by omega, by omega⟩, HS.out, rfl, M.grown, M.get (by (repeat' (first | exact List.mem_cons_self | refine List.mem_cons_of_mem _ ?_)))⟩

theorem three {v : Int} (h : 0 ≤ v ∧ v ≤ 2) : v = 0 ∨ v = 1 ∨ v = 2 := by omega

set_option maxRecDepth 100000 in
set_option maxHeartbeats 1000000 in
theorem of_pot (s : Int) (bp g : Nat) (a b c : Int) (w : World) (hg : g ≠ bp) (hl : Bk w g #[.int .i64 a, .int .i64 b, .int .i64 c]) (hp : Bk w bp #[.int .u64 s]) (hs : u64ok s) :
    Calls Try.prog 60 #[.pointer (some ⟨bp, 0, none⟩), .slice (some ⟨g, 0, none⟩) 3 3] w (PotPost bp (fun n => n = a ∨ n = b ∨ n = c) .i64 w) := by
  have M := Mem.initEx (p := .cells [.int .u64 s]) hp
  have HS := Lib.hid hs
  have HL := Lib.hid hl
  clear hp hs hl
  go_enter Try.func60, Try.ntmps60
  refine m_start M ?_
  clear M
  intro wc M
  go_wp2_with (first | (refine m_ld1 M rfl rfl rfl (by (repeat' (first | exact List.mem_cons_self | refine List.mem_cons_of_mem _ ?_))) (by rfl) ?_) | (refine m_ldr M rfl rfl rfl (by (repeat' (first | exact List.mem_cons_self | refine List.mem_cons_of_mem _ ?_))) (by (try simp only [List.take_succ_cons, List.take_zero, List.take_nil, List.drop_succ_cons, List.drop_zero, List.drop_nil, List.cons_append, List.nil_append, List.append_nil, List.length_cons, List.length_nil, Nat.reduceAdd, Nat.zero_add, Nat.add_zero]); rfl) (by rfl) ?_) | (refine m_st M rfl rfl rfl (by first | exact (rfl : _ = Value.agg _) | exact (rfl : _ = Value.int _ _) | exact (rfl : _ = Value.bool _) | exact (rfl : _ = Value.slice _ _ _) | exact (rfl : _ = Value.pointer _) | exact (rfl : _ = Value.map _) | exact (rfl : _ = Value.func _ _ _) | exact (rfl : _ = Value.string _)) (by rfl) (by (repeat (first | exact Upd.head | apply Upd.tail))) (by (try simp only [List.take_succ_cons, List.take_zero, List.take_nil, List.drop_succ_cons, List.drop_zero, List.drop_nil, List.cons_append, List.nil_append, List.append_nil, List.length_cons, List.length_nil, Nat.reduceAdd, Nat.zero_add, Nat.add_zero]); rfl) (by simp) (by simp [Value.oneCell']) (by kernel_rfl) ?_; clear M; (try clear wc); intro wc M) | (refine m_al M rfl rfl ?_; clear M; (try clear wc); intro g wc M) | (refine m_bx M rfl rfl (by first | exact (rfl : _ = Value.agg _) | exact (rfl : _ = Value.int _ _) | exact (rfl : _ = Value.bool _) | exact (rfl : _ = Value.slice _ _ _) | exact (rfl : _ = Value.pointer _) | exact (rfl : _ = Value.map _) | exact (rfl : _ = Value.func _ _ _) | exact (rfl : _ = Value.string _)) (by rfl) ?_; clear M; (try clear wc); intro g wc M) | (refine lo_one (M.old HL.out hg) rfl rfl rfl (by rfl) ?_) | (go_at_call 28; refine (upto_any s bp 2 _ (by omega) (by omega) (M.get (by (repeat' (first | exact List.mem_cons_self | refine List.mem_cons_of_mem _ ?_)))) HS.out).mono ?_; rintro e wc ⟨v, s, hv, hs, rfl, hgr, hb⟩; have HS := Lib.hid hs; clear hs; replace M := M.callC (cs' := [.int .u64 s]) (by (repeat (first | exact Upd.head | apply Upd.tail))) hgr hb; clear hgr hb; rcases three hv with rfl | rfl | rfl))
  all_goals
    go_ret
    exact ⟨_, _, by simp, HS.out, rfl, M.grown, M.get (by (repeat' (first | exact List.mem_cons_self | refine List.mem_cons_of_mem _ ?_)))⟩

def NearPost (bp : Nat) (n lo hi wd : Int) (w : World) (e : Ending) (w' : World) : Prop := ∃ x y s' : Int, (lo ≤ x ∧ n - wd ≤ x ∧ x ≤ n ∧ n ≤ y ∧ y ≤ n + wd ∧ y ≤ hi) ∧ u64ok s' ∧ e = .returned (R2 x y) ∧ w.grownBy w' (some bp) ∧ Bk w' bp #[.int .u64 s']

set_option maxRecDepth 100000 in
set_option maxHeartbeats 1000000 in
theorem near_pot (s : Int) (bp : Nat) (n lo hi wd : Int) (w : World) (hl : -1000 ≤ lo) (hh : hi ≤ 1000) (h1 : lo ≤ n) (h2 : n ≤ hi) (hw0 : 0 ≤ wd) (hw1 : wd ≤ 1000) (hp : Bk w bp #[.int .u64 s]) (hs : u64ok s) :
    Calls Try.prog 66 #[.pointer (some ⟨bp, 0, none⟩), .int .i64 n, .int .i64 lo, .int .i64 hi, .int .i64 wd] w (NearPost bp n lo hi wd w) := by
  have M := Mem.initEx (p := .cells [.int .u64 s]) hp
  have HS := Lib.hid hs
  clear hp hs
  go_enter Try.func66, Try.ntmps66
  refine m_start M ?_
  clear M
  intro wc M
  go_wp2_with (first | (refine m_ld1 M rfl rfl rfl (by (repeat' (first | exact List.mem_cons_self | refine List.mem_cons_of_mem _ ?_))) (by rfl) ?_) | (refine m_ldr M rfl rfl rfl (by (repeat' (first | exact List.mem_cons_self | refine List.mem_cons_of_mem _ ?_))) (by (try simp only [List.take_succ_cons, List.take_zero, List.take_nil, List.drop_succ_cons, List.drop_zero, List.drop_nil, List.cons_append, List.nil_append, List.append_nil, List.length_cons, List.length_nil, Nat.reduceAdd, Nat.zero_add, Nat.add_zero]); rfl) (by rfl) ?_) | (refine m_st M rfl rfl rfl (by first | exact (rfl : _ = Value.agg _) | exact (rfl : _ = Value.int _ _) | exact (rfl : _ = Value.bool _) | exact (rfl : _ = Value.slice _ _ _) | exact (rfl : _ = Value.pointer _) | exact (rfl : _ = Value.map _) | exact (rfl : _ = Value.func _ _ _) | exact (rfl : _ = Value.string _)) (by rfl) (by (repeat (first | exact Upd.head | apply Upd.tail))) (by (try simp only [List.take_succ_cons, List.take_zero, List.take_nil, List.drop_succ_cons, List.drop_zero, List.drop_nil, List.cons_append, List.nil_append, List.append_nil, List.length_cons, List.length_nil, Nat.reduceAdd, Nat.zero_add, Nat.add_zero]); rfl) (by simp) (by simp [Value.oneCell']) (by kernel_rfl) ?_; clear M; (try clear wc); intro wc M) | (refine m_al M rfl rfl ?_; clear M; (try clear wc); intro g wc M) | (refine m_bx M rfl rfl (by first | exact (rfl : _ = Value.agg _) | exact (rfl : _ = Value.int _ _) | exact (rfl : _ = Value.bool _) | exact (rfl : _ = Value.slice _ _ _) | exact (rfl : _ = Value.pointer _) | exact (rfl : _ = Value.map _) | exact (rfl : _ = Value.func _ _ _) | exact (rfl : _ = Value.string _)) (by rfl) ?_; clear M; (try clear wc); intro g wc M) | (refine absorb M ?_; intro M'; clear M; (obtain ⟨M, -⟩ : _ ∧ True := ⟨M', trivial⟩); clear M'; revert M; generalize World.alloc _ _ = wn; generalize wc.heap.size = g; (try clear wc); intro M; (obtain ⟨wc, rfl⟩ : ∃ x : World, x = wn := ⟨_, rfl⟩)) | (go_at_call 28; refine (upto_any _ bp _ _ (by omega) (by omega) (M.get (by (repeat' (first | exact List.mem_cons_self | refine List.mem_cons_of_mem _ ?_)))) HS.out).mono ?_; rintro e wc ⟨v, s, hv, hs, rfl, hgr, hb⟩; have HS := Lib.hid hs; clear hs; replace M := M.callC (cs' := [.int .u64 s]) (by (repeat (first | exact Upd.head | apply Upd.tail))) hgr hb; clear hgr hb; skip) | (go_at_call 38; refine (within_pot _ bp _ _ _ (by omega) (by omega) (by omega) (M.get (by (repeat' (first | exact List.mem_cons_self | refine List.mem_cons_of_mem _ ?_)))) HS.out).mono ?_; rintro e wc ⟨v, s, hv, hs, rfl, hgr, hb⟩; have HS := Lib.hid hs; clear hs; replace M := M.callC (cs' := [.int .u64 s]) (by (repeat (first | exact Upd.head | apply Upd.tail))) hgr hb; clear hgr hb; skip) | (go_at_call 60; refine (of_pot _ bp _ _ _ _ _ (by have hnd := M.nd; simp only [List.map_cons, List.map_nil, List.nodup_cons, List.mem_cons, not_or] at hnd; omega) (M.get (by (repeat' (first | exact List.mem_cons_self | refine List.mem_cons_of_mem _ ?_)))) (M.get (by (repeat' (first | exact List.mem_cons_self | refine List.mem_cons_of_mem _ ?_)))) HS.out).mono ?_; rintro e wc ⟨v, s, hv, hs, rfl, hgr, hb⟩; have HS := Lib.hid hs; clear hs; replace M := M.callC (cs' := [.int .u64 s]) (by (repeat (first | exact Upd.head | apply Upd.tail))) hgr hb; clear hgr hb; skip))
  all_goals
    refine ret_M (t := 10) (ty := 23) M (by rfl) (by rfl) (by rfl) (by (repeat' (first | exact List.mem_cons_self | refine List.mem_cons_of_mem _ ?_))) (by rfl) ?_
    refine ⟨_, _, s, ⟨?_, ?_, ?_, ?_, ?_, ?_⟩, HS.out, rfl, M.grown, M.get (by (repeat' (first | exact List.mem_cons_self | refine List.mem_cons_of_mem _ ?_)))⟩ <;> (split <;> omega)

set_option maxRecDepth 100000 in
set_option maxHeartbeats 1000000 in
theorem newPot_any (A : Option Addr) (n c : Nat) (l : List Int) (w : World) (hr : Rd w w.heap.size 1 A n (ic l)) (hn : n ≤ 9223372036854775807) :
    Calls Try.prog 16 #[.slice A n c] w fun e w' => ∃ (bp : Nat) (s : Int), u64ok s ∧ e = .returned (.pointer (some ⟨bp, 0, none⟩)) ∧ Mem w noEx w' [(bp, .cells [.int .u64 s])] := by
  have HR := Lib.hid hr
  clear hr
  go_enter Try.func16, Try.ntmps16
  refine start noEx ?_
  intro wc M
  go_wp2_with (first | (refine m_ld1 M rfl rfl rfl (by (repeat' (first | exact List.mem_cons_self | refine List.mem_cons_of_mem _ ?_))) (by rfl) ?_) | (refine m_ldr M rfl rfl rfl (by (repeat' (first | exact List.mem_cons_self | refine List.mem_cons_of_mem _ ?_))) (by (try simp only [List.take_succ_cons, List.take_zero, List.take_nil, List.drop_succ_cons, List.drop_zero, List.drop_nil, List.cons_append, List.nil_append, List.append_nil, List.length_cons, List.length_nil, Nat.reduceAdd, Nat.zero_add, Nat.add_zero]); rfl) (by rfl) ?_) | (refine m_st M rfl rfl rfl (by first | exact (rfl : _ = Value.agg _) | exact (rfl : _ = Value.int _ _) | exact (rfl : _ = Value.bool _) | exact (rfl : _ = Value.slice _ _ _) | exact (rfl : _ = Value.pointer _) | exact (rfl : _ = Value.map _) | exact (rfl : _ = Value.func _ _ _) | exact (rfl : _ = Value.string _)) (by rfl) (by (repeat (first | exact Upd.head | apply Upd.tail))) (by (try simp only [List.take_succ_cons, List.take_zero, List.take_nil, List.drop_succ_cons, List.drop_zero, List.drop_nil, List.cons_append, List.nil_append, List.append_nil, List.length_cons, List.length_nil, Nat.reduceAdd, Nat.zero_add, Nat.add_zero]); rfl) (by simp) (by simp [Value.oneCell']) (by kernel_rfl) ?_; clear M; (try clear wc); intro wc M) | (refine m_al M rfl rfl ?_; clear M; (try clear wc); intro g wc M) | (refine m_bx M rfl rfl (by first | exact (rfl : _ = Value.agg _) | exact (rfl : _ = Value.int _ _) | exact (rfl : _ = Value.bool _) | exact (rfl : _ = Value.slice _ _ _) | exact (rfl : _ = Value.pointer _) | exact (rfl : _ = Value.map _) | exact (rfl : _ = Value.func _ _ _) | exact (rfl : _ = Value.string _)) (by rfl) ?_; clear M; (try clear wc); intro g wc M))
  rename_i K0 hK0
  go_loopw [4] (fun v wr => ∃ (k : Nat) (s : Int), k ≤ n ∧ v = .int .i64 k ∧ Hid (u64ok s) ∧ Mem w noEx wr [(g, .cells [.int .u64 s])]) (fun v _ => n - (intOf v).toNat)
  case atStart => exact ⟨0, _, by omega, rfl, by (show u64ok _; unfold u64ok; decide), M⟩
  case round =>
    clear M wc
    obtain ⟨k, s, hk, rfl, hs, M⟩ := hrel
    obtain ⟨wc, rfl⟩ : ∃ x : World, x = wr := ⟨_, rfl⟩
    by_cases hlt : k < n
    · obtain ⟨b, o, x, rfl, hbb, hd, d0⟩ := HR.out.at1 hlt
      clear hd
      have D0 := Lib.hid d0
      clear d0
      have i0 : (0 : Int) ≤ (k : Int) := by omega
      have i1 : (k : Int) < (n : Int) := by omega
      go_wp2
      refine wp_region_G (fun L W => (L.getD 14 true = false → Mem w noEx W [(g, .cells [.int .u64 s])]) ∧ (L.getD 14 true = true → ∃ s1, u64ok s1 ∧ Mem w noEx W [(g, .cells [.int .u64 s1])])) 15 (by kernel_rfl) (by kernel_rfl) ?s0 ?r0
      case s0 => (exact ⟨fun _ => M.drew, fun h => (no_of h (by kernel_rfl)).elim⟩)
      intro W0
      refine wpG_take (i := 0) (v := ?v1) rfl (by kernel_rfl) (by intro L w; simp only [getD_set_ne true (show (0 : Nat) ≠ 14 from by decide)]) (fun _ _ _ h => h) (Or.inl ⟨by rfl, ?y1⟩) ?r1
      case y1 => (intro w' hy; obtain ⟨L, hD, hl, hS⟩ := hy; clear hD hl hS; go_simp; (try with_reducible rfl))
      (try simp only [Act.put, List.getElem_toArray, List.getElem_cons_succ, List.getElem_cons_zero, List.setIfInBounds_toArray, List.set_cons_zero, List.set_cons_succ])
      refine wpG_take (i := 1) (v := ?v2) rfl (by kernel_rfl) (by intro L w; simp only [getD_set_ne true (show (1 : Nat) ≠ 14 from by decide)]) (fun _ _ _ h => h) (Or.inl ⟨by rfl, ?y2⟩) ?r2
      case y2 => (intro w' hy; obtain ⟨L, hD, hl, hS⟩ := hy; clear hD hl hS; go_simp; (try with_reducible rfl))
      (try simp only [Act.put, List.getElem_toArray, List.getElem_cons_succ, List.getElem_cons_zero, List.setIfInBounds_toArray, List.set_cons_zero, List.set_cons_succ])
      refine wpG_take (i := 2) (v := ?v3) rfl (by kernel_rfl) (by intro L w; simp only [getD_set_ne true (show (2 : Nat) ≠ 14 from by decide)]) (fun _ _ _ h => h) (Or.inl ⟨by rfl, ?y3⟩) ?r3
      case y3 => (intro w' hy; obtain ⟨L, hD, hl, hS⟩ := hy; clear hD hl hS; go_simp; (try with_reducible rfl))
      (try simp only [Act.put, List.getElem_toArray, List.getElem_cons_succ, List.getElem_cons_zero, List.setIfInBounds_toArray, List.set_cons_zero, List.set_cons_succ])
      refine wpG_take (i := 3) (v := ?v4) rfl (by kernel_rfl) (by intro L w; simp only [getD_set_ne true (show (3 : Nat) ≠ 14 from by decide)]) (fun _ _ _ h => h) (Or.inl ⟨by rfl, ?y4⟩) ?r4
      case y4 => (intro w' hy; obtain ⟨L, hD, hl, hS⟩ := hy; clear hD hl hS; go_simp; (try with_reducible rfl))
      (try simp only [Act.put, List.getElem_toArray, List.getElem_cons_succ, List.getElem_cons_zero, List.setIfInBounds_toArray, List.set_cons_zero, List.set_cons_succ])
      refine wpG_take (i := 4) (v := ?v5) rfl (by kernel_rfl) (by intro L w; simp only [getD_set_ne true (show (4 : Nat) ≠ 14 from by decide)]) (fun _ _ _ h => h) (Or.inl ⟨by rfl, ?y5⟩) ?r5
      case y5 => (intro w' hy; obtain ⟨L, hD, hl, hS⟩ := hy; have M0 := hS.1 (hD.wait (by kernel_rfl) hl); clear hS; first | (refine Eq.trans (rn_one (Mem.get M0 (by (repeat' (first | exact List.mem_cons_self | refine List.mem_cons_of_mem _ ?_)))) rfl rfl (by rfl)) ?_; with_reducible rfl) | (refine Eq.trans (rn_row (Mem.get M0 (by (repeat' (first | exact List.mem_cons_self | refine List.mem_cons_of_mem _ ?_)))) rfl rfl (by (try simp only [List.take_succ_cons, List.take_zero, List.take_nil, List.drop_succ_cons, List.drop_zero, List.drop_nil, List.cons_append, List.nil_append, List.append_nil, List.length_cons, List.length_nil, Nat.reduceAdd, Nat.zero_add, Nat.add_zero]); rfl) (by rfl)) ?_; with_reducible rfl); (try with_reducible rfl))
      (try simp only [Act.put, List.getElem_toArray, List.getElem_cons_succ, List.getElem_cons_zero, List.setIfInBounds_toArray, List.set_cons_zero, List.set_cons_succ])
      refine wpG_take (i := 5) (v := ?v6) rfl (by kernel_rfl) (by intro L w; simp only [getD_set_ne true (show (5 : Nat) ≠ 14 from by decide)]) (fun _ _ _ h => h) (Or.inl ⟨by rfl, ?y6⟩) ?r6
      case y6 => (intro w' hy; obtain ⟨L, hD, hl, hS⟩ := hy; clear hD hl hS; go_simp; (try with_reducible rfl))
      (try simp only [Act.put, List.getElem_toArray, List.getElem_cons_succ, List.getElem_cons_zero, List.setIfInBounds_toArray, List.set_cons_zero, List.set_cons_succ])
      refine wpG_take (i := 6) (v := ?v7) rfl (by kernel_rfl) (by intro L w; simp only [getD_set_ne true (show (6 : Nat) ≠ 14 from by decide)]) (fun _ _ _ h => h) (Or.inl ⟨by rfl, ?y7⟩) ?r7
      case y7 => (intro w' hy; obtain ⟨L, hD, hl, hS⟩ := hy; clear hD hl hS; go_simp; (try with_reducible rfl))
      (try simp only [Act.put, List.getElem_toArray, List.getElem_cons_succ, List.getElem_cons_zero, List.setIfInBounds_toArray, List.set_cons_zero, List.set_cons_succ])
      refine wpG_take (i := 7) (v := ?v8) rfl (by kernel_rfl) (by intro L w; simp only [getD_set_ne true (show (7 : Nat) ≠ 14 from by decide)]) (fun _ _ _ h => h) (Or.inl ⟨by rfl, ?y8⟩) ?r8
      case y8 => (intro w' hy; obtain ⟨L, hD, hl, hS⟩ := hy; clear hD hl hS; go_simp; (try with_reducible rfl))
      (try simp only [Act.put, List.getElem_toArray, List.getElem_cons_succ, List.getElem_cons_zero, List.setIfInBounds_toArray, List.set_cons_zero, List.set_cons_succ])
      refine wpG_take (i := 8) (v := ?v9) rfl (by kernel_rfl) (by intro L w; simp only [getD_set_ne true (show (8 : Nat) ≠ 14 from by decide)]) (fun _ _ _ h => h) (Or.inl ⟨by rfl, ?y9⟩) ?r9
      case y9 => (intro w' hy; obtain ⟨L, hD, hl, hS⟩ := hy; have M0 := hS.1 (hD.wait (by kernel_rfl) hl); clear hS hD hl; have cc : w'.cell? ⟨b, o + k, none⟩ = some (.int .i64 x) := (World.cell?_of_block (w := w) (a := ⟨b, o + k, none⟩) (M0.block b hbb (fun h => h))).trans D0.out; clear M0; go_simp; (try with_reducible rfl))
      (try simp only [Act.put, List.getElem_toArray, List.getElem_cons_succ, List.getElem_cons_zero, List.setIfInBounds_toArray, List.set_cons_zero, List.set_cons_succ])
      refine wpG_take (i := 9) (v := ?v10) rfl (by kernel_rfl) (by intro L w; simp only [getD_set_ne true (show (9 : Nat) ≠ 14 from by decide)]) (fun _ _ _ h => h) (Or.inl ⟨by rfl, ?y10⟩) ?r10
      case y10 => (intro w' hy; obtain ⟨L, hD, hl, hS⟩ := hy; clear hD hl hS; go_simp; (try with_reducible rfl))
      (try simp only [Act.put, List.getElem_toArray, List.getElem_cons_succ, List.getElem_cons_zero, List.setIfInBounds_toArray, List.set_cons_zero, List.set_cons_succ])
      refine wpG_take (i := 10) (v := ?v11) rfl (by kernel_rfl) (by intro L w; simp only [getD_set_ne true (show (10 : Nat) ≠ 14 from by decide)]) (fun _ _ _ h => h) (Or.inl ⟨by rfl, ?y11⟩) ?r11
      case y11 => (intro w' hy; obtain ⟨L, hD, hl, hS⟩ := hy; clear hD hl hS; go_simp; (try with_reducible rfl))
      (try simp only [Act.put, List.getElem_toArray, List.getElem_cons_succ, List.getElem_cons_zero, List.setIfInBounds_toArray, List.set_cons_zero, List.set_cons_succ])
      refine wpG_take (i := 11) (v := ?v12) rfl (by kernel_rfl) (by intro L w; simp only [getD_set_ne true (show (11 : Nat) ≠ 14 from by decide)]) (fun _ _ _ h => h) (Or.inl ⟨by rfl, ?y12⟩) ?r12
      case y12 => (intro w' hy; obtain ⟨L, hD, hl, hS⟩ := hy; clear hD hl hS; go_simp; (try with_reducible rfl))
      (try simp only [Act.put, List.getElem_toArray, List.getElem_cons_succ, List.getElem_cons_zero, List.setIfInBounds_toArray, List.set_cons_zero, List.set_cons_succ])
      refine wpG_take (i := 12) (v := ?v13) rfl (by kernel_rfl) (by intro L w; simp only [getD_set_ne true (show (12 : Nat) ≠ 14 from by decide)]) (fun _ _ _ h => h) (Or.inl ⟨by rfl, ?y13⟩) ?r13
      case y13 => (intro w' hy; obtain ⟨L, hD, hl, hS⟩ := hy; clear hD hl hS; go_simp; (try with_reducible rfl))
      (try simp only [Act.put, List.getElem_toArray, List.getElem_cons_succ, List.getElem_cons_zero, List.setIfInBounds_toArray, List.set_cons_zero, List.set_cons_succ])
      refine wpG_take (i := 13) (v := ?v14) rfl (by kernel_rfl) (by intro L w; simp only [getD_set_ne true (show (13 : Nat) ≠ 14 from by decide)]) (fun _ _ _ h => h) (Or.inl ⟨by rfl, ?y14⟩) ?r14
      case y14 => (intro w' hy; obtain ⟨L, hD, hl, hS⟩ := hy; clear hD hl hS; go_simp; (try with_reducible rfl))
      (try simp only [Act.put, List.getElem_toArray, List.getElem_cons_succ, List.getElem_cons_zero, List.setIfInBounds_toArray, List.set_cons_zero, List.set_cons_succ])
      refine wpG_step (i := 14) (by kernel_rfl) rfl (by rfl) ?r15
      intro hS K hK
      (have M0 := hS.1 (by kernel_rfl); clear hS; refine m_stw M0 rfl rfl (by first | exact (rfl : _ = Value.agg _) | exact (rfl : _ = Value.int _ _) | exact (rfl : _ = Value.bool _) | exact (rfl : _ = Value.slice _ _ _) | exact (rfl : _ = Value.pointer _) | exact (rfl : _ = Value.map _) | exact (rfl : _ = Value.func _ _ _) | exact (rfl : _ = Value.string _)) (by rfl) (by (repeat (first | exact Upd.head | apply Upd.tail))) (by (try simp only [List.take_succ_cons, List.take_zero, List.take_nil, List.drop_succ_cons, List.drop_zero, List.drop_nil, List.cons_append, List.nil_append, List.append_nil, List.length_cons, List.length_nil, Nat.reduceAdd, Nat.zero_add, Nat.add_zero]); rfl) (by simp) (by simp [Value.oneCell']) (by kernel_rfl) ?_; intro V2 M2; refine hK.out _ _ ⟨fun h => (no_of (by kernel_rfl) h).elim, fun _ => ⟨_, u64_wrap _, M2⟩⟩ ?_; clear M0 M2)
      clear hK K; intro W15
      (try simp only [Act.put, List.getElem_toArray, List.getElem_cons_succ, List.getElem_cons_zero, List.setIfInBounds_toArray, List.set_cons_zero, List.set_cons_succ])
      refine wpG_end (by kernel_rfl) ?_
      intro W
       hS
      obtain ⟨s2, hs2, M⟩ := hS.2 (by kernel_rfl)
      have HS2 := Lib.hid hs2
      clear hS hs2
      obtain ⟨wc, rfl⟩ : ∃ x : World, x = W := ⟨_, rfl⟩
      go_wp2
      refine wp_region_G (fun L W => (L.getD 13 true = false → Mem w noEx W [(g, .cells [.int .u64 s2])]) ∧ (L.getD 13 true = true → ∃ s1, u64ok s1 ∧ Mem w noEx W [(g, .cells [.int .u64 s1])])) 14 (by kernel_rfl) (by kernel_rfl) ?s0b ?r0b
      case s0b => (exact ⟨fun _ => M.drew, fun h => (no_of h (by kernel_rfl)).elim⟩)
      intro W0
      refine wpG_take (i := 0) (v := ?v1b) rfl (by kernel_rfl) (by intro L w; simp only [getD_set_ne true (show (0 : Nat) ≠ 13 from by decide)]) (fun _ _ _ h => h) (Or.inl ⟨by rfl, ?y1b⟩) ?r1b
      case y1b => (intro w' hy; obtain ⟨L, hD, hl, hS⟩ := hy; clear hD hl hS; go_simp; (try with_reducible rfl))
      (try simp only [Act.put, List.getElem_toArray, List.getElem_cons_succ, List.getElem_cons_zero, List.setIfInBounds_toArray, List.set_cons_zero, List.set_cons_succ])
      refine wpG_take (i := 1) (v := ?v2b) rfl (by kernel_rfl) (by intro L w; simp only [getD_set_ne true (show (1 : Nat) ≠ 13 from by decide)]) (fun _ _ _ h => h) (Or.inl ⟨by rfl, ?y2b⟩) ?r2b
      case y2b => (intro w' hy; obtain ⟨L, hD, hl, hS⟩ := hy; clear hD hl hS; go_simp; (try with_reducible rfl))
      (try simp only [Act.put, List.getElem_toArray, List.getElem_cons_succ, List.getElem_cons_zero, List.setIfInBounds_toArray, List.set_cons_zero, List.set_cons_succ])
      refine wpG_take (i := 2) (v := ?v3b) rfl (by kernel_rfl) (by intro L w; simp only [getD_set_ne true (show (2 : Nat) ≠ 13 from by decide)]) (fun _ _ _ h => h) (Or.inl ⟨by rfl, ?y3b⟩) ?r3b
      case y3b => (intro w' hy; obtain ⟨L, hD, hl, hS⟩ := hy; clear hD hl hS; go_simp; (try with_reducible rfl))
      (try simp only [Act.put, List.getElem_toArray, List.getElem_cons_succ, List.getElem_cons_zero, List.setIfInBounds_toArray, List.set_cons_zero, List.set_cons_succ])
      refine wpG_take (i := 3) (v := ?v4b) rfl (by kernel_rfl) (by intro L w; simp only [getD_set_ne true (show (3 : Nat) ≠ 13 from by decide)]) (fun _ _ _ h => h) (Or.inl ⟨by rfl, ?y4b⟩) ?r4b
      case y4b => (intro w' hy; obtain ⟨L, hD, hl, hS⟩ := hy; clear hD hl hS; go_simp; (try with_reducible rfl))
      (try simp only [Act.put, List.getElem_toArray, List.getElem_cons_succ, List.getElem_cons_zero, List.setIfInBounds_toArray, List.set_cons_zero, List.set_cons_succ])
      refine wpG_take (i := 4) (v := ?v5b) rfl (by kernel_rfl) (by intro L w; simp only [getD_set_ne true (show (4 : Nat) ≠ 13 from by decide)]) (fun _ _ _ h => h) (Or.inl ⟨by rfl, ?y5b⟩) ?r5b
      case y5b => (intro w' hy; obtain ⟨L, hD, hl, hS⟩ := hy; have M0 := hS.1 (hD.wait (by kernel_rfl) hl); clear hS; first | (refine Eq.trans (rn_one (Mem.get M0 (by (repeat' (first | exact List.mem_cons_self | refine List.mem_cons_of_mem _ ?_)))) rfl rfl (by rfl)) ?_; with_reducible rfl) | (refine Eq.trans (rn_row (Mem.get M0 (by (repeat' (first | exact List.mem_cons_self | refine List.mem_cons_of_mem _ ?_)))) rfl rfl (by (try simp only [List.take_succ_cons, List.take_zero, List.take_nil, List.drop_succ_cons, List.drop_zero, List.drop_nil, List.cons_append, List.nil_append, List.append_nil, List.length_cons, List.length_nil, Nat.reduceAdd, Nat.zero_add, Nat.add_zero]); rfl) (by rfl)) ?_; with_reducible rfl); (try with_reducible rfl))
      (try simp only [Act.put, List.getElem_toArray, List.getElem_cons_succ, List.getElem_cons_zero, List.setIfInBounds_toArray, List.set_cons_zero, List.set_cons_succ])
      refine wpG_take (i := 5) (v := ?v6b) rfl (by kernel_rfl) (by intro L w; simp only [getD_set_ne true (show (5 : Nat) ≠ 13 from by decide)]) (fun _ _ _ h => h) (Or.inl ⟨by rfl, ?y6b⟩) ?r6b
      case y6b => (intro w' hy; obtain ⟨L, hD, hl, hS⟩ := hy; clear hD hl hS; go_simp; (try with_reducible rfl))
      (try simp only [Act.put, List.getElem_toArray, List.getElem_cons_succ, List.getElem_cons_zero, List.setIfInBounds_toArray, List.set_cons_zero, List.set_cons_succ])
      refine wpG_take (i := 6) (v := ?v7b) rfl (by kernel_rfl) (by intro L w; simp only [getD_set_ne true (show (6 : Nat) ≠ 13 from by decide)]) (fun _ _ _ h => h) (Or.inl ⟨by rfl, ?y7b⟩) ?r7b
      case y7b => (intro w' hy; obtain ⟨L, hD, hl, hS⟩ := hy; clear hD hl hS; go_simp; (try with_reducible rfl))
      (try simp only [Act.put, List.getElem_toArray, List.getElem_cons_succ, List.getElem_cons_zero, List.setIfInBounds_toArray, List.set_cons_zero, List.set_cons_succ])
      refine wpG_take (i := 7) (v := ?v8b) rfl (by kernel_rfl) (by intro L w; simp only [getD_set_ne true (show (7 : Nat) ≠ 13 from by decide)]) (fun _ _ _ h => h) (Or.inl ⟨by rfl, ?y8b⟩) ?r8b
      case y8b => (intro w' hy; obtain ⟨L, hD, hl, hS⟩ := hy; clear hD hl hS; go_simp; (try with_reducible rfl))
      (try simp only [Act.put, List.getElem_toArray, List.getElem_cons_succ, List.getElem_cons_zero, List.setIfInBounds_toArray, List.set_cons_zero, List.set_cons_succ])
      refine wpG_take (i := 8) (v := ?v9b) rfl (by kernel_rfl) (by intro L w; simp only [getD_set_ne true (show (8 : Nat) ≠ 13 from by decide)]) (fun _ _ _ h => h) (Or.inl ⟨by rfl, ?y9b⟩) ?r9b
      case y9b => (intro w' hy; obtain ⟨L, hD, hl, hS⟩ := hy; have M0 := hS.1 (hD.wait (by kernel_rfl) hl); clear hS; first | (refine Eq.trans (rn_one (Mem.get M0 (by (repeat' (first | exact List.mem_cons_self | refine List.mem_cons_of_mem _ ?_)))) rfl rfl (by rfl)) ?_; with_reducible rfl) | (refine Eq.trans (rn_row (Mem.get M0 (by (repeat' (first | exact List.mem_cons_self | refine List.mem_cons_of_mem _ ?_)))) rfl rfl (by (try simp only [List.take_succ_cons, List.take_zero, List.take_nil, List.drop_succ_cons, List.drop_zero, List.drop_nil, List.cons_append, List.nil_append, List.append_nil, List.length_cons, List.length_nil, Nat.reduceAdd, Nat.zero_add, Nat.add_zero]); rfl) (by rfl)) ?_; with_reducible rfl); (try with_reducible rfl))
      (try simp only [Act.put, List.getElem_toArray, List.getElem_cons_succ, List.getElem_cons_zero, List.setIfInBounds_toArray, List.set_cons_zero, List.set_cons_succ])
      refine wpG_take (i := 9) (v := ?v10b) rfl (by kernel_rfl) (by intro L w; simp only [getD_set_ne true (show (9 : Nat) ≠ 13 from by decide)]) (fun _ _ _ h => h) (Or.inl ⟨by rfl, ?y10b⟩) ?r10b
      case y10b => (intro w' hy; obtain ⟨L, hD, hl, hS⟩ := hy; clear hD hl hS; go_simp; (try with_reducible rfl))
      (try simp only [Act.put, List.getElem_toArray, List.getElem_cons_succ, List.getElem_cons_zero, List.setIfInBounds_toArray, List.set_cons_zero, List.set_cons_succ])
      refine wpG_take (i := 10) (v := ?v11b) rfl (by kernel_rfl) (by intro L w; simp only [getD_set_ne true (show (10 : Nat) ≠ 13 from by decide)]) (fun _ _ _ h => h) (Or.inl ⟨by rfl, ?y11b⟩) ?r11b
      case y11b => (intro w' hy; obtain ⟨L, hD, hl, hS⟩ := hy; clear hD hl hS; go_simp; (try with_reducible rfl))
      (try simp only [Act.put, List.getElem_toArray, List.getElem_cons_succ, List.getElem_cons_zero, List.setIfInBounds_toArray, List.set_cons_zero, List.set_cons_succ])
      refine wpG_take (i := 11) (v := ?v12b) rfl (by kernel_rfl) (by intro L w; simp only [getD_set_ne true (show (11 : Nat) ≠ 13 from by decide)]) (fun _ _ _ h => h) (Or.inl ⟨by rfl, ?y12b⟩) ?r12b
      case y12b => (intro w' hy; obtain ⟨L, hD, hl, hS⟩ := hy; clear hD hl hS; go_simp; (try with_reducible rfl))
      (try simp only [Act.put, List.getElem_toArray, List.getElem_cons_succ, List.getElem_cons_zero, List.setIfInBounds_toArray, List.set_cons_zero, List.set_cons_succ])
      refine wpG_take (i := 12) (v := ?v13b) rfl (by kernel_rfl) (by intro L w; simp only [getD_set_ne true (show (12 : Nat) ≠ 13 from by decide)]) (fun _ _ _ h => h) (Or.inl ⟨by rfl, ?y13b⟩) ?r13b
      case y13b => (intro w' hy; obtain ⟨L, hD, hl, hS⟩ := hy; clear hD hl hS; go_simp; (try with_reducible rfl))
      (try simp only [Act.put, List.getElem_toArray, List.getElem_cons_succ, List.getElem_cons_zero, List.setIfInBounds_toArray, List.set_cons_zero, List.set_cons_succ])
      refine wpG_step (i := 13) (by kernel_rfl) rfl (by rfl) ?r14b
      intro hS K hK
      (have M0 := hS.1 (by kernel_rfl); clear hS; refine m_stw M0 rfl rfl (by first | exact (rfl : _ = Value.agg _) | exact (rfl : _ = Value.int _ _) | exact (rfl : _ = Value.bool _) | exact (rfl : _ = Value.slice _ _ _) | exact (rfl : _ = Value.pointer _) | exact (rfl : _ = Value.map _) | exact (rfl : _ = Value.func _ _ _) | exact (rfl : _ = Value.string _)) (by rfl) (by (repeat (first | exact Upd.head | apply Upd.tail))) (by (try simp only [List.take_succ_cons, List.take_zero, List.take_nil, List.drop_succ_cons, List.drop_zero, List.drop_nil, List.cons_append, List.nil_append, List.append_nil, List.length_cons, List.length_nil, Nat.reduceAdd, Nat.zero_add, Nat.add_zero]); rfl) (by simp) (by simp [Value.oneCell']) (by kernel_rfl) ?_; intro V2 M2; refine hK.out _ _ ⟨fun h => (no_of (by kernel_rfl) h).elim, fun _ => ⟨_, u64_bits _ _, M2⟩⟩ ?_; clear M0 M2)
      clear hK K; intro W14
      (try simp only [Act.put, List.getElem_toArray, List.getElem_cons_succ, List.getElem_cons_zero, List.setIfInBounds_toArray, List.set_cons_zero, List.set_cons_succ])
      refine wpG_end (by kernel_rfl) ?_
      intro W
       hS
      obtain ⟨s3, hs3, M⟩ := hS.2 (by kernel_rfl)
      have HS3 := Lib.hid hs3
      clear hS hs3
      go_wp2
      go_roundw
      case rel => exact ⟨k + 1, s3, by omega, by go_num, HS3, M⟩
      case measure => simp [intOf]; omega
    · go_wp2_with (first | (refine m_ld1 M rfl rfl rfl (by (repeat' (first | exact List.mem_cons_self | refine List.mem_cons_of_mem _ ?_))) (by rfl) ?_) | (refine m_ldr M rfl rfl rfl (by (repeat' (first | exact List.mem_cons_self | refine List.mem_cons_of_mem _ ?_))) (by (try simp only [List.take_succ_cons, List.take_zero, List.take_nil, List.drop_succ_cons, List.drop_zero, List.drop_nil, List.cons_append, List.nil_append, List.append_nil, List.length_cons, List.length_nil, Nat.reduceAdd, Nat.zero_add, Nat.add_zero]); rfl) (by rfl) ?_) | (refine m_st M rfl rfl rfl (by first | exact (rfl : _ = Value.agg _) | exact (rfl : _ = Value.int _ _) | exact (rfl : _ = Value.bool _) | exact (rfl : _ = Value.slice _ _ _) | exact (rfl : _ = Value.pointer _) | exact (rfl : _ = Value.map _) | exact (rfl : _ = Value.func _ _ _) | exact (rfl : _ = Value.string _)) (by rfl) (by (repeat (first | exact Upd.head | apply Upd.tail))) (by (try simp only [List.take_succ_cons, List.take_zero, List.take_nil, List.drop_succ_cons, List.drop_zero, List.drop_nil, List.cons_append, List.nil_append, List.append_nil, List.length_cons, List.length_nil, Nat.reduceAdd, Nat.zero_add, Nat.add_zero]); rfl) (by simp) (by simp [Value.oneCell']) (by kernel_rfl) ?_; clear M; (try clear wc); intro wc M) | (refine m_al M rfl rfl ?_; clear M; (try clear wc); intro g wc M) | (refine m_bx M rfl rfl (by first | exact (rfl : _ = Value.agg _) | exact (rfl : _ = Value.int _ _) | exact (rfl : _ = Value.bool _) | exact (rfl : _ = Value.slice _ _ _) | exact (rfl : _ = Value.pointer _) | exact (rfl : _ = Value.map _) | exact (rfl : _ = Value.func _ _ _) | exact (rfl : _ = Value.string _)) (by rfl) ?_; clear M; (try clear wc); intro g wc M))
      go_ret
      exact ⟨g, s, hs.out, rfl, M⟩

end Go.Proofs.Ythlpceoajhcliaa

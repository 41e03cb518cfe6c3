/-
  The chapter's examples: a job.
-/
import Derived.Test.YthlpceoajhcliaaKSame
import Derived.Test.YthlpceoajhcliaaTypes
namespace Go.Proofs.Ythlpceoajhcliaa
set_option linter.unusedSimpArgs false
set_option linter.unusedVariables false
open Go.RowKit

def exJ (p0 p1 : Int) : Jb := { p0 := p0, p1 := p1, t0 := 30, t1 := 32, r0 := 40, r1 := 41, u0 := 3, u1 := 4, d0 := 2, d1 := 3, a0 := 1, a1 := 2, b0 := 1, b1 := 1, le := 20, sh := [(-2, 1), (0, 3)], wi := 5, me := 1 }
def JobPost (j : Jb) (w : World) (e : Ending) (w' : World) : Prop := ∃ g, e = .returned (jobV j (some ⟨g, 0, none⟩) j.sh.length) ∧ Mem w noEx w' [(g, .cells (rc j.sh))]

set_option maxRecDepth 100000 in
set_option maxHeartbeats 2000000 in
theorem job_any (p0 p1 : Int) (w : World) : Calls Try.prog 65 #[R2 p0 p1] w (JobPost (exJ p0 p1) w) := by
  go_enter Try.func65, Try.ntmps65
  refine start noEx ?_
  intro wc M
  go_wp2_with (first | (refine m_ld1 M rfl rfl rfl (by (repeat' (first | exact List.mem_cons_self | refine List.mem_cons_of_mem _ ?_))) (by rfl) ?_) | (refine m_ldr M rfl rfl rfl (by (repeat' (first | exact List.mem_cons_self | refine List.mem_cons_of_mem _ ?_))) (by (try simp only [List.take_succ_cons, List.take_zero, List.take_nil, List.drop_succ_cons, List.drop_zero, List.drop_nil, List.cons_append, List.nil_append, List.append_nil, List.length_cons, List.length_nil, Nat.reduceAdd, Nat.zero_add, Nat.add_zero]); rfl) (by rfl) ?_) | (refine m_st M rfl rfl rfl (by first | exact (rfl : _ = Value.agg _) | exact (rfl : _ = Value.int _ _) | exact (rfl : _ = Value.bool _) | exact (rfl : _ = Value.slice _ _ _) | exact (rfl : _ = Value.pointer _) | exact (rfl : _ = Value.map _) | exact (rfl : _ = Value.func _ _ _) | exact (rfl : _ = Value.string _)) (by rfl) (by (repeat (first | exact Upd.head | apply Upd.tail))) (by (try simp only [List.take_succ_cons, List.take_zero, List.take_nil, List.drop_succ_cons, List.drop_zero, List.drop_nil, List.cons_append, List.nil_append, List.append_nil, List.length_cons, List.length_nil, Nat.reduceAdd, Nat.zero_add, Nat.add_zero]); rfl) (by simp) (by simp [Value.oneCell']) (by kernel_rfl) ?_; clear M; (try clear wc); intro wc M) | (refine m_al M rfl rfl ?_; clear M; (try clear wc); intro g wc M) | (refine m_bx M rfl rfl (by first | exact (rfl : _ = Value.agg _) | exact (rfl : _ = Value.int _ _) | exact (rfl : _ = Value.bool _) | exact (rfl : _ = Value.slice _ _ _) | exact (rfl : _ = Value.pointer _) | exact (rfl : _ = Value.map _) | exact (rfl : _ = Value.func _ _ _) | exact (rfl : _ = Value.string _)) (by rfl) ?_; clear M; (try clear wc); intro g wc M))
  rename_i g1 K0 hK0
  refine wp_region_G (fun L W => (L.getD 11 true = false → Mem w noEx W [(g, .cells [.int .i64 0, .int .i64 0, .int .i64 0, .int .i64 0, .int .i64 0, .int .i64 0, .int .i64 0, .int .i64 0, .int .i64 0, .int .i64 0, .int .i64 0, .int .i64 0, .int .i64 0, .int .i64 0, .int .i64 0, .slice none 0 0, .int .i64 0, .int .i64 0]), (g1, .cells [.int .i64 p0, .int .i64 p1])]) ∧ Bk W g1 #[.int .i64 p0, .int .i64 p1]) 14 (by kernel_rfl) (by kernel_rfl) ?s0 ?r0
  case s0 => (exact ⟨fun _ => M.drew, M.drew.get (by (repeat' (first | exact List.mem_cons_self | refine List.mem_cons_of_mem _ ?_)))⟩)
  intro W0
  refine wpG_take (i := 0) (v := ?v1) rfl (by kernel_rfl) (by intro L w; simp only [getD_set_ne true (show (0 : Nat) ≠ 11 from by decide)]) (fun _ _ _ h => h) (Or.inl ⟨by rfl, ?y1⟩) ?r1
  case y1 => (intro w' hy; obtain ⟨L, hD, hl, hS⟩ := hy; have M0 := hS.2; clear hS; (refine Eq.trans (rn_row (cs := [.int .i64 p0, .int .i64 p1]) M0 rfl rfl (by (try simp only [List.take_succ_cons, List.take_zero, List.take_nil, List.drop_succ_cons, List.drop_zero, List.drop_nil, List.cons_append, List.nil_append, List.append_nil, List.length_cons, List.length_nil, Nat.reduceAdd, Nat.zero_add, Nat.add_zero]); rfl) (by rfl)) ?_; with_reducible rfl); (try with_reducible rfl))
  (try simp only [Act.put, List.getElem_toArray, List.getElem_cons_succ, List.getElem_cons_zero, List.setIfInBounds_toArray, List.set_cons_zero, List.set_cons_succ])
  refine wpG_one (i := 1) (by kernel_rfl) rfl (by rfl) ?r2
  intro hS K hK
  (have M0 := hS.1 (by kernel_rfl); clear hS; go_simp; refine (to_any _ _ _).mono ?_; rintro e V1 ⟨rfl, hb1⟩; replace M0 := M0.call hb1; refine hK.out _ _ ⟨fun _ => M0, M0.get (by (repeat' (first | exact List.mem_cons_self | refine List.mem_cons_of_mem _ ?_)))⟩ ?_; clear M0 hb1 hK K)
  (try simp only [Act.put, List.getElem_toArray, List.getElem_cons_succ, List.getElem_cons_zero, List.setIfInBounds_toArray, List.set_cons_zero, List.set_cons_succ])
  refine wpG_one (i := 2) (by kernel_rfl) rfl (by rfl) ?r3
  intro hS K hK
  (have M0 := hS.1 (by kernel_rfl); clear hS; go_simp; refine (to_any _ _ _).mono ?_; rintro e V1 ⟨rfl, hb1⟩; replace M0 := M0.call hb1; refine hK.out _ _ ⟨fun _ => M0, M0.get (by (repeat' (first | exact List.mem_cons_self | refine List.mem_cons_of_mem _ ?_)))⟩ ?_; clear M0 hb1 hK K)
  (try simp only [Act.put, List.getElem_toArray, List.getElem_cons_succ, List.getElem_cons_zero, List.setIfInBounds_toArray, List.set_cons_zero, List.set_cons_succ])
  refine wpG_take (i := 3) (v := ?v4) rfl (by kernel_rfl) (by intro L w; simp only [getD_set_ne true (show (3 : Nat) ≠ 11 from by decide)]) (fun _ _ _ h => h) (Or.inl ⟨by rfl, ?y4⟩) ?r4
  case y4 => (intro w' hy; obtain ⟨L, hD, hl, hS⟩ := hy; clear hD hl hS; go_simp; (try with_reducible rfl))
  (try simp only [Act.put, List.getElem_toArray, List.getElem_cons_succ, List.getElem_cons_zero, List.setIfInBounds_toArray, List.set_cons_zero, List.set_cons_succ])
  refine wpG_one (i := 4) (by kernel_rfl) rfl (by rfl) ?r5
  intro hS K hK
  (have M0 := hS.1 (by kernel_rfl); clear hS; go_simp; refine (to_any _ _ _).mono ?_; rintro e V1 ⟨rfl, hb1⟩; replace M0 := M0.call hb1; refine hK.out _ _ ⟨fun _ => M0, M0.get (by (repeat' (first | exact List.mem_cons_self | refine List.mem_cons_of_mem _ ?_)))⟩ ?_; clear M0 hb1 hK K)
  (try simp only [Act.put, List.getElem_toArray, List.getElem_cons_succ, List.getElem_cons_zero, List.setIfInBounds_toArray, List.set_cons_zero, List.set_cons_succ])
  refine wpG_one (i := 5) (by kernel_rfl) rfl (by rfl) ?r6
  intro hS K hK
  (have M0 := hS.1 (by kernel_rfl); clear hS; go_simp; refine (to_any _ _ _).mono ?_; rintro e V1 ⟨rfl, hb1⟩; replace M0 := M0.call hb1; refine hK.out _ _ ⟨fun _ => M0, M0.get (by (repeat' (first | exact List.mem_cons_self | refine List.mem_cons_of_mem _ ?_)))⟩ ?_; clear M0 hb1 hK K)
  (try simp only [Act.put, List.getElem_toArray, List.getElem_cons_succ, List.getElem_cons_zero, List.setIfInBounds_toArray, List.set_cons_zero, List.set_cons_succ])
  refine wpG_one (i := 6) (by kernel_rfl) rfl (by rfl) ?r7
  intro hS K hK
  (have M0 := hS.1 (by kernel_rfl); clear hS; go_simp; refine (to_any _ _ _).mono ?_; rintro e V1 ⟨rfl, hb1⟩; replace M0 := M0.call hb1; refine hK.out _ _ ⟨fun _ => M0, M0.get (by (repeat' (first | exact List.mem_cons_self | refine List.mem_cons_of_mem _ ?_)))⟩ ?_; clear M0 hb1 hK K)
  (try simp only [Act.put, List.getElem_toArray, List.getElem_cons_succ, List.getElem_cons_zero, List.setIfInBounds_toArray, List.set_cons_zero, List.set_cons_succ])
  refine wpG_one (i := 7) (by kernel_rfl) rfl (by rfl) ?r8
  intro hS K hK
  (have M0 := hS.1 (by kernel_rfl); clear hS; go_simp; refine (to_any _ _ _).mono ?_; rintro e V1 ⟨rfl, hb1⟩; replace M0 := M0.call hb1; refine hK.out _ _ ⟨fun _ => M0, M0.get (by (repeat' (first | exact List.mem_cons_self | refine List.mem_cons_of_mem _ ?_)))⟩ ?_; clear M0 hb1 hK K)
  (try simp only [Act.put, List.getElem_toArray, List.getElem_cons_succ, List.getElem_cons_zero, List.setIfInBounds_toArray, List.set_cons_zero, List.set_cons_succ])
  refine wpG_take (i := 8) (v := ?v9) rfl (by kernel_rfl) (by intro L w; simp only [getD_set_ne true (show (8 : Nat) ≠ 11 from by decide)]) (fun _ _ _ h => h) (Or.inl ⟨by rfl, ?y9⟩) ?r9
  case y9 => (intro w' hy; obtain ⟨L, hD, hl, hS⟩ := hy; clear hD hl hS; go_simp; (try with_reducible rfl))
  (try simp only [Act.put, List.getElem_toArray, List.getElem_cons_succ, List.getElem_cons_zero, List.setIfInBounds_toArray, List.set_cons_zero, List.set_cons_succ])
  refine wpG_one (i := 9) (by kernel_rfl) rfl (by rfl) ?r10
  intro hS K hK
  (have M0 := hS.1 (by kernel_rfl); clear hS; go_simp; refine (to_any _ _ _).mono ?_; rintro e V1 ⟨rfl, hb1⟩; replace M0 := M0.call hb1; refine hK.out _ _ ⟨fun _ => M0, M0.get (by (repeat' (first | exact List.mem_cons_self | refine List.mem_cons_of_mem _ ?_)))⟩ ?_; clear M0 hb1 hK K)
  (try simp only [Act.put, List.getElem_toArray, List.getElem_cons_succ, List.getElem_cons_zero, List.setIfInBounds_toArray, List.set_cons_zero, List.set_cons_succ])
  refine wpG_one (i := 10) (by kernel_rfl) rfl (by rfl) ?r11
  intro hS K hK
  (have M0 := hS.1 (by kernel_rfl); clear hS; go_simp; refine (to_any _ _ _).mono ?_; rintro e V1 ⟨rfl, hb1⟩; replace M0 := M0.call hb1; refine hK.out _ _ ⟨fun _ => M0, M0.get (by (repeat' (first | exact List.mem_cons_self | refine List.mem_cons_of_mem _ ?_)))⟩ ?_; clear M0 hb1 hK K)
  (try simp only [Act.put, List.getElem_toArray, List.getElem_cons_succ, List.getElem_cons_zero, List.setIfInBounds_toArray, List.set_cons_zero, List.set_cons_succ])
  refine wpG_one (i := 11) (by kernel_rfl) rfl (by rfl) ?r12
  intro hS K hK
  (have M0 := hS.1 (by kernel_rfl); have hq := hS.2; clear hS; go_simp; refine hK.out _ _ ⟨fun h => (no_of (by kernel_rfl) h).elim, hq.alloc _⟩ ?_; have M1 := M0.new [.int .i64 (-2), .int .i64 1, .int .i64 0, .int .i64 3] 23; clear M0 hq)
  (try simp only [Act.put, List.getElem_toArray, List.getElem_cons_succ, List.getElem_cons_zero, List.setIfInBounds_toArray, List.set_cons_zero, List.set_cons_succ])
  refine wpG_take (i := 12) (v := ?v13) rfl (by kernel_rfl) (by intro L w; simp only [getD_set_ne true (show (12 : Nat) ≠ 11 from by decide)]) (fun _ _ _ h => h) (Or.inl ⟨by rfl, ?y13⟩) ?r13
  case y13 => (intro w' hy; obtain ⟨L, hD, hl, hS⟩ := hy; clear hD hl hS; go_simp; (try with_reducible rfl))
  (try simp only [Act.put, List.getElem_toArray, List.getElem_cons_succ, List.getElem_cons_zero, List.setIfInBounds_toArray, List.set_cons_zero, List.set_cons_succ])
  refine wpG_one (i := 13) (by kernel_rfl) rfl (by rfl) ?r14
  intro hS K hK
  (clear hS; refine m_stw M1 rfl rfl (by first | exact (rfl : _ = Value.agg _) | exact (rfl : _ = Value.int _ _) | exact (rfl : _ = Value.bool _) | exact (rfl : _ = Value.slice _ _ _) | exact (rfl : _ = Value.pointer _) | exact (rfl : _ = Value.map _) | exact (rfl : _ = Value.func _ _ _) | exact (rfl : _ = Value.string _)) (by rfl) (by (repeat (first | exact Upd.head | apply Upd.tail))) (by (try simp only [List.take_succ_cons, List.take_zero, List.take_nil, List.drop_succ_cons, List.drop_zero, List.drop_nil, List.cons_append, List.nil_append, List.append_nil, List.length_cons, List.length_nil, Nat.reduceAdd, Nat.zero_add, Nat.add_zero]); rfl) (by simp) (by simp [Value.oneCell']) (by kernel_rfl) ?_; intro V2 M2; refine hK.out _ _ ⟨fun h => (no_of (by kernel_rfl) h).elim, M2.get (by (repeat' (first | exact List.mem_cons_self | refine List.mem_cons_of_mem _ ?_)))⟩ ?_)
  
  (try simp only [Act.put, List.getElem_toArray, List.getElem_cons_succ, List.getElem_cons_zero, List.setIfInBounds_toArray, List.set_cons_zero, List.set_cons_succ])
  refine wpG_done (by kernel_rfl) ?_
  intro hS
  go_wp2
  refine ret_M (t := 2) (ty := 30) M2 (by rfl) (by rfl) (by rfl) (by (repeat' (first | exact List.mem_cons_self | refine List.mem_cons_of_mem _ ?_))) (by rfl) ?_
  exact ⟨_, rfl, M2.sub (L' := [(_, .cells [.int .i64 (-2), .int .i64 1, .int .i64 0, .int .i64 3])]) (by (repeat (first | exact List.Sublist.slnil | apply List.Sublist.cons_cons | apply List.Sublist.cons)))⟩

set_option maxRecDepth 100000 in
set_option maxHeartbeats 1000000 in
theorem flat_any (w : World) : Calls Try.prog 63 #[] w (JobPost (exJ (-12) (-8)) w) := by
  go_enter Try.func63, Try.ntmps63
  refine start noEx ?_
  intro wc M
  go_wp2_with (first | (refine m_ld1 M rfl rfl rfl (by (repeat' (first | exact List.mem_cons_self | refine List.mem_cons_of_mem _ ?_))) (by rfl) ?_) | (refine m_ldr M rfl rfl rfl (by (repeat' (first | exact List.mem_cons_self | refine List.mem_cons_of_mem _ ?_))) (by (try simp only [List.take_succ_cons, List.take_zero, List.take_nil, List.drop_succ_cons, List.drop_zero, List.drop_nil, List.cons_append, List.nil_append, List.append_nil, List.length_cons, List.length_nil, Nat.reduceAdd, Nat.zero_add, Nat.add_zero]); rfl) (by rfl) ?_) | (refine m_st M rfl rfl rfl (by first | exact (rfl : _ = Value.agg _) | exact (rfl : _ = Value.int _ _) | exact (rfl : _ = Value.bool _) | exact (rfl : _ = Value.slice _ _ _) | exact (rfl : _ = Value.pointer _) | exact (rfl : _ = Value.map _) | exact (rfl : _ = Value.func _ _ _) | exact (rfl : _ = Value.string _)) (by rfl) (by (repeat (first | exact Upd.head | apply Upd.tail))) (by (try simp only [List.take_succ_cons, List.take_zero, List.take_nil, List.drop_succ_cons, List.drop_zero, List.drop_nil, List.cons_append, List.nil_append, List.append_nil, List.length_cons, List.length_nil, Nat.reduceAdd, Nat.zero_add, Nat.add_zero]); rfl) (by simp) (by simp [Value.oneCell']) (by kernel_rfl) ?_; clear M; (try clear wc); intro wc M) | (refine m_al M rfl rfl ?_; clear M; (try clear wc); intro g wc M) | (refine m_bx M rfl rfl (by first | exact (rfl : _ = Value.agg _) | exact (rfl : _ = Value.int _ _) | exact (rfl : _ = Value.bool _) | exact (rfl : _ = Value.slice _ _ _) | exact (rfl : _ = Value.pointer _) | exact (rfl : _ = Value.map _) | exact (rfl : _ = Value.func _ _ _) | exact (rfl : _ = Value.string _)) (by rfl) ?_; clear M; (try clear wc); intro g wc M) | (go_at_call 31; ((with_reducible refine (to_any _ _ _).mono ?_); skip; rintro e wc ⟨rfl, hb⟩; replace M := M.call hb; clear hb)) | (go_at_call 65; refine (job_any _ _ _).mono ?_; rintro e wc ⟨gs, rfl, N⟩; replace M := M.join N; clear N; simp only [List.cons_append, List.nil_append] at M))
  refine ret_M (t := 0) (ty := 30) M (by rfl) (by rfl) (by rfl) (by (repeat' (first | exact List.mem_cons_self | refine List.mem_cons_of_mem _ ?_))) (by rfl) ?_
  exact ⟨gs, rfl, M.sub (by (repeat (first | exact List.Sublist.slnil | apply List.Sublist.cons_cons | apply List.Sublist.cons)))⟩

set_option maxRecDepth 100000 in
set_option maxHeartbeats 1000000 in
theorem sharper_any (w : World) : Calls Try.prog 64 #[] w (JobPost (exJ (-9) (-9)) w) := by
  go_enter Try.func64, Try.ntmps64
  refine start noEx ?_
  intro wc M
  go_wp2_with (first | (refine m_ld1 M rfl rfl rfl (by (repeat' (first | exact List.mem_cons_self | refine List.mem_cons_of_mem _ ?_))) (by rfl) ?_) | (refine m_ldr M rfl rfl rfl (by (repeat' (first | exact List.mem_cons_self | refine List.mem_cons_of_mem _ ?_))) (by (try simp only [List.take_succ_cons, List.take_zero, List.take_nil, List.drop_succ_cons, List.drop_zero, List.drop_nil, List.cons_append, List.nil_append, List.append_nil, List.length_cons, List.length_nil, Nat.reduceAdd, Nat.zero_add, Nat.add_zero]); rfl) (by rfl) ?_) | (refine m_st M rfl rfl rfl (by first | exact (rfl : _ = Value.agg _) | exact (rfl : _ = Value.int _ _) | exact (rfl : _ = Value.bool _) | exact (rfl : _ = Value.slice _ _ _) | exact (rfl : _ = Value.pointer _) | exact (rfl : _ = Value.map _) | exact (rfl : _ = Value.func _ _ _) | exact (rfl : _ = Value.string _)) (by rfl) (by (repeat (first | exact Upd.head | apply Upd.tail))) (by (try simp only [List.take_succ_cons, List.take_zero, List.take_nil, List.drop_succ_cons, List.drop_zero, List.drop_nil, List.cons_append, List.nil_append, List.append_nil, List.length_cons, List.length_nil, Nat.reduceAdd, Nat.zero_add, Nat.add_zero]); rfl) (by simp) (by simp [Value.oneCell']) (by kernel_rfl) ?_; clear M; (try clear wc); intro wc M) | (refine m_al M rfl rfl ?_; clear M; (try clear wc); intro g wc M) | (refine m_bx M rfl rfl (by first | exact (rfl : _ = Value.agg _) | exact (rfl : _ = Value.int _ _) | exact (rfl : _ = Value.bool _) | exact (rfl : _ = Value.slice _ _ _) | exact (rfl : _ = Value.pointer _) | exact (rfl : _ = Value.map _) | exact (rfl : _ = Value.func _ _ _) | exact (rfl : _ = Value.string _)) (by rfl) ?_; clear M; (try clear wc); intro g wc M) | (go_at_call 31; ((with_reducible refine (to_any _ _ _).mono ?_); skip; rintro e wc ⟨rfl, hb⟩; replace M := M.call hb; clear hb)) | (go_at_call 65; refine (job_any _ _ _).mono ?_; rintro e wc ⟨gs, rfl, N⟩; replace M := M.join N; clear N; simp only [List.cons_append, List.nil_append] at M))
  refine ret_M (t := 0) (ty := 30) M (by rfl) (by rfl) (by rfl) (by (repeat' (first | exact List.mem_cons_self | refine List.mem_cons_of_mem _ ?_))) (by rfl) ?_
  exact ⟨gs, rfl, M.sub (by (repeat (first | exact List.Sublist.slnil | apply List.Sublist.cons_cons | apply List.Sublist.cons)))⟩

end Go.Proofs.Ythlpceoajhcliaa

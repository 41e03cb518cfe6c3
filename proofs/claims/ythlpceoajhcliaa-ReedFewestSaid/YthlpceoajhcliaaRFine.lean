/-
  reed: the verdict on a tongue that has been filed.
-/
import Derived.Test.YthlpceoajhcliaaRAfter
import Derived.Test.YthlpceoajhcliaaRPasses
namespace Go.Proofs.Ythlpceoajhcliaa
set_option linter.unusedSimpArgs false
set_option linter.unusedVariables false
open Go.RowKit

def fineJ (j : Jb) (s : St) : Int :=
  if passesJ j s.p0 s.p1 = 1 ∧ s.spoiled = 2 then 1 else if passesJ j s.p0 s.p1 = 2 ∨ s.spoiled = 1 then 2 else 3

set_option maxRecDepth 100000 in
set_option maxHeartbeats 1000000 in
theorem fine_any (j : Jb) (A : Option Addr) (c : Nat) (s : St) (w : World) (hj : j.ok) (hr : Rd w w.heap.size 2 A j.sh.length (rc j.sh)) :
    Calls Try.prog 68 #[jobV j A c, stV s] w fun e w' => e = .returned (.int .i64 (fineJ j s)) ∧ Below w.heap.size w w' := by
  have HR := Lib.hid hr
  have HJ := Lib.hid hj
  clear hr hj
  have HF : Hid (fineJ j s = if passesJ j s.p0 s.p1 = 1 ∧ s.spoiled = 2 then 1 else if passesJ j s.p0 s.p1 = 2 ∨ s.spoiled = 1 then 2 else 3) := rfl
  generalize fineJ j s = fj at *
  generalize hpj : passesJ j s.p0 s.p1 = pj at *
  have HP := Lib.hid hpj
  generalize hsp : s.spoiled = sp at *
  have HSP := Lib.hid hsp
  clear hpj hsp
  go_enter Try.func68, Try.ntmps68
  go_wp2
  refine wp_region_G (fun _ W => Bk W w.heap.size #[.int .i64 j.p0, .int .i64 j.p1, .int .i64 j.t0, .int .i64 j.t1, .int .i64 j.r0, .int .i64 j.r1, .int .i64 j.u0, .int .i64 j.u1, .int .i64 j.d0, .int .i64 j.d1, .int .i64 j.a0, .int .i64 j.a1, .int .i64 j.b0, .int .i64 j.b1, .int .i64 j.le, .slice A j.sh.length c, .int .i64 j.wi, .int .i64 j.me] ∧ Bk W (w.heap.size + 1) (stA s) ∧ Below w.heap.size w W) 9 (by kernel_rfl) (by kernel_rfl) ?s0 ?r0
  case s0 => (exact ⟨by (repeat' (first | (with_reducible refine Bk.drew ?_) | ((with_reducible refine Bk.newAt _ _ _ _ ?_); (simp; done)) | (with_reducible refine Bk.alloc ?_ _))), by (repeat' (first | (with_reducible refine Bk.drew ?_) | ((with_reducible refine Bk.newAt _ _ _ _ ?_); (simp; done)) | (with_reducible refine Bk.alloc ?_ _))), by (repeat' (first | (with_reducible exact Below.refl _ _) | (with_reducible refine Below.alloc ?_ ?_ _) | (with_reducible refine Below.setCell ?_ ?_ _) | (with_reducible refine Below.drew ?_) | ((with_reducible refine Below.trans ?_ (Below.mono (by assumption) ?_))) | go_size))⟩)
  intro W0
  refine wpG_take (i := 0) (v := ?v1) rfl (by kernel_rfl) (by exact fun _ _ => Iff.rfl) (fun _ _ _ h => h) (Or.inl ⟨by rfl, ?y1⟩) ?r1
  case y1 => (intro w' hy; obtain ⟨L, hD, hl, hS⟩ := hy; ((refine run_load_blk 30 (.tmp 2) ?_ _ ?_ _ hS.1 _ Try.underlying30 ?_ ?_) <;> first | rfl | kernel_rfl); (try with_reducible rfl))
  (try simp only [Act.put, List.getElem_toArray, List.getElem_cons_succ, List.getElem_cons_zero, List.setIfInBounds_toArray, List.set_cons_zero, List.set_cons_succ])
  refine wpG_take (i := 1) (v := ?v2) rfl (by kernel_rfl) (by exact fun _ _ => Iff.rfl) (fun _ _ _ h => h) (Or.inl ⟨by rfl, ?y2⟩) ?r2
  case y2 => (intro w' hy; obtain ⟨L, hD, hl, hS⟩ := hy; clear hD hl hS; go_simp; (try with_reducible rfl))
  (try simp only [Act.put, List.getElem_toArray, List.getElem_cons_succ, List.getElem_cons_zero, List.setIfInBounds_toArray, List.set_cons_zero, List.set_cons_succ])
  refine wpG_take (i := 2) (v := ?v3) rfl (by kernel_rfl) (by exact fun _ _ => Iff.rfl) (fun _ _ _ h => h) (Or.inl ⟨by rfl, ?y3⟩) ?r3
  case y3 => (intro w' hy; obtain ⟨L, hD, hl, hS⟩ := hy; clear hD hl hS; go_simp; (try with_reducible rfl))
  (try simp only [Act.put, List.getElem_toArray, List.getElem_cons_succ, List.getElem_cons_zero, List.setIfInBounds_toArray, List.set_cons_zero, List.set_cons_succ])
  refine wpG_take (i := 3) (v := ?v4) rfl (by kernel_rfl) (by exact fun _ _ => Iff.rfl) (fun _ _ _ h => h) (Or.inl ⟨by rfl, ?y4⟩) ?r4
  case y4 => (intro w' hy; obtain ⟨L, hD, hl, hS⟩ := hy; have qc := hS.2.1.cell; clear hS hD hl; go_simp; (try with_reducible rfl))
  (try simp only [Act.put, List.getElem_toArray, List.getElem_cons_succ, List.getElem_cons_zero, List.setIfInBounds_toArray, List.set_cons_zero, List.set_cons_succ])
  refine wpG_take (i := 5) (v := ?v5) rfl (by kernel_rfl) (by exact fun _ _ => Iff.rfl) (fun _ _ _ h => h) (Or.inl ⟨by rfl, ?y5⟩) ?r5
  case y5 => (intro w' hy; obtain ⟨L, hD, hl, hS⟩ := hy; ((refine run_load_blk 92 (.tmp 3) ?_ _ ?_ _ hS.2.1 _ Try.underlying92 ?_ ?_) <;> first | rfl | kernel_rfl); (try with_reducible rfl))
  (try simp only [Act.put, List.getElem_toArray, List.getElem_cons_succ, List.getElem_cons_zero, List.setIfInBounds_toArray, List.set_cons_zero, List.set_cons_succ])
  refine wpG_step (i := 4) (by kernel_rfl) rfl (by rfl) ?r6
  intro hS K hK
  (obtain ⟨h1, h2, hb⟩ := hS; go_simp; refine (passes_any j _ _ _ _ _ HJ.out ((HR.out.below hb).more hb.size)).mono ?_; rintro e V1 ⟨rfl, hb1⟩; rw [HP.out]; refine hK.out _ _ ⟨h1.below hb1, h2.below hb1, bl_trans hb hb1 hb.size⟩ ?_; clear h1 h2 hb hb1)
  clear hK K; intro W6
  (try simp only [Act.put, List.getElem_toArray, List.getElem_cons_succ, List.getElem_cons_zero, List.setIfInBounds_toArray, List.set_cons_zero, List.set_cons_succ])
  refine wpG_step (i := 6) (by kernel_rfl) rfl (by rfl) ?r7
  intro hS K hK
  (obtain ⟨h1, h2, hb⟩ := hS; go_simp; refine (spoiled_any s _).mono ?_; rintro e V2 ⟨rfl, hb1⟩; rw [HSP.out]; refine hK.out _ _ ⟨h1.below hb1, h2.below hb1, bl_trans hb hb1 hb.size⟩ ?_; clear h1 h2 hb hb1)
  clear hK K; intro W7
  (try simp only [Act.put, List.getElem_toArray, List.getElem_cons_succ, List.getElem_cons_zero, List.setIfInBounds_toArray, List.set_cons_zero, List.set_cons_succ])
  refine wpG_take (i := 7) (v := ?v8) rfl (by kernel_rfl) (by exact fun _ _ => Iff.rfl) (fun _ _ _ h => h) (Or.inl ⟨by rfl, ?y8⟩) ?r8
  case y8 => (intro w' hy; obtain ⟨L, hD, hl, hS⟩ := hy; clear hD hl hS; go_simp; (try with_reducible rfl))
  (try simp only [Act.put, List.getElem_toArray, List.getElem_cons_succ, List.getElem_cons_zero, List.setIfInBounds_toArray, List.set_cons_zero, List.set_cons_succ])
  refine wpG_take (i := 8) (v := ?v9) rfl (by kernel_rfl) (by exact fun _ _ => Iff.rfl) (fun _ _ _ h => h) (Or.inl ⟨by rfl, ?y9⟩) ?r9
  case y9 => (intro w' hy; obtain ⟨L, hD, hl, hS⟩ := hy; clear hD hl hS; go_simp; (try with_reducible rfl))
  (try simp only [Act.put, List.getElem_toArray, List.getElem_cons_succ, List.getElem_cons_zero, List.setIfInBounds_toArray, List.set_cons_zero, List.set_cons_succ])
  refine wpG_end (by kernel_rfl) ?_
  intro W
   hS
  have hb := hS.2.2
  clear hS
  go_wp2
  all_goals
    go_ret
    refine ⟨ret_int ?_, hb⟩
    rw [HF.out]
    (repeat' split)
    all_goals first | rfl | (exfalso; simp_all; done)

end Go.Proofs.Ythlpceoajhcliaa

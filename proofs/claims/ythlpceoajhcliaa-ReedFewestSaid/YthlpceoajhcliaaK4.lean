/-
  What the laws' walks use.
-/
import Derived.Test.YthlpceoajhcliaaPRef
import Derived.Test.YthlpceoajhcliaaK2
import Derived.Test.YthlpceoajhcliaaKCopy3
import Derived.Test.YthlpceoajhcliaaK3
import Derived.Test.YthlpceoajhcliaaKShort
import Derived.Test.YthlpceoajhcliaaKTun2
namespace Go.Proofs.Ythlpceoajhcliaa
set_option linter.unusedSimpArgs false
set_option linter.unusedVariables false
open Go.RowKit

/-- A job whose ranges are single numbers. -/
def Jb.one (j : Jb) : Jb := { j with p1 := j.p0, u1 := j.u0, d1 := j.d0, a1 := j.a0, b1 := j.b0, le := min (min j.le j.t0) j.r0 }
theorem Mem.joinW {w0 w w' : World} {ex : Nat → Prop} {L L' I : List (Nat × BA)} {g : Nat} {p p' : BA} (M : Mem w0 ex w L) (hu : Upd L g p p' L') (N : Mem w (fun b => b = g) w' (I ++ [(g, p')])) : Mem w0 ex w' (I ++ L') := by
  have hg := M.blk _ hu.mem
  have hgl := BA.lt hg.2
  have hnd := N.nd
  rw [List.map_append] at hnd
  obtain ⟨n1, n2, n3⟩ := List.nodup_append.1 hnd
  have hI : ∀ q ∈ I, w.heap.size ≤ q.1 := fun q hq => by
    rcases (N.blk q (List.mem_append_left _ hq)).1 with h | h
    · exact h
    · exact absurd h (n3 q.1 (List.mem_map.2 ⟨q, hq, rfl⟩) g (by simp))
  refine ⟨N.os.trans M.os, N.tape.trans M.tape, N.output.trans M.output, Nat.le_trans M.size N.size, fun b hb hx => ?_, fun q hq => ?_, ?_⟩
  · refine (N.block b (Nat.lt_of_lt_of_le hb M.size) fun e => ?_).trans (M.block b hb hx)
    have e : b = g := e
    subst e
    rcases hg.1 with h | h
    · have h : w0.heap.size ≤ b := h
      omega
    · exact hx h
  · rcases List.mem_append.1 hq with hq | hq
    · exact ⟨.inl (Nat.le_trans M.size (hI q hq)), (N.blk q (List.mem_append_left _ hq)).2⟩
    · rcases hu.all M.nd q hq with rfl | ⟨h1, h2⟩
      · exact ⟨hg.1, (N.blk _ (List.mem_append_right _ List.mem_cons_self)).2⟩
      · have h3 := M.blk q h1
        exact ⟨h3.1, BA.same h3.2 N.size (N.block _ (BA.lt h3.2) h2)⟩
  · rw [List.map_append, hu.keys]
    refine List.nodup_append.2 ⟨n1, M.nd, fun a ha b hb e => ?_⟩
    obtain ⟨q, hq, rfl⟩ := List.mem_map.1 ha
    obtain ⟨r, hr, rfl⟩ := List.mem_map.1 hb
    have h1 := hI q hq
    have h2 := BA.lt (M.blk r hr).2
    omega


end Go.Proofs.Ythlpceoajhcliaa
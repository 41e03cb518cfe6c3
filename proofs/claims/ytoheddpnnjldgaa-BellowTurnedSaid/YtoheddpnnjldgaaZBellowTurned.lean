/-
  BellowTurned: whatever the arguments are, the law returns true and its arguments read as they did. No condition.
-/
import Derived.Test.YtoheddpnnjldgaaMBellowTurned1
import Derived.Test.YtoheddpnnjldgaaMBellowTurned2
import Derived.Test.YtoheddpnnjldgaaMBellowTurned3
import Derived.Test.YtoheddpnnjldgaaMBellowTurned4
import Derived.Test.YtoheddpnnjldgaaMBellowTurned5
import Derived.Test.YtoheddpnnjldgaaMBellowTurned6
namespace Go.Proofs.Ytoheddpnnjldgaa.bellowTurned
set_option linter.unusedSimpArgs false
set_option linter.unusedVariables false
open Go.ChangeShapes Go.WideShapes Go.ChangeAt Go.RowKit Go.Proofs.Ytoheddpnnjldgaa.Bq
theorem readable : ∀ t ∈ Try.f11.params.toList, Try.prog.readableRec t = true ∧ t < Try.prog.types.size := by
 rw [Try.params11]
 intro t ht
 simp only [Zx7, Zx8, or_false] at ht
 subst ht
 exact ⟨by kernel_rfl, of_decide_eq_true (by kernel_rfl)⟩
set_option maxRecDepth 100000 in
set_option maxHeartbeats 2000000 in
theorem lifted (os : Os) (started : os.Started) (H : Type) (enc : TypeId × Value → H) :
  ReturnsInLeavingWide {} Try.checked os 11 .any (Rows.bellowTurnedSpec.pre6 enc Try.prog Try.f11 Rows.bellowTurnedRow.domain false) (Rows.bellowTurnedSpec.post enc Try.prog Try.f11 false true false false) := by
 refine returnsB (C := Try.checked) Try.own started Try.func11 (of_decide_eq_true (by kernel_rfl))
  (ChangeSpec.witness6 (enc := enc) (C := Try.checked) false ⟨#[], #[.slice none 0 0], []⟩ 8 (by kernel_rfl) (by kernel_rfl) (by kernel_rfl) (by kernel_rfl)) ?_
 intro W base args ds gs before hval0 hW h0W
 have hval : ∀ (j : Nat) t v, Try.f11.params[j]? = some t → args[j]? = some v → Value.okWide Try.prog W .any base t v := hval0
 have hW' := hW
 obtain ⟨p, q, hA0, hV, rfl, _, _⟩ := hW
 have hA : DataW.TrodAll enc Try.prog W 0 (fun _ => true) true Try.f11.params.toList args.toList ds p := hA0
 rw [Try.params11] at hA hval
 obtain ⟨v0, vs0, d0, ds0, p0, q0, hargs, rfl, rfl, h0, r0⟩ := trodAll_cons hA
 obtain ⟨rfl, rfl, rfl⟩ := trodAll_nil r0
 obtain rfl : args = #[v0] := by cases args; simp_all
 obtain ⟨rfl, rfl⟩ := trodVars_none hV
 clear hA0 hval0
 simp only [Zx4] at hW'
 have hlt : ∀ x ∈ p0, x.block < W.heap.size := fun x hx => hW'.lt x hx
 obtain ⟨A0, n0, c0, l0, rfl, hr0, hn0⟩ := read_ints Try.underlying28 Try.underlying3 cInt (hval 0 28 v0 rfl rfl) h0 (fun x hx => hlt x (hx))
 obtain ⟨M, last, o, w', t', k1, k2, k3, k4⟩ := good_of_top funcsOk Try.func11 (by kernel_rfl) h0W (BellowTurned_any (J := sanJ W) funcsOk A0 n0 c0 l0 (san W) hr0.sanS hn0)
 refine ⟨M, last, o, w', t', k1, k2, k3, k4.mono fun v hv => ?_⟩
 obtain ⟨rfl, hb⟩ := hv
 exact law_post Try.laid readable (by kernel_rfl) Try.underlying4 rfl hW' rfl rfl rfl hb
theorem over : Rows.bellowTurnedRow.holds Try.pinned (OpenSpec.ofChange Rows.bellowTurnedSpec) :=
 OpenClaim.holds_of_wide_leaving 11 Try.f11 rfl rfl rfl rfl rfl rfl rfl ⟨rfl, rfl, rfl, rfl, rfl⟩ rfl rfl rfl rfl rfl (by kernel_rfl) Try.func11 (by kernel_rfl)
  (of_decide_eq_true (by kernel_rfl)) (by unfold Func.isWrapper; first | (rw [if_pos (by decide +kernel)]; kernel_rfl) | (rw [if_neg (by decide +kernel)]; exact ⟨rfl, rfl⟩))
  (fun os started H enc _ => lifted os started H enc)
end Go.Proofs.Ytoheddpnnjldgaa.bellowTurned
namespace Go.Proofs.Ytoheddpnnjldgaa
theorem bellowTurned_holds : Rows.BellowTurnedSaid := bellowTurned.over
end Go.Proofs.Ytoheddpnnjldgaa

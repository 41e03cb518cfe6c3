/-
  VoiceScales: whatever the arguments are, the law returns true and its arguments read as they did. No condition.
-/
import Derived.Test.YtdnbljihhimijaaGreatMVoiceScales1
import Derived.Test.YtdnbljihhimijaaGreatMVoiceScales2
import Derived.Test.YtdnbljihhimijaaGreatMVoiceScales3
import Derived.Test.YtdnbljihhimijaaGreatMVoiceScales4
import Derived.Test.YtdnbljihhimijaaGreatMVoiceScales5
import Derived.Test.YtdnbljihhimijaaGreatMVoiceScales6
namespace Go.Proofs.YtdnbljihhimijaaGreat.voiceScales
set_option linter.unusedSimpArgs false
set_option linter.unusedVariables false
open Go.ChangeShapes Go.WideShapes Go.ChangeAt Go.RowKit
theorem readable : ∀ t ∈ Tryz.f5.params.toList, Tryz.prog.readableRec t = true ∧ t < Tryz.prog.types.size := by
 rw [Tryz.params5]
 intro t ht
 simp only [List.mem_cons, List.not_mem_nil, or_false] at ht
 rcases ht with rfl | rfl | rfl | rfl | rfl
 · exact ⟨by kernel_rfl, of_decide_eq_true (by kernel_rfl)⟩
 · exact ⟨by kernel_rfl, of_decide_eq_true (by kernel_rfl)⟩
 · exact ⟨by kernel_rfl, of_decide_eq_true (by kernel_rfl)⟩
 · exact ⟨by kernel_rfl, of_decide_eq_true (by kernel_rfl)⟩
 · exact ⟨by kernel_rfl, of_decide_eq_true (by kernel_rfl)⟩
set_option maxRecDepth 100000 in
set_option maxHeartbeats 2000000 in
theorem lifted (os : Os) (started : os.Started) (H : Type) (enc : TypeId × Value → H) :
  ReturnsInHanded {} Tryz.checked os 5 .any (Rows.voiceScalesSpec.pre6 enc Tryz.prog Tryz.f5 Rows.voiceScalesRow.domain false) (Rows.voiceScalesSpec.post enc Tryz.prog Tryz.f5 false true false false) := by
 refine returnsInHanded_of_change (C := Tryz.checked) Tryz.own started (by kernel_rfl) Tryz.func5
  (ChangeSpec.witness6 (enc := enc) (C := Tryz.checked) false ⟨#[], #[.agg #[Zi 0, Zi 0, Zi 0, Zi 0, .slice none 0 0], .slice none 0 0, .agg #[Zi 0, Zi 0, Zi 0, Zi 0], Zi 0, .slice none 0 0], []⟩ 8 (by kernel_rfl) (by kernel_rfl) (by kernel_rfl) (by kernel_rfl)) ?_
 intro W base args ds gs before hval0 hW _ _
 have hval : ∀ (j : Nat) t v, Tryz.f5.params[j]? = some t → args[j]? = some v → Value.okWide Tryz.prog W .any base t v := hval0
 have hW' := hW
 obtain ⟨p, q, hA0, hV, rfl, _, _⟩ := hW
 have hA : DataW.TrodAll enc Tryz.prog W 0 (fun _ => true) true Tryz.f5.params.toList args.toList ds p := hA0
 rw [Tryz.params5] at hA hval
 obtain ⟨v0, vs0, d0, ds0, p0, q0, hargs, rfl, rfl, h0, r0⟩ := trodAll_cons hA
 obtain ⟨v1, vs1, d1, ds1, p1, q1, rfl, rfl, rfl, h1, r1⟩ := trodAll_cons r0
 obtain ⟨v2, vs2, d2, ds2, p2, q2, rfl, rfl, rfl, h2, r2⟩ := trodAll_cons r1
 obtain ⟨v3, vs3, d3, ds3, p3, q3, rfl, rfl, rfl, h3, r3⟩ := trodAll_cons r2
 obtain ⟨v4, vs4, d4, ds4, p4, q4, rfl, rfl, rfl, h4, r4⟩ := trodAll_cons r3
 obtain ⟨rfl, rfl, rfl⟩ := trodAll_nil r4
 obtain rfl : args = #[v0, v1, v2, v3, v4] := by cases args; simp_all
 obtain ⟨rfl, rfl⟩ := trodVars_none hV
 clear hA0 hval0
 simp only [List.append_nil] at hW'
 have hlt : ∀ x ∈ p0 ++ (p1 ++ (p2 ++ (p3 ++ (p4)))), x.block < W.heap.size := fun x hx => hW'.lt x hx
 obtain ⟨la0, LL0, A0, c0, rfl, hr0, hE0, hl0, hn0⟩ := read_scale (hval 0 64 v0 rfl rfl) h0 (fun x hx => hlt x (List.mem_append_left _ hx))
 obtain ⟨A1, c1, l1, rfl, hr1, hn1, hc1⟩ := read_intsC (hval 1 33 v1 rfl rfl) h1 (fun x hx => hlt x (List.mem_append_right _ (List.mem_append_left _ hx)))
 obtain ⟨x2, rfl⟩ := read_sound (hval 2 32 v2 rfl rfl) h2
 obtain ⟨x3, rfl, lo3, hi3⟩ := read_int (hval 3 3 v3 rfl rfl) h3
 obtain ⟨A4, n4, c4, l4, rfl, hr4, hn4⟩ := read_ints Tryz.underlying33 Tryz.underlying3 cInt (hval 4 33 v4 rfl rfl) h4 (fun x hx => hlt x (List.mem_append_right _ (List.mem_append_right _ (List.mem_append_right _ (List.mem_append_right _ (hx))))))
 refine (VoiceScales_any la0 A0 c0 LL0 A1 c1 l1 x2 x3 A4 n4 c4 l4 W hr4 hn4 hr0 hE0 hn0 hl0 hr1 hn1 hc1 ⟨lo3, hi3⟩).mono fun e W' ⟨he, hb⟩ => ?_
 subst he
 exact ⟨_, rfl, law_post Tryz.laid readable (by kernel_rfl) Tryz.underlying4 rfl hW' rfl rfl rfl hb⟩
theorem over : Rows.voiceScalesRow.holds Tryz.pinned (OpenSpec.ofChange Rows.voiceScalesSpec) :=
 OpenClaim.holds_of_wide 5 Tryz.f5 rfl rfl rfl rfl rfl rfl rfl ⟨rfl, rfl, rfl, rfl, rfl⟩ rfl rfl rfl rfl rfl (by kernel_rfl) Tryz.func5 (by kernel_rfl)
  (of_decide_eq_true (by kernel_rfl)) (by unfold Func.isWrapper; first | (rw [if_pos (by decide +kernel)]; kernel_rfl) | (rw [if_neg (by decide +kernel)]; exact ⟨rfl, rfl⟩))
  (fun os started H enc _ => lifted os started H enc)
end Go.Proofs.YtdnbljihhimijaaGreat.voiceScales
namespace Go.Proofs.YtdnbljihhimijaaGreat
theorem voiceScales_holds : Rows.VoiceScalesSaid := voiceScales.over
end Go.Proofs.YtdnbljihhimijaaGreat

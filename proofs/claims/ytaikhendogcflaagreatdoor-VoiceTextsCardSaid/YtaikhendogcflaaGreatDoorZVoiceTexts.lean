/-
  VoiceTexts: whatever the arguments are, the law returns true and its arguments read as they did. No condition, but that the listed tables and variables are laid as the program's text says (tied).
-/
import Derived.Test.YtaikhendogcflaaGreatDoorTie
import Derived.Test.YtaikhendogcflaaGreatDoorCards
import Derived.SevenTiedAt
import Derived.Test.YtaikhendogcflaaGreatDoorMVoiceTexts1
import Derived.Test.YtaikhendogcflaaGreatDoorMVoiceTexts2
import Derived.Test.YtaikhendogcflaaGreatDoorMVoiceTexts3
import Derived.Test.YtaikhendogcflaaGreatDoorMVoiceTexts4
import Derived.Test.YtaikhendogcflaaGreatDoorMVoiceTexts5
import Derived.Test.YtaikhendogcflaaGreatDoorMVoiceTexts6
import Derived.Test.YtaikhendogcflaaGreatDoorMVoiceTexts7
namespace Go.Proofs.YtaikhendogcflaaGreatDoor.voiceTexts
set_option linter.unusedSimpArgs false
set_option linter.unusedVariables false
open Go.ChangeShapes Go.WideShapes Go.ChangeAt Go.RowKit
theorem readable : ∀ t ∈ Tryz.f3.params.toList, Tryz.prog.readableRec t = true ∧ t < Tryz.prog.types.size := by
 rw [Tryz.params3]
 intro t ht
 simp only [Zx7, Zx8, or_false] at ht
 rcases ht with rfl | rfl | rfl | rfl | rfl | rfl
 · exact ⟨by kernel_rfl, of_decide_eq_true (by kernel_rfl)⟩
 · exact ⟨by kernel_rfl, of_decide_eq_true (by kernel_rfl)⟩
 · exact ⟨by kernel_rfl, of_decide_eq_true (by kernel_rfl)⟩
 · exact ⟨by kernel_rfl, of_decide_eq_true (by kernel_rfl)⟩
 · exact ⟨by kernel_rfl, of_decide_eq_true (by kernel_rfl)⟩
 · exact ⟨by kernel_rfl, of_decide_eq_true (by kernel_rfl)⟩
set_option maxRecDepth 100000 in
theorem wok (os : Os) : Input.okWideB Tryz.prog ((World.laidAll Tryz.prog os laidT).forCall (fun _ _ => 0) ⟨#[], #[.agg #[.int .i64 0, .int .i64 0, .int .i64 0, .int .i64 0, .int .i64 0, .slice none 0 0, .slice none 0 0, .int .i64 0, .int .i64 0, .int .i64 0, .int .i64 0, .int .i64 0, .int .i64 0, .int .i64 0, .int .i64 0, .int .i64 0, .int .i64 0, .int .i64 0, .int .i64 0, .int .i64 0, .int .i64 0], .string ByteArray.empty, .slice none 0 0, .int .i64 0, .int .i64 0, .int .u8 0], []⟩) 3 ⟨#[], #[.agg #[.int .i64 0, .int .i64 0, .int .i64 0, .int .i64 0, .int .i64 0, .slice none 0 0, .slice none 0 0, .int .i64 0, .int .i64 0, .int .i64 0, .int .i64 0, .int .i64 0, .int .i64 0, .int .i64 0, .int .i64 0, .int .i64 0, .int .i64 0, .int .i64 0, .int .i64 0, .int .i64 0, .int .i64 0], .string ByteArray.empty, .slice none 0 0, .int .i64 0, .int .i64 0, .int .u8 0], []⟩ = true := by kernel_rfl
set_option maxRecDepth 100000 in
theorem wpre (os : Os) (H : Type) (enc : TypeId × Value → H) : Rows.voiceTextsSpec.preB enc Tryz.prog Tryz.f3 [] false ((World.laidAll Tryz.prog os laidT).forCall (fun _ _ => 0) ⟨#[], #[.agg #[.int .i64 0, .int .i64 0, .int .i64 0, .int .i64 0, .int .i64 0, .slice none 0 0, .slice none 0 0, .int .i64 0, .int .i64 0, .int .i64 0, .int .i64 0, .int .i64 0, .int .i64 0, .int .i64 0, .int .i64 0, .int .i64 0, .int .i64 0, .int .i64 0, .int .i64 0, .int .i64 0, .int .i64 0], .string ByteArray.empty, .slice none 0 0, .int .i64 0, .int .i64 0, .int .u8 0], []⟩).memory #[.agg #[.int .i64 0, .int .i64 0, .int .i64 0, .int .i64 0, .int .i64 0, .slice none 0 0, .slice none 0 0, .int .i64 0, .int .i64 0, .int .i64 0, .int .i64 0, .int .i64 0, .int .i64 0, .int .i64 0, .int .i64 0, .int .i64 0, .int .i64 0, .int .i64 0, .int .i64 0, .int .i64 0, .int .i64 0], .string ByteArray.empty, .slice none 0 0, .int .i64 0, .int .i64 0, .int .u8 0] 8 = true := by kernel_rfl
set_option maxRecDepth 100000 in
theorem wsz (os : Os) (H : Type) (enc : TypeId × Value → H) : Rows.voiceTextsSpec.sizedB enc Tryz.prog Tryz.f3 false ((World.laidAll Tryz.prog os laidT).forCall (fun _ _ => 0) ⟨#[], #[.agg #[.int .i64 0, .int .i64 0, .int .i64 0, .int .i64 0, .int .i64 0, .slice none 0 0, .slice none 0 0, .int .i64 0, .int .i64 0, .int .i64 0, .int .i64 0, .int .i64 0, .int .i64 0, .int .i64 0, .int .i64 0, .int .i64 0, .int .i64 0, .int .i64 0, .int .i64 0, .int .i64 0, .int .i64 0], .string ByteArray.empty, .slice none 0 0, .int .i64 0, .int .i64 0, .int .u8 0], []⟩).memory #[.agg #[.int .i64 0, .int .i64 0, .int .i64 0, .int .i64 0, .int .i64 0, .slice none 0 0, .slice none 0 0, .int .i64 0, .int .i64 0, .int .i64 0, .int .i64 0, .int .i64 0, .int .i64 0, .int .i64 0, .int .i64 0, .int .i64 0, .int .i64 0, .int .i64 0, .int .i64 0, .int .i64 0, .int .i64 0], .string ByteArray.empty, .slice none 0 0, .int .i64 0, .int .i64 0, .int .u8 0] 8 = true := by kernel_rfl
theorem wits (os : Os) (H : Type) (enc : TypeId × Value → H) : ∃ (w : World) (tape : Tape) (i : Input), w.os = os ∧ (w.forCall tape i).Shaped Tryz.prog ∧ i.vars = [] ∧ Input.okWide Tryz.prog (w.forCall tape i) .any w.heap.size 3 i ∧
   ((Rows.voiceTextsSpec.pre enc Tryz.prog Tryz.f3 [] false (w.forCall tape i).memory i.args ∧ laidMetH Tryz.prog laidT (w.forCall tape i).memory) ∧ sizedMet enc Tryz.prog Tryz.f3 (OpenSpec.ofChange Rows.voiceTextsSpec) false (w.forCall tape i).memory i.args) ∧ ({ modest := false } : Assume).holds Tryz.prog (lone (Frame.enter Tryz.prog 3 i.args .normal) [] (w.forCall tape i)) :=
 ChangeSpec.witness_shaped (C := Tryz.checked) (X := fun w _ => laidMetH Tryz.prog laidT w) false (World.laidAll Tryz.prog os laidT) #[.agg #[.int .i64 0, .int .i64 0, .int .i64 0, .int .i64 0, .int .i64 0, .slice none 0 0, .slice none 0 0, .int .i64 0, .int .i64 0, .int .i64 0, .int .i64 0, .int .i64 0, .int .i64 0, .int .i64 0, .int .i64 0, .int .i64 0, .int .i64 0, .int .i64 0, .int .i64 0, .int .i64 0, .int .i64 0], .string ByteArray.empty, .slice none 0 0, .int .i64 0, .int .i64 0, .int .u8 0] 8 (World.laidAll_os _ _ _) (start_shT os _) (wok os) (wpre os H enc) (wsz os H enc) (start_metT os _)
theorem wits2 (os : Os) (H : Type) (enc : TypeId × Value → H) : ∃ (w : World) (tape : Tape) (i : Input), w.os = os ∧ (w.forCall tape i).Shaped Tryz.checked.prog ∧ i.vars = [] ∧ Input.okWide Tryz.checked.prog (w.forCall tape i) .any w.heap.size 3 i ∧
   ((Rows.voiceTextsSpec.pre enc Tryz.checked.prog Tryz.f3 [] false (w.forCall tape i).memory i.args ∧ (fun w (_ : Array Value) => laidMetH Tryz.prog laidT w) (w.forCall tape i).memory i.args) ∧ sizedMet enc Tryz.checked.prog Tryz.f3 (OpenSpec.ofChange Rows.voiceTextsSpec) false (w.forCall tape i).memory i.args) ∧ ({} : Assume).holds Tryz.checked.prog (lone (Frame.enter Tryz.checked.prog 3 i.args .normal) [] (w.forCall tape i)) := wits os H enc
set_option maxRecDepth 100000 in
theorem lifted (os : Os) (started : os.Started) (H : Type) (enc : TypeId × Value → H) :
  ReturnsInHanded {} Tryz.checked os 3 .any (fun w args => (Rows.voiceTextsSpec.pre enc Tryz.prog Tryz.f3 [] false w args ∧ laidMetH Tryz.prog laidT w) ∧ sizedMet enc Tryz.prog Tryz.f3 (OpenSpec.ofChange Rows.voiceTextsSpec) false w args)
   (Rows.voiceTextsSpec.post enc Tryz.prog Tryz.f3 false true false false) := by
 refine returnsT (C := Tryz.checked) (X := fun w _ => laidMetH Tryz.prog laidT w) (fun _ _ _ hh h => h.of_heap hh) Tryz.own started (by kernel_rfl) Tryz.func3
  (wits2 os H enc) ?_
 intro W base args ds gs before hval0 hW hL hsh
 have hval : ∀ (j : Nat) t v, Tryz.f3.params[j]? = some t → args[j]? = some v → Value.okWide Tryz.prog W .any base t v := hval0
 have hW' := hW
 obtain ⟨p, q, hA0, hV, rfl, _, _⟩ := hW
 have hA : DataW.TrodAll enc Tryz.prog W 0 (fun _ => true) true Tryz.f3.params.toList args.toList ds p := hA0
 rw [Tryz.params3] at hA hval
 obtain ⟨v0, vs0, d0, ds0, p0, q0, hargs, rfl, rfl, h0, r0⟩ := trodAll_cons hA
 obtain ⟨v1, vs1, d1, ds1, p1, q1, rfl, rfl, rfl, h1, r1⟩ := trodAll_cons r0
 obtain ⟨v2, vs2, d2, ds2, p2, q2, rfl, rfl, rfl, h2, r2⟩ := trodAll_cons r1
 obtain ⟨v3, vs3, d3, ds3, p3, q3, rfl, rfl, rfl, h3, r3⟩ := trodAll_cons r2
 obtain ⟨v4, vs4, d4, ds4, p4, q4, rfl, rfl, rfl, h4, r4⟩ := trodAll_cons r3
 obtain ⟨v5, vs5, d5, ds5, p5, q5, rfl, rfl, rfl, h5, r5⟩ := trodAll_cons r4
 obtain ⟨rfl, rfl, rfl⟩ := trodAll_nil r5
 obtain rfl : args = #[v0, v1, v2, v3, v4, v5] := by cases args; simp_all
 obtain ⟨rfl, rfl⟩ := trodVars_none hV
 have hT := of_laidT hL hsh
 clear hA0 hval0
 simp only [Zx4] at hW'
 have hlt : ∀ x ∈ p0 ++ (p1 ++ (p2 ++ (p3 ++ (p4 ++ (p5))))), x.block < W.heap.size := fun x hx => hW'.lt x hx
 obtain ⟨b0, A0, c0, B0, e0, rfl, hr0, hs0, hn0, hm0⟩ := read_box (hval 0 30 v0 rfl rfl) h0 (fun x hx => hlt x (List.mem_append_left _ hx))
 obtain ⟨t1, rfl⟩ := read_str (hval 1 9 v1 rfl rfl) h1
 obtain ⟨A2, n2, c2, l2, rfl, hr2, hn2⟩ := read_ints Tryz.underlying31 Tryz.underlying3 cInt (hval 2 31 v2 rfl rfl) h2 (fun x hx => hlt x (List.mem_append_right _ (List.mem_append_right _ (List.mem_append_left _ hx))))
 obtain ⟨x3, rfl, lo3, hi3⟩ := read_int (hval 3 3 v3 rfl rfl) h3
 obtain ⟨x4, rfl, lo4, hi4⟩ := read_int (hval 4 3 v4 rfl rfl) h4
 obtain ⟨y5, rfl⟩ := read_byte (hval 5 5 v5 rfl rfl) h5
 refine (VoiceTexts_any b0 A0 c0 B0 e0 t1 A2 c2 n2 l2 x3 x4 y5 W hr0 hs0 hn0 hm0 hr2 hn2 hT).mono fun e W' ⟨he, hb⟩ => ?_
 subst he
 exact ⟨_, rfl, law_post Tryz.laid readable (by kernel_rfl) Tryz.underlying4 rfl hW' rfl rfl rfl hb⟩
theorem closed1 : joinedFacts Tryz.pinned.checked.prog 3 Tryz.f3 Rows.voiceTextsSpec Rows.voiceTextsRow = true := by kernel_rfl
theorem named1 : Tryz.pinned.checked.prog.funcNamed Rows.voiceTextsRow.func = some 3 := by kernel_rfl
theorem over : Rows.voiceTextsRow.holds Tryz.pinned (OpenSpec.ofChange Rows.voiceTextsSpec) :=
 OpenClaim.holds_of_wide 3 Tryz.f3 rfl rfl rfl rfl rfl rfl rfl ⟨rfl, rfl, rfl, rfl, rfl⟩ rfl rfl rfl rfl rfl named1 Tryz.func3 closed1
  (of_decide_eq_true (by kernel_rfl)) (by unfold Func.isWrapper; first | (rw [if_pos (by decide +kernel)]; kernel_rfl) | (rw [if_neg (by decide +kernel)]; exact ⟨rfl, rfl⟩))
  (fun os started H enc _ => lifted os started H enc)
end Go.Proofs.YtaikhendogcflaaGreatDoor.voiceTexts
namespace Go.Proofs.YtaikhendogcflaaGreatDoor
theorem voiceTexts_holds : Rows.VoiceTextsCardSaid :=
 Claim7.holds_tied_plain_at .later [] [.data, .data, .data, .data, .sentinel, .sentinel, .pinned] true (true, "68b079fd5991e4637e00aafa87d224cdbbb900bd99842952ce28333558be2297") true
  voiceTexts.over (fun _ h => by cases h) (by kernel_rfl) (fun _ h => by cases h) voiceTexts_row_tie rfl ⟨rfl, rfl⟩ (by kernel_rfl) rfl
  (fun f fn hf hfn => by
   obtain rfl : f = 3 := Option.some.inj ((show Tryz.prog.funcNamed "musette/musettelaw05.VoiceTexts" = some 3 by kernel_rfl).symm.trans hf) |>.symm
   obtain rfl : fn = Tryz.f3 := (Option.some.inj (Tryz.func3.symm.trans hfn)).symm
   exact ⟨by kernel_rfl, fun j t ht => by
    rw [Tryz.params3] at ht
    have hm : t ∈ [30, 9, 31, 3, 3, 5] := by simpa using Array.mem_of_getElem? ht
    have hall : ([30, 9, 31, 3, 3, 5].all fun u => !Tryz.prog.wantsStandIn u) = true := by kernel_rfl
    exact (show Tryz.prog.wantsStandIn t = false by simpa using List.all_eq_true.1 hall t hm)⟩)
  (by kernel_rfl)
end Go.Proofs.YtaikhendogcflaaGreatDoor

/-
  ReedKnown: the law returns true. No condition, but that the listed tables and variables are laid as the program's text says (tied).
-/
import Derived.Test.YtmdbdaofjepelaaDoorTie
import Derived.Test.YtmdbdaofjepelaaDoorCards
import Derived.SevenTiedAt
import Derived.Test.YtmdbdaofjepelaaDoorMReedKnown1
import Derived.Test.YtmdbdaofjepelaaDoorMReedKnown2
import Derived.Test.YtmdbdaofjepelaaDoorMReedKnown3
import Derived.Test.YtmdbdaofjepelaaDoorMReedKnown4
namespace Go.Proofs.YtmdbdaofjepelaaDoor.reedKnown
set_option linter.unusedSimpArgs false
set_option linter.unusedVariables false
open Go.ChangeShapes Go.WideShapes Go.ChangeAt Go.RowKit
theorem readable : ∀ t ∈ Tryd.f3.params.toList, Tryd.prog.readableRec t = true ∧ t < Tryd.prog.types.size := by
 rw [Tryd.params3]
 intro t ht
 cases ht
set_option maxRecDepth 100000 in
theorem wok (os : Os) : Input.okWideB Tryd.prog ((World.laidAll Tryd.prog os laidT).forCall (fun _ _ => 0) ⟨#[], #[], []⟩) 3 ⟨#[], #[], []⟩ = true := by kernel_rfl
set_option maxRecDepth 100000 in
theorem wpre (os : Os) (H : Type) (enc : TypeId × Value → H) : Rows.reedKnownSpec.preB enc Tryd.prog Tryd.f3 [] false ((World.laidAll Tryd.prog os laidT).forCall (fun _ _ => 0) ⟨#[], #[], []⟩).memory #[] 8 = true := by kernel_rfl
set_option maxRecDepth 100000 in
theorem wsz (os : Os) (H : Type) (enc : TypeId × Value → H) : Rows.reedKnownSpec.sizedB enc Tryd.prog Tryd.f3 false ((World.laidAll Tryd.prog os laidT).forCall (fun _ _ => 0) ⟨#[], #[], []⟩).memory #[] 8 = true := by kernel_rfl
theorem wits (os : Os) (H : Type) (enc : TypeId × Value → H) : ∃ (w : World) (tape : Tape) (i : Input), w.os = os ∧ (w.forCall tape i).Shaped Tryd.prog ∧ i.vars = [] ∧ Input.okWide Tryd.prog (w.forCall tape i) .any w.heap.size 3 i ∧
   ((Rows.reedKnownSpec.pre enc Tryd.prog Tryd.f3 [] false (w.forCall tape i).memory i.args ∧ laidMetH Tryd.prog laidT (w.forCall tape i).memory) ∧ sizedMet enc Tryd.prog Tryd.f3 (OpenSpec.ofChange Rows.reedKnownSpec) false (w.forCall tape i).memory i.args) ∧ ({ modest := false } : Assume).holds Tryd.prog (lone (Frame.enter Tryd.prog 3 i.args .normal) [] (w.forCall tape i)) :=
 ChangeSpec.witness_shaped (C := Tryd.checked) (X := fun w _ => laidMetH Tryd.prog laidT w) false (World.laidAll Tryd.prog os laidT) #[] 8 (World.laidAll_os _ _ _) (start_shT os _) (wok os) (wpre os H enc) (wsz os H enc) (start_metT os _)
theorem wits2 (os : Os) (H : Type) (enc : TypeId × Value → H) : ∃ (w : World) (tape : Tape) (i : Input), w.os = os ∧ (w.forCall tape i).Shaped Tryd.checked.prog ∧ i.vars = [] ∧ Input.okWide Tryd.checked.prog (w.forCall tape i) .any w.heap.size 3 i ∧
   ((Rows.reedKnownSpec.pre enc Tryd.checked.prog Tryd.f3 [] false (w.forCall tape i).memory i.args ∧ (fun w (_ : Array Value) => laidMetH Tryd.prog laidT w) (w.forCall tape i).memory i.args) ∧ sizedMet enc Tryd.checked.prog Tryd.f3 (OpenSpec.ofChange Rows.reedKnownSpec) false (w.forCall tape i).memory i.args) ∧ ({} : Assume).holds Tryd.checked.prog (lone (Frame.enter Tryd.checked.prog 3 i.args .normal) [] (w.forCall tape i)) := wits os H enc
set_option maxRecDepth 100000 in
theorem lifted (os : Os) (started : os.Started) (H : Type) (enc : TypeId × Value → H) :
  ReturnsInHanded {} Tryd.checked os 3 .any (fun w args => (Rows.reedKnownSpec.pre enc Tryd.prog Tryd.f3 [] false w args ∧ laidMetH Tryd.prog laidT w) ∧ sizedMet enc Tryd.prog Tryd.f3 (OpenSpec.ofChange Rows.reedKnownSpec) false w args)
   (Rows.reedKnownSpec.post enc Tryd.prog Tryd.f3 false true false false) := by
 refine returnsT (C := Tryd.checked) (X := fun w _ => laidMetH Tryd.prog laidT w) (fun _ _ _ hh h => h.of_heap hh) Tryd.own started (by kernel_rfl) Tryd.func3
  (wits2 os H enc) ?_
 intro W base args ds gs before hval0 hW hL hsh
 have hval : ∀ (j : Nat) t v, Tryd.f3.params[j]? = some t → args[j]? = some v → Value.okWide Tryd.prog W .any base t v := hval0
 have hW' := hW
 obtain ⟨p, q, hA0, hV, rfl, _, _⟩ := hW
 have hA : DataW.TrodAll enc Tryd.prog W 0 (fun _ => true) true Tryd.f3.params.toList args.toList ds p := hA0
 rw [Tryd.params3] at hA hval
 obtain ⟨e1, rfl, rfl⟩ := trodAll_nil hA
 obtain rfl : args = #[] := by cases args; simp_all
 obtain ⟨rfl, rfl⟩ := trodVars_none hV
 have hT := of_laidT hL hsh
 clear hA0 hval0
 simp only [List.append_nil] at hW'
 refine (ReedKnown_any W hT).mono fun e W' ⟨he, hb⟩ => ?_
 subst he
 exact ⟨_, rfl, law_post Tryd.laid readable (by kernel_rfl) Tryd.underlying4 rfl hW' rfl rfl rfl hb⟩
theorem closed1 : joinedFacts Tryd.pinned.checked.prog 3 Tryd.f3 Rows.reedKnownSpec Rows.reedKnownRow = true := by kernel_rfl
theorem named1 : Tryd.pinned.checked.prog.funcNamed Rows.reedKnownRow.func = some 3 := by kernel_rfl
theorem over : Rows.reedKnownRow.holds Tryd.pinned (OpenSpec.ofChange Rows.reedKnownSpec) :=
 OpenClaim.holds_of_wide 3 Tryd.f3 rfl rfl rfl rfl rfl rfl rfl ⟨rfl, rfl, rfl, rfl, rfl⟩ rfl rfl rfl rfl rfl named1 Tryd.func3 closed1
  (of_decide_eq_true (by kernel_rfl)) (by unfold Func.isWrapper; first | (rw [if_pos (by decide +kernel)]; kernel_rfl) | (rw [if_neg (by decide +kernel)]; exact ⟨rfl, rfl⟩))
  (fun os started H enc _ => lifted os started H enc)
end Go.Proofs.YtmdbdaofjepelaaDoor.reedKnown
namespace Go.Proofs.YtmdbdaofjepelaaDoor
theorem reedKnown_holds : Rows.ReedKnownCardSaid :=
 Claim7.holds_tied_plain_at .later [] [.data, .data, .data] true (true, "ea097321d4909e36ef07de4013cf283c3da7ad4108b36aa1d1aa6bf9df09e2c7") false
  reedKnown.over (fun _ h => by cases h) (by kernel_rfl) (fun _ h => by cases h) reedKnown_row_tie rfl ⟨rfl, rfl⟩ (by kernel_rfl) rfl
  (fun f fn hf hfn => by
   obtain rfl : f = 3 := Option.some.inj ((show Tryd.prog.funcNamed "musette/musettelaw01.ReedKnown" = some 3 by kernel_rfl).symm.trans hf) |>.symm
   obtain rfl : fn = Tryd.f3 := (Option.some.inj (Tryd.func3.symm.trans hfn)).symm
   exact ⟨by kernel_rfl, fun j t ht => by
    rw [Tryd.params3] at ht
    cases ht⟩)
  (by kernel_rfl)
end Go.Proofs.YtmdbdaofjepelaaDoor

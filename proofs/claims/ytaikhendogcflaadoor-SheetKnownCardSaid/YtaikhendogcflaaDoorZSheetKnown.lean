/-
  SheetKnown: the law returns true. No condition, but that the listed tables and variables are laid as the program's text says (tied).
-/
import Derived.Test.YtaikhendogcflaaDoorTie
import Derived.Test.YtaikhendogcflaaDoorCards
import Derived.SevenTiedAt
import Derived.Test.YtaikhendogcflaaDoorMSheetKnown1
import Derived.Test.YtaikhendogcflaaDoorMSheetKnown2
import Derived.Test.YtaikhendogcflaaDoorMSheetKnown3
import Derived.Test.YtaikhendogcflaaDoorMSheetKnown4
import Derived.Test.YtaikhendogcflaaDoorMSheetKnown5
namespace Go.Proofs.YtaikhendogcflaaDoor.sheetKnown
set_option linter.unusedSimpArgs false
set_option linter.unusedVariables false
open Go.ChangeShapes Go.WideShapes Go.ChangeAt Go.RowKit
theorem readable : ∀ t ∈ Tryd.f4.params.toList, Tryd.prog.readableRec t = true ∧ t < Tryd.prog.types.size := by
 rw [Tryd.params4]
 intro t ht
 cases ht
set_option maxRecDepth 100000 in
theorem wok (os : Os) : Input.okWideB Tryd.prog ((World.laidAll Tryd.prog os laidT).forCall (fun _ _ => 0) ⟨#[], #[], []⟩) 4 ⟨#[], #[], []⟩ = true := by kernel_rfl
set_option maxRecDepth 100000 in
theorem wpre (os : Os) (H : Type) (enc : TypeId × Value → H) : Rows.sheetKnownSpec.preB enc Tryd.prog Tryd.f4 [] false ((World.laidAll Tryd.prog os laidT).forCall (fun _ _ => 0) ⟨#[], #[], []⟩).memory #[] 8 = true := by kernel_rfl
set_option maxRecDepth 100000 in
theorem wsz (os : Os) (H : Type) (enc : TypeId × Value → H) : Rows.sheetKnownSpec.sizedB enc Tryd.prog Tryd.f4 false ((World.laidAll Tryd.prog os laidT).forCall (fun _ _ => 0) ⟨#[], #[], []⟩).memory #[] 8 = true := by kernel_rfl
theorem wits (os : Os) (H : Type) (enc : TypeId × Value → H) : ∃ (w : World) (tape : Tape) (i : Input), w.os = os ∧ (w.forCall tape i).Shaped Tryd.prog ∧ i.vars = [] ∧ Input.okWide Tryd.prog (w.forCall tape i) .any w.heap.size 4 i ∧
   ((Rows.sheetKnownSpec.pre enc Tryd.prog Tryd.f4 [] false (w.forCall tape i).memory i.args ∧ laidMetH Tryd.prog laidT (w.forCall tape i).memory) ∧ sizedMet enc Tryd.prog Tryd.f4 (OpenSpec.ofChange Rows.sheetKnownSpec) false (w.forCall tape i).memory i.args) ∧ ({ modest := false } : Assume).holds Tryd.prog (lone (Frame.enter Tryd.prog 4 i.args .normal) [] (w.forCall tape i)) :=
 ChangeSpec.witness_shaped (C := Tryd.checked) (X := fun w _ => laidMetH Tryd.prog laidT w) false (World.laidAll Tryd.prog os laidT) #[] 8 (World.laidAll_os _ _ _) (start_shT os _) (wok os) (wpre os H enc) (wsz os H enc) (start_metT os _)
theorem wits2 (os : Os) (H : Type) (enc : TypeId × Value → H) : ∃ (w : World) (tape : Tape) (i : Input), w.os = os ∧ (w.forCall tape i).Shaped Tryd.checked.prog ∧ i.vars = [] ∧ Input.okWide Tryd.checked.prog (w.forCall tape i) .any w.heap.size 4 i ∧
   ((Rows.sheetKnownSpec.pre enc Tryd.checked.prog Tryd.f4 [] false (w.forCall tape i).memory i.args ∧ (fun w (_ : Array Value) => laidMetH Tryd.prog laidT w) (w.forCall tape i).memory i.args) ∧ sizedMet enc Tryd.checked.prog Tryd.f4 (OpenSpec.ofChange Rows.sheetKnownSpec) false (w.forCall tape i).memory i.args) ∧ ({} : Assume).holds Tryd.checked.prog (lone (Frame.enter Tryd.checked.prog 4 i.args .normal) [] (w.forCall tape i)) := wits os H enc
set_option maxRecDepth 100000 in
theorem lifted (os : Os) (started : os.Started) (H : Type) (enc : TypeId × Value → H) :
  ReturnsInHanded {} Tryd.checked os 4 .any (fun w args => (Rows.sheetKnownSpec.pre enc Tryd.prog Tryd.f4 [] false w args ∧ laidMetH Tryd.prog laidT w) ∧ sizedMet enc Tryd.prog Tryd.f4 (OpenSpec.ofChange Rows.sheetKnownSpec) false w args)
   (Rows.sheetKnownSpec.post enc Tryd.prog Tryd.f4 false true false false) := by
 refine returnsT (C := Tryd.checked) (X := fun w _ => laidMetH Tryd.prog laidT w) (fun _ _ _ hh h => h.of_heap hh) Tryd.own started (by kernel_rfl) Tryd.func4
  (wits2 os H enc) ?_
 intro W base args ds gs before hval0 hW hL hsh
 have hval : ∀ (j : Nat) t v, Tryd.f4.params[j]? = some t → args[j]? = some v → Value.okWide Tryd.prog W .any base t v := hval0
 have hW' := hW
 obtain ⟨p, q, hA0, hV, rfl, _, _⟩ := hW
 have hA : DataW.TrodAll enc Tryd.prog W 0 (fun _ => true) true Tryd.f4.params.toList args.toList ds p := hA0
 rw [Tryd.params4] at hA hval
 obtain ⟨e1, rfl, rfl⟩ := trodAll_nil hA
 obtain rfl : args = #[] := by cases args; simp_all
 obtain ⟨rfl, rfl⟩ := trodVars_none hV
 have hT := of_laid hL
 have hS := of_laidT hL hsh
 clear hA0 hval0
 simp only [List.append_nil] at hW'
 refine (SheetKnown_any W hT hS).mono fun e W' ⟨he, hb⟩ => ?_
 subst he
 exact ⟨_, rfl, law_post Tryd.laid readable (by kernel_rfl) Tryd.underlying4 rfl hW' rfl rfl rfl hb⟩
theorem closed1 : joinedFacts Tryd.pinned.checked.prog 4 Tryd.f4 Rows.sheetKnownSpec Rows.sheetKnownRow = true := by kernel_rfl
theorem named1 : Tryd.pinned.checked.prog.funcNamed Rows.sheetKnownRow.func = some 4 := by kernel_rfl
theorem over : Rows.sheetKnownRow.holds Tryd.pinned (OpenSpec.ofChange Rows.sheetKnownSpec) :=
 OpenClaim.holds_of_wide 4 Tryd.f4 rfl rfl rfl rfl rfl rfl rfl ⟨rfl, rfl, rfl, rfl, rfl⟩ rfl rfl rfl rfl rfl named1 Tryd.func4 closed1
  (of_decide_eq_true (by kernel_rfl)) (by unfold Func.isWrapper; first | (rw [if_pos (by decide +kernel)]; kernel_rfl) | (rw [if_neg (by decide +kernel)]; exact ⟨rfl, rfl⟩))
  (fun os started H enc _ => lifted os started H enc)
end Go.Proofs.YtaikhendogcflaaDoor.sheetKnown
namespace Go.Proofs.YtaikhendogcflaaDoor
theorem sheetKnown_holds : Rows.SheetKnownCardSaid :=
 Claim7.holds_tied_plain_at .later [] [.data, .data, .data] true (true, "2da20ccf5ebca1bd28f69bca88ce2826ab9bbdf2fb56a7cd0c12361ae3a77509") true
  sheetKnown.over (fun _ h => by cases h) (by kernel_rfl) (fun _ h => by cases h) sheetKnown_row_tie rfl ⟨rfl, rfl⟩ (by kernel_rfl) rfl
  (fun f fn hf hfn => by
   obtain rfl : f = 4 := Option.some.inj ((show Tryd.prog.funcNamed "musette/musettelaw08.SheetKnown" = some 4 by kernel_rfl).symm.trans hf) |>.symm
   obtain rfl : fn = Tryd.f4 := (Option.some.inj (Tryd.func4.symm.trans hfn)).symm
   exact ⟨by kernel_rfl, fun j t ht => by
    rw [Tryd.params4] at ht
    cases ht⟩)
  (by kernel_rfl)
end Go.Proofs.YtaikhendogcflaaDoor

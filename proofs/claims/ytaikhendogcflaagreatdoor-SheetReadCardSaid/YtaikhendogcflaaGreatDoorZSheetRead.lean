/-
  SheetRead: whatever the arguments are, the law returns true and its arguments read as they did. No condition, but that the listed tables and variables are laid as the program's text says (tied).
-/
import Derived.Test.YtaikhendogcflaaGreatDoorTie
import Derived.Test.YtaikhendogcflaaGreatDoorCards
import Derived.SevenTiedAt
import Derived.Test.YtaikhendogcflaaGreatDoorMSheetRead1
import Derived.Test.YtaikhendogcflaaGreatDoorMSheetRead2
import Derived.Test.YtaikhendogcflaaGreatDoorMSheetRead3
import Derived.Test.YtaikhendogcflaaGreatDoorMSheetRead4
import Derived.Test.YtaikhendogcflaaGreatDoorMSheetRead5
import Derived.Test.YtaikhendogcflaaGreatDoorMSheetRead6
namespace Go.Proofs.YtaikhendogcflaaGreatDoor.sheetRead
set_option linter.unusedSimpArgs false
set_option linter.unusedVariables false
open Go.ChangeShapes Go.WideShapes Go.ChangeAt Go.RowKit
theorem readable : ∀ t ∈ Tryz.f6.params.toList, Tryz.prog.readableRec t = true ∧ t < Tryz.prog.types.size := by
 rw [Tryz.params6]
 intro t ht
 simp only [List.mem_cons, List.not_mem_nil, or_false] at ht
 rcases ht with rfl | rfl
 · exact ⟨by kernel_rfl, of_decide_eq_true (by kernel_rfl)⟩
 · exact ⟨by kernel_rfl, of_decide_eq_true (by kernel_rfl)⟩
set_option maxRecDepth 100000 in
theorem wok (os : Os) : Input.okWideB Tryz.prog ((startW os).forCall (fun _ _ => 0) ⟨#[], #[.slice none 0 0, .string ByteArray.empty], []⟩) 6 ⟨#[], #[.slice none 0 0, .string ByteArray.empty], []⟩ = true := by kernel_rfl
set_option maxRecDepth 100000 in
theorem wpre (os : Os) (H : Type) (enc : TypeId × Value → H) : Rows.sheetReadSpec.preB enc Tryz.prog Tryz.f6 [] false ((startW os).forCall (fun _ _ => 0) ⟨#[], #[.slice none 0 0, .string ByteArray.empty], []⟩).memory #[.slice none 0 0, .string ByteArray.empty] 8 = true := by kernel_rfl
set_option maxRecDepth 100000 in
theorem wsz (os : Os) (H : Type) (enc : TypeId × Value → H) : Rows.sheetReadSpec.sizedB enc Tryz.prog Tryz.f6 false ((startW os).forCall (fun _ _ => 0) ⟨#[], #[.slice none 0 0, .string ByteArray.empty], []⟩).memory #[.slice none 0 0, .string ByteArray.empty] 8 = true := by kernel_rfl
theorem wits (os : Os) (H : Type) (enc : TypeId × Value → H) : ∃ (w : World) (tape : Tape) (i : Input), w.os = os ∧ (w.forCall tape i).Shaped Tryz.prog ∧ i.vars = [] ∧ Input.okWide Tryz.prog (w.forCall tape i) .any w.heap.size 6 i ∧
   ((Rows.sheetReadSpec.pre enc Tryz.prog Tryz.f6 [] false (w.forCall tape i).memory i.args ∧ laidMetH Tryz.prog laidT (w.forCall tape i).memory) ∧ sizedMet enc Tryz.prog Tryz.f6 (OpenSpec.ofChange Rows.sheetReadSpec) false (w.forCall tape i).memory i.args) ∧ ({ modest := false } : Assume).holds Tryz.prog (lone (Frame.enter Tryz.prog 6 i.args .normal) [] (w.forCall tape i)) :=
 ChangeSpec.witness_shaped (C := Tryz.checked) (X := fun w _ => laidMetH Tryz.prog laidT w) false (startW os) #[.slice none 0 0, .string ByteArray.empty] 8 (startW_os os) (start_shT os _) (wok os) (wpre os H enc) (wsz os H enc) (start_metT os _)
theorem wits2 (os : Os) (H : Type) (enc : TypeId × Value → H) : ∃ (w : World) (tape : Tape) (i : Input), w.os = os ∧ (w.forCall tape i).Shaped Tryz.checked.prog ∧ i.vars = [] ∧ Input.okWide Tryz.checked.prog (w.forCall tape i) .any w.heap.size 6 i ∧
   ((Rows.sheetReadSpec.pre enc Tryz.checked.prog Tryz.f6 [] false (w.forCall tape i).memory i.args ∧ (fun w (_ : Array Value) => laidMetH Tryz.prog laidT w) (w.forCall tape i).memory i.args) ∧ sizedMet enc Tryz.checked.prog Tryz.f6 (OpenSpec.ofChange Rows.sheetReadSpec) false (w.forCall tape i).memory i.args) ∧ ({} : Assume).holds Tryz.checked.prog (lone (Frame.enter Tryz.checked.prog 6 i.args .normal) [] (w.forCall tape i)) := wits os H enc
set_option maxRecDepth 100000 in
theorem lifted (os : Os) (started : os.Started) (H : Type) (enc : TypeId × Value → H) :
  ReturnsInHanded {} Tryz.checked os 6 .any (fun w args => (Rows.sheetReadSpec.pre enc Tryz.prog Tryz.f6 [] false w args ∧ laidMetH Tryz.prog laidT w) ∧ sizedMet enc Tryz.prog Tryz.f6 (OpenSpec.ofChange Rows.sheetReadSpec) false w args)
   (Rows.sheetReadSpec.post enc Tryz.prog Tryz.f6 false true false false) := by
 refine returnsT (C := Tryz.checked) (X := fun w _ => laidMetH Tryz.prog laidT w) (fun _ _ _ hh h => h.of_heap hh) Tryz.own started (by kernel_rfl) Tryz.func6
  (wits2 os H enc) ?_
 intro W base args ds gs before hval0 hW hL hsh
 have hval : ∀ (j : Nat) t v, Tryz.f6.params[j]? = some t → args[j]? = some v → Value.okWide Tryz.prog W .any base t v := hval0
 have hW' := hW
 obtain ⟨p, q, hA0, hV, rfl, _, _⟩ := hW
 have hA : DataW.TrodAll enc Tryz.prog W 0 (fun _ => true) true Tryz.f6.params.toList args.toList ds p := hA0
 rw [Tryz.params6] at hA hval
 obtain ⟨v0, vs0, d0, ds0, p0, q0, hargs, rfl, rfl, h0, r0⟩ := trodAll_cons hA
 obtain ⟨v1, vs1, d1, ds1, p1, q1, rfl, rfl, rfl, h1, r1⟩ := trodAll_cons r0
 obtain ⟨rfl, rfl, rfl⟩ := trodAll_nil r1
 obtain rfl : args = #[v0, v1] := by cases args; simp_all
 obtain ⟨rfl, rfl⟩ := trodVars_none hV
 obtain ⟨hS, hA9, hT⟩ := of_laidT hL hsh
 clear hA0 hval0
 simp only [List.append_nil] at hW'
 have hlt : ∀ x ∈ p0 ++ (p1), x.block < W.heap.size := fun x hx => hW'.lt x hx
 obtain ⟨A0, n0, c0, l0, rfl, hr0, hn0⟩ := read_ints Tryz.underlying31 Tryz.underlying3 cInt (hval 0 31 v0 rfl rfl) h0 (fun x hx => hlt x (List.mem_append_left _ hx))
 obtain ⟨t1, rfl⟩ := read_str (hval 1 9 v1 rfl rfl) h1
 refine (SheetRead_any A0 c0 n0 l0 t1 W hr0 hn0 hT hS hA9).mono fun e W' ⟨he, hb⟩ => ?_
 subst he
 exact ⟨_, rfl, law_post Tryz.laid readable (by kernel_rfl) Tryz.underlying4 rfl hW' rfl rfl rfl hb⟩
theorem closed1 : joinedFacts Tryz.pinned.checked.prog 6 Tryz.f6 Rows.sheetReadSpec Rows.sheetReadRow = true := by kernel_rfl
theorem named1 : Tryz.pinned.checked.prog.funcNamed Rows.sheetReadRow.func = some 6 := by kernel_rfl
theorem over : Rows.sheetReadRow.holds Tryz.pinned (OpenSpec.ofChange Rows.sheetReadSpec) :=
 OpenClaim.holds_of_wide 6 Tryz.f6 rfl rfl rfl rfl rfl rfl rfl ⟨rfl, rfl, rfl, rfl, rfl⟩ rfl rfl rfl rfl rfl named1 Tryz.func6 closed1
  (of_decide_eq_true (by kernel_rfl)) (by unfold Func.isWrapper; first | (rw [if_pos (by decide +kernel)]; kernel_rfl) | (rw [if_neg (by decide +kernel)]; exact ⟨rfl, rfl⟩))
  (fun os started H enc _ => lifted os started H enc)
end Go.Proofs.YtaikhendogcflaaGreatDoor.sheetRead
namespace Go.Proofs.YtaikhendogcflaaGreatDoor
theorem sheetRead_holds : Rows.SheetReadCardSaid :=
 Claim7.holds_tied_plain_at .later [] [.data, .data, .data, .data, .handle, .sentinel, .sentinel, .pinned] true (true, "68b079fd5991e4637e00aafa87d224cdbbb900bd99842952ce28333558be2297") true
  sheetRead.over (fun _ h => by cases h) (by kernel_rfl) (fun _ h => by cases h) sheetRead_row_tie rfl ⟨rfl, rfl⟩ (by kernel_rfl) rfl
  (fun f fn hf hfn => by
   obtain rfl : f = 6 := Option.some.inj ((show Tryz.prog.funcNamed "musette/musettelaw08.SheetRead" = some 6 by kernel_rfl).symm.trans hf) |>.symm
   obtain rfl : fn = Tryz.f6 := (Option.some.inj (Tryz.func6.symm.trans hfn)).symm
   exact ⟨by kernel_rfl, fun j t ht => by
    rw [Tryz.params6] at ht
    have hm : t ∈ [31, 9] := by simpa using Array.mem_of_getElem? ht
    have hall : ([31, 9].all fun u => !Tryz.prog.wantsStandIn u) = true := by kernel_rfl
    exact (show Tryz.prog.wantsStandIn t = false by simpa using List.all_eq_true.1 hall t hm)⟩)
  (by kernel_rfl)
end Go.Proofs.YtaikhendogcflaaGreatDoor

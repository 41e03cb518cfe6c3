/-
  SheetAll: whatever the arguments are, the law returns true and its arguments read as they did. No condition, but that the two listed tables are laid as the program's text says (tied).
-/
import Derived.Test.YtehpcclfgjccbaaDoorTie
import Derived.Test.YtehpcclfgjccbaaDoorCards
import Derived.SevenTiedAt
import Derived.Test.YtehpcclfgjccbaaDoorMSheetAll1
import Derived.Test.YtehpcclfgjccbaaDoorMSheetAll2
import Derived.Test.YtehpcclfgjccbaaDoorMSheetAll3
import Derived.Test.YtehpcclfgjccbaaDoorMSheetAll4
import Derived.Test.YtehpcclfgjccbaaDoorMSheetAll5
namespace Go.Proofs.YtehpcclfgjccbaaDoor.sheetAll
set_option linter.unusedSimpArgs false
set_option linter.unusedVariables false
open Go.ChangeShapes Go.WideShapes Go.ChangeAt Go.RowKit
theorem readable : ∀ t ∈ Tryd.f4.params.toList, Tryd.prog.readableRec t = true ∧ t < Tryd.prog.types.size := by
 rw [Tryd.params4]
 intro t ht
 simp only [List.mem_cons, List.not_mem_nil, or_false] at ht
 subst ht
 exact ⟨by kernel_rfl, of_decide_eq_true (by kernel_rfl)⟩
set_option maxRecDepth 100000 in
theorem lifted (os : Os) (started : os.Started) (H : Type) (enc : TypeId × Value → H) :
  ReturnsInHanded {} Tryd.checked os 4 .any (fun w args => (Rows.sheetAllSpec.pre enc Tryd.prog Tryd.f4 [] false w args ∧ laidMetH Tryd.prog laidS w) ∧ sizedMet enc Tryd.prog Tryd.f4 (OpenSpec.ofChange Rows.sheetAllSpec) false w args)
   (Rows.sheetAllSpec.post enc Tryd.prog Tryd.f4 false true false false) := by
 refine returnsInHanded_of_change_and (C := Tryd.checked) (X := fun w _ => laidMetH Tryd.prog laidS w) (fun _ _ _ hh h => h.of_heap hh) Tryd.own started (by kernel_rfl) Tryd.func4
  (ChangeSpec.witness_shaped (enc := enc) (C := Tryd.checked) (os := os) (X := fun w _ => laidMetH Tryd.prog laidS w) false (World.doorLaid Tryd.prog 19 os) #[.slice none 0 0] 8 rfl (World.shaped_of_RefB (by kernel_rfl) (by kernel_rfl)) (by kernel_rfl) (by kernel_rfl) (by kernel_rfl) (door_met os _)) ?_
 intro W base args ds gs before hval0 hW _ _ hL _
 have hval : ∀ (j : Nat) t v, Tryd.f4.params[j]? = some t → args[j]? = some v → Value.okWide Tryd.prog W .any base t v := hval0
 have hW' := hW
 obtain ⟨p, q, hA0, hV, rfl, _, _⟩ := hW
 have hA : DataW.TrodAll enc Tryd.prog W 0 (fun _ => true) true Tryd.f4.params.toList args.toList ds p := hA0
 rw [Tryd.params4] at hA hval
 obtain ⟨v0, vs0, d0, ds0, p0, q0, hargs, rfl, rfl, h0, r0⟩ := trodAll_cons hA
 obtain ⟨rfl, rfl, rfl⟩ := trodAll_nil r0
 obtain rfl : args = #[v0] := by cases args; simp_all
 obtain ⟨rfl, rfl⟩ := trodVars_none hV
 have hT := of_laid hL
 clear hA0 hval0
 simp only [List.append_nil] at hW'
 have hlt : ∀ x ∈ p0, x.block < W.heap.size := fun x hx => hW'.lt x hx
 obtain ⟨A0, n0, c0, l0, rfl, hr0, hn0⟩ := read_ints Tryd.underlying27 Tryd.underlying3 cInt (hval 0 27 v0 rfl rfl) h0 (fun x hx => hlt x (hx))
 refine (SheetAll_any A0 n0 c0 l0 W hr0 hn0 hT).mono fun e W' ⟨he, hb⟩ => ?_
 subst he
 exact ⟨_, rfl, law_post Tryd.laid readable (by kernel_rfl) Tryd.underlying4 rfl hW' rfl rfl rfl hb⟩
theorem over : Rows.sheetAllRow.holds Tryd.pinned (OpenSpec.ofChange Rows.sheetAllSpec) :=
 OpenClaim.holds_of_wide 4 Tryd.f4 rfl rfl rfl rfl rfl rfl rfl ⟨rfl, rfl, rfl, rfl, rfl⟩ rfl rfl rfl rfl rfl (by kernel_rfl) Tryd.func4 (by kernel_rfl)
  (of_decide_eq_true (by kernel_rfl)) (by unfold Func.isWrapper; first | (rw [if_pos (by decide +kernel)]; kernel_rfl) | (rw [if_neg (by decide +kernel)]; exact ⟨rfl, rfl⟩))
  (fun os started H enc _ => lifted os started H enc)
end Go.Proofs.YtehpcclfgjccbaaDoor.sheetAll
namespace Go.Proofs.YtehpcclfgjccbaaDoor
theorem sheetAll_holds : Rows.SheetAllCardSaid :=
 Claim7.holds_tied_plain_at .later [] [.data, .data] true (true, "fd7a34eafd4ff0c0e7dc1e456bc75e839309505eda1c66e1f497f5c94f486f78") false
  sheetAll.over (fun _ h => by cases h) (by kernel_rfl) (fun _ h => by cases h) sheetAll_row_tie rfl ⟨rfl, rfl⟩ (by kernel_rfl) rfl
  (fun f fn hf hfn => by
   obtain rfl : f = 4 := Option.some.inj ((show Tryd.prog.funcNamed "musette/musettelaw08.SheetAll" = some 4 by kernel_rfl).symm.trans hf) |>.symm
   obtain rfl : fn = Tryd.f4 := (Option.some.inj (Tryd.func4.symm.trans hfn)).symm
   exact ⟨by kernel_rfl, fun j t ht => by
    rw [Tryd.params4] at ht
    have hm : t ∈ [27] := by simpa using Array.mem_of_getElem? ht
    have hall : ([27].all fun u => !Tryd.prog.wantsStandIn u) = true := by kernel_rfl
    exact (show Tryd.prog.wantsStandIn t = false by simpa using List.all_eq_true.1 hall t hm)⟩)
  (by kernel_rfl)
end Go.Proofs.YtehpcclfgjccbaaDoor

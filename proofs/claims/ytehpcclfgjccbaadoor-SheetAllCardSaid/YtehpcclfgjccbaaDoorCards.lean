/-
  DERIVED. GIVEN WITH THE SEED: THE CARDS: each row of YtehpcclfgjccbaaDoorRows.lean that lists a variable, with what it lists TIED to the program's text (the seventh form; the later family's looks); each row that meets fmt, with fmt's text TOLD by the authors' own Lean function (tested against real Go, not proved from fmt's source: count such statements apart). THE CARD IS WHAT COUNTS. Prove the row's statement (the work); the ties are given (YtehpcclfgjccbaaDoorTie.lean); close each card by the builder's one call (the guide's Derived/Test/ToyasCard.lean, 'card_holds'). Laid BY PROGRAM, IN A SANDBOX (cutbox-door.mjs). By AI agents, Wed Nov 11 2026. No macro, syntax, notation, axiom, sorry.
-/
import Derived.Test.YtehpcclfgjccbaaDoorRows
import GoSem.ClaimSeven
namespace Go.Proofs.YtehpcclfgjccbaaDoor
namespace Rows

/-- THE TIED CARD OF 'musettelaw08.SheetCuts'. -/
def sheetCutsCard : Claim7 := { stood := { row := sheetCutsRow, standIns := [], harness := (true, "fd7a34eafd4ff0c0e7dc1e456bc75e839309505eda1c66e1f497f5c94f486f78"), looks := false }, kinds := [], alts := [], laidByText := true, laidKinds := [.data, .data], laidTests := true, laidLooks := .later }
def SheetCutsCardSaid : Prop := Claim7.holds Tryd.pinned (.plain (OpenSpec.ofChange sheetCutsSpec)) sheetCutsCard

/-- THE TIED CARD OF 'musettelaw08.SheetAll'. -/
def sheetAllCard : Claim7 := { stood := { row := sheetAllRow, standIns := [], harness := (true, "fd7a34eafd4ff0c0e7dc1e456bc75e839309505eda1c66e1f497f5c94f486f78"), looks := false }, kinds := [], alts := [], laidByText := true, laidKinds := [.data, .data], laidTests := true, laidLooks := .later }
def SheetAllCardSaid : Prop := Claim7.holds Tryd.pinned (.plain (OpenSpec.ofChange sheetAllSpec)) sheetAllCard

/-- THE TIED CARD OF 'musettelaw08.SheetFewest'. -/
def sheetFewestCard : Claim7 := { stood := { row := sheetFewestRow, standIns := [], harness := (true, "fd7a34eafd4ff0c0e7dc1e456bc75e839309505eda1c66e1f497f5c94f486f78"), looks := false }, kinds := [], alts := [], laidByText := true, laidKinds := [.data, .data], laidTests := true, laidLooks := .later }
def SheetFewestCardSaid : Prop := Claim7.holds Tryd.pinned (.plain (OpenSpec.ofChange sheetFewestSpec)) sheetFewestCard

/-- THE TIED CARD OF 'musettelaw08.SheetLarger'. -/
def sheetLargerCard : Claim7 := { stood := { row := sheetLargerRow, standIns := [], harness := (true, "fd7a34eafd4ff0c0e7dc1e456bc75e839309505eda1c66e1f497f5c94f486f78"), looks := false }, kinds := [], alts := [], laidByText := true, laidKinds := [.data, .data], laidTests := true, laidLooks := .later }
def SheetLargerCardSaid : Prop := Claim7.holds Tryd.pinned (.plain (OpenSpec.ofChange sheetLargerSpec)) sheetLargerCard

/-- THE TIED CARD OF 'musettelaw08.SheetRoom'. -/
def sheetRoomCard : Claim7 := { stood := { row := sheetRoomRow, standIns := [], harness := (true, "fd7a34eafd4ff0c0e7dc1e456bc75e839309505eda1c66e1f497f5c94f486f78"), looks := false }, kinds := [], alts := [], laidByText := true, laidKinds := [.data, .data], laidTests := true, laidLooks := .later }
def SheetRoomCardSaid : Prop := Claim7.holds Tryd.pinned (.plain (OpenSpec.ofChange sheetRoomSpec)) sheetRoomCard

/-- THE TIED CARD OF 'musettelaw08.SheetWorst'. -/
def sheetWorstCard : Claim7 := { stood := { row := sheetWorstRow, standIns := [], harness := (true, "fd7a34eafd4ff0c0e7dc1e456bc75e839309505eda1c66e1f497f5c94f486f78"), looks := false }, kinds := [], alts := [], laidByText := true, laidKinds := [.data, .data], laidTests := true, laidLooks := .later }
def SheetWorstCardSaid : Prop := Claim7.holds Tryd.pinned (.plain (OpenSpec.ofChange sheetWorstSpec)) sheetWorstCard

/-- THE TIED CARD OF 'musettelaw08.SheetPlans'. -/
def sheetPlansCard : Claim7 := { stood := { row := sheetPlansRow, standIns := [], harness := (true, "fd7a34eafd4ff0c0e7dc1e456bc75e839309505eda1c66e1f497f5c94f486f78"), looks := false }, kinds := [], alts := [], laidByText := true, laidKinds := [.data, .data], laidTests := true, laidLooks := .later }
def SheetPlansCardSaid : Prop := Claim7.holds Tryd.pinned (.plain (OpenSpec.ofChange sheetPlansSpec)) sheetPlansCard

/-- THE TIED CARD OF 'musettelaw08.SheetOrdered'. -/
def sheetOrderedCard : Claim7 := { stood := { row := sheetOrderedRow, standIns := [], harness := (true, "fd7a34eafd4ff0c0e7dc1e456bc75e839309505eda1c66e1f497f5c94f486f78"), looks := false }, kinds := [], alts := [], laidByText := true, laidKinds := [.data, .data], laidTests := true, laidLooks := .later }
def SheetOrderedCardSaid : Prop := Claim7.holds Tryd.pinned (.plain (OpenSpec.ofChange sheetOrderedSpec)) sheetOrderedCard

/-- THE TIED CARD OF 'musettelaw08.SheetNumbers'. -/
def sheetNumbersCard : Claim7 := { stood := { row := sheetNumbersRow, standIns := [], harness := (true, "fd7a34eafd4ff0c0e7dc1e456bc75e839309505eda1c66e1f497f5c94f486f78"), looks := false }, kinds := [], alts := [], laidByText := true, laidKinds := [.data, .data], laidTests := true, laidLooks := .later }
def SheetNumbersCardSaid : Prop := Claim7.holds Tryd.pinned (.plain (OpenSpec.ofChange sheetNumbersSpec)) sheetNumbersCard

/-- THE TIED CARD OF 'musettelaw08.SheetSpares'. -/
def sheetSparesCard : Claim7 := { stood := { row := sheetSparesRow, standIns := [], harness := (true, "fd7a34eafd4ff0c0e7dc1e456bc75e839309505eda1c66e1f497f5c94f486f78"), looks := false }, kinds := [], alts := [], laidByText := true, laidKinds := [.data, .data], laidTests := true, laidLooks := .later }
def SheetSparesCardSaid : Prop := Claim7.holds Tryd.pinned (.plain (OpenSpec.ofChange sheetSparesSpec)) sheetSparesCard

/-- THE TIED CARD OF 'musettelaw08.SheetSizes'. -/
def sheetSizesCard : Claim7 := { stood := { row := sheetSizesRow, standIns := [], harness := (true, "fd7a34eafd4ff0c0e7dc1e456bc75e839309505eda1c66e1f497f5c94f486f78"), looks := false }, kinds := [], alts := [], laidByText := true, laidKinds := [.data, .data], laidTests := true, laidLooks := .later }
def SheetSizesCardSaid : Prop := Claim7.holds Tryd.pinned (.plain (OpenSpec.ofChange sheetSizesSpec)) sheetSizesCard

/-- THE TIED CARD OF 'musettelaw08.SheetPlanned'. -/
def sheetPlannedCard : Claim7 := { stood := { row := sheetPlannedRow, standIns := [], harness := (true, "fd7a34eafd4ff0c0e7dc1e456bc75e839309505eda1c66e1f497f5c94f486f78"), looks := false }, kinds := [], alts := [], laidByText := true, laidKinds := [.data, .data], laidTests := true, laidLooks := .later }
def SheetPlannedCardSaid : Prop := Claim7.holds Tryd.pinned (.plain (OpenSpec.ofChange sheetPlannedSpec)) sheetPlannedCard

/-- THE TIED CARD OF 'musettelaw08.SheetBound'. -/
def sheetBoundCard : Claim7 := { stood := { row := sheetBoundRow, standIns := [], harness := (true, "fd7a34eafd4ff0c0e7dc1e456bc75e839309505eda1c66e1f497f5c94f486f78"), looks := false }, kinds := [], alts := [], laidByText := true, laidKinds := [.data, .data], laidTests := true, laidLooks := .later }
def SheetBoundCardSaid : Prop := Claim7.holds Tryd.pinned (.plain (OpenSpec.ofChange sheetBoundSpec)) sheetBoundCard

/-- THE TIED CARD OF 'musettelaw08.SheetTurned'. -/
def sheetTurnedCard : Claim7 := { stood := { row := sheetTurnedRow, standIns := [], harness := (true, "fd7a34eafd4ff0c0e7dc1e456bc75e839309505eda1c66e1f497f5c94f486f78"), looks := false }, kinds := [], alts := [], laidByText := true, laidKinds := [.data, .data], laidTests := true, laidLooks := .later }
def SheetTurnedCardSaid : Prop := Claim7.holds Tryd.pinned (.plain (OpenSpec.ofChange sheetTurnedSpec)) sheetTurnedCard

/-- THE SECOND FORM's CARD OF 'musettelaw08.SheetCuts'. -/
def sheetCutsUptoCard : Claim7 := { stood := { row := sheetCutsUptoRow, standIns := [], harness := (true, "fd7a34eafd4ff0c0e7dc1e456bc75e839309505eda1c66e1f497f5c94f486f78"), looks := false }, kinds := [], alts := [], laidByText := true, laidKinds := [.data, .data], laidTests := true, laidLooks := .later }
def SheetCutsUptoCardSaid : Prop := Claim7.holds Tryd.pinned (.plain (OpenSpec.upto sheetCutsSpec)) sheetCutsUptoCard

/-- THE SECOND FORM's CARD OF 'musettelaw08.SheetAll'. -/
def sheetAllUptoCard : Claim7 := { stood := { row := sheetAllUptoRow, standIns := [], harness := (true, "fd7a34eafd4ff0c0e7dc1e456bc75e839309505eda1c66e1f497f5c94f486f78"), looks := false }, kinds := [], alts := [], laidByText := true, laidKinds := [.data, .data], laidTests := true, laidLooks := .later }
def SheetAllUptoCardSaid : Prop := Claim7.holds Tryd.pinned (.plain (OpenSpec.upto sheetAllSpec)) sheetAllUptoCard

/-- THE SECOND FORM's CARD OF 'musettelaw08.SheetFewest'. -/
def sheetFewestUptoCard : Claim7 := { stood := { row := sheetFewestUptoRow, standIns := [], harness := (true, "fd7a34eafd4ff0c0e7dc1e456bc75e839309505eda1c66e1f497f5c94f486f78"), looks := false }, kinds := [], alts := [], laidByText := true, laidKinds := [.data, .data], laidTests := true, laidLooks := .later }
def SheetFewestUptoCardSaid : Prop := Claim7.holds Tryd.pinned (.plain (OpenSpec.upto sheetFewestSpec)) sheetFewestUptoCard

/-- THE SECOND FORM's CARD OF 'musettelaw08.SheetLarger'. -/
def sheetLargerUptoCard : Claim7 := { stood := { row := sheetLargerUptoRow, standIns := [], harness := (true, "fd7a34eafd4ff0c0e7dc1e456bc75e839309505eda1c66e1f497f5c94f486f78"), looks := false }, kinds := [], alts := [], laidByText := true, laidKinds := [.data, .data], laidTests := true, laidLooks := .later }
def SheetLargerUptoCardSaid : Prop := Claim7.holds Tryd.pinned (.plain (OpenSpec.upto sheetLargerSpec)) sheetLargerUptoCard

/-- THE SECOND FORM's CARD OF 'musettelaw08.SheetRoom'. -/
def sheetRoomUptoCard : Claim7 := { stood := { row := sheetRoomUptoRow, standIns := [], harness := (true, "fd7a34eafd4ff0c0e7dc1e456bc75e839309505eda1c66e1f497f5c94f486f78"), looks := false }, kinds := [], alts := [], laidByText := true, laidKinds := [.data, .data], laidTests := true, laidLooks := .later }
def SheetRoomUptoCardSaid : Prop := Claim7.holds Tryd.pinned (.plain (OpenSpec.upto sheetRoomSpec)) sheetRoomUptoCard

/-- THE SECOND FORM's CARD OF 'musettelaw08.SheetWorst'. -/
def sheetWorstUptoCard : Claim7 := { stood := { row := sheetWorstUptoRow, standIns := [], harness := (true, "fd7a34eafd4ff0c0e7dc1e456bc75e839309505eda1c66e1f497f5c94f486f78"), looks := false }, kinds := [], alts := [], laidByText := true, laidKinds := [.data, .data], laidTests := true, laidLooks := .later }
def SheetWorstUptoCardSaid : Prop := Claim7.holds Tryd.pinned (.plain (OpenSpec.upto sheetWorstSpec)) sheetWorstUptoCard

/-- THE SECOND FORM's CARD OF 'musettelaw08.SheetPlans'. -/
def sheetPlansUptoCard : Claim7 := { stood := { row := sheetPlansUptoRow, standIns := [], harness := (true, "fd7a34eafd4ff0c0e7dc1e456bc75e839309505eda1c66e1f497f5c94f486f78"), looks := false }, kinds := [], alts := [], laidByText := true, laidKinds := [.data, .data], laidTests := true, laidLooks := .later }
def SheetPlansUptoCardSaid : Prop := Claim7.holds Tryd.pinned (.plain (OpenSpec.upto sheetPlansSpec)) sheetPlansUptoCard

/-- THE SECOND FORM's CARD OF 'musettelaw08.SheetOrdered'. -/
def sheetOrderedUptoCard : Claim7 := { stood := { row := sheetOrderedUptoRow, standIns := [], harness := (true, "fd7a34eafd4ff0c0e7dc1e456bc75e839309505eda1c66e1f497f5c94f486f78"), looks := false }, kinds := [], alts := [], laidByText := true, laidKinds := [.data, .data], laidTests := true, laidLooks := .later }
def SheetOrderedUptoCardSaid : Prop := Claim7.holds Tryd.pinned (.plain (OpenSpec.upto sheetOrderedSpec)) sheetOrderedUptoCard

/-- THE SECOND FORM's CARD OF 'musettelaw08.SheetNumbers'. -/
def sheetNumbersUptoCard : Claim7 := { stood := { row := sheetNumbersUptoRow, standIns := [], harness := (true, "fd7a34eafd4ff0c0e7dc1e456bc75e839309505eda1c66e1f497f5c94f486f78"), looks := false }, kinds := [], alts := [], laidByText := true, laidKinds := [.data, .data], laidTests := true, laidLooks := .later }
def SheetNumbersUptoCardSaid : Prop := Claim7.holds Tryd.pinned (.plain (OpenSpec.upto sheetNumbersSpec)) sheetNumbersUptoCard

/-- THE SECOND FORM's CARD OF 'musettelaw08.SheetSpares'. -/
def sheetSparesUptoCard : Claim7 := { stood := { row := sheetSparesUptoRow, standIns := [], harness := (true, "fd7a34eafd4ff0c0e7dc1e456bc75e839309505eda1c66e1f497f5c94f486f78"), looks := false }, kinds := [], alts := [], laidByText := true, laidKinds := [.data, .data], laidTests := true, laidLooks := .later }
def SheetSparesUptoCardSaid : Prop := Claim7.holds Tryd.pinned (.plain (OpenSpec.upto sheetSparesSpec)) sheetSparesUptoCard

/-- THE SECOND FORM's CARD OF 'musettelaw08.SheetSizes'. -/
def sheetSizesUptoCard : Claim7 := { stood := { row := sheetSizesUptoRow, standIns := [], harness := (true, "fd7a34eafd4ff0c0e7dc1e456bc75e839309505eda1c66e1f497f5c94f486f78"), looks := false }, kinds := [], alts := [], laidByText := true, laidKinds := [.data, .data], laidTests := true, laidLooks := .later }
def SheetSizesUptoCardSaid : Prop := Claim7.holds Tryd.pinned (.plain (OpenSpec.upto sheetSizesSpec)) sheetSizesUptoCard

/-- THE SECOND FORM's CARD OF 'musettelaw08.SheetPlanned'. -/
def sheetPlannedUptoCard : Claim7 := { stood := { row := sheetPlannedUptoRow, standIns := [], harness := (true, "fd7a34eafd4ff0c0e7dc1e456bc75e839309505eda1c66e1f497f5c94f486f78"), looks := false }, kinds := [], alts := [], laidByText := true, laidKinds := [.data, .data], laidTests := true, laidLooks := .later }
def SheetPlannedUptoCardSaid : Prop := Claim7.holds Tryd.pinned (.plain (OpenSpec.upto sheetPlannedSpec)) sheetPlannedUptoCard

/-- THE SECOND FORM's CARD OF 'musettelaw08.SheetBound'. -/
def sheetBoundUptoCard : Claim7 := { stood := { row := sheetBoundUptoRow, standIns := [], harness := (true, "fd7a34eafd4ff0c0e7dc1e456bc75e839309505eda1c66e1f497f5c94f486f78"), looks := false }, kinds := [], alts := [], laidByText := true, laidKinds := [.data, .data], laidTests := true, laidLooks := .later }
def SheetBoundUptoCardSaid : Prop := Claim7.holds Tryd.pinned (.plain (OpenSpec.upto sheetBoundSpec)) sheetBoundUptoCard

/-- THE SECOND FORM's CARD OF 'musettelaw08.SheetTurned'. -/
def sheetTurnedUptoCard : Claim7 := { stood := { row := sheetTurnedUptoRow, standIns := [], harness := (true, "fd7a34eafd4ff0c0e7dc1e456bc75e839309505eda1c66e1f497f5c94f486f78"), looks := false }, kinds := [], alts := [], laidByText := true, laidKinds := [.data, .data], laidTests := true, laidLooks := .later }
def SheetTurnedUptoCardSaid : Prop := Claim7.holds Tryd.pinned (.plain (OpenSpec.upto sheetTurnedSpec)) sheetTurnedUptoCard
end Rows
end Go.Proofs.YtehpcclfgjccbaaDoor

/-
  DERIVED. GIVEN WITH THE SEED: THE CARDS: each row of YtaikhendogcflaaDoorRows.lean that lists a variable, with what it lists TIED to the program's text (the seventh form; the later family's looks); each row that meets fmt, with fmt's text TOLD by the authors' own Lean function (tested against real Go, not proved from fmt's source: count such statements apart). THE CARD IS WHAT COUNTS. Prove the row's statement (the work); the ties are given (YtaikhendogcflaaDoorTie.lean); close each card by the builder's one call (the guide's Derived/Test/ToyasCard.lean, 'card_holds'). Laid BY PROGRAM, IN A SANDBOX (cutbox-door.mjs). By AI agents, Wed Nov 11 2026. No macro, syntax, notation, axiom, sorry.
-/
import Derived.Test.YtaikhendogcflaaDoorRows
import GoSem.ClaimSeven
namespace Go.Proofs.YtaikhendogcflaaDoor
namespace Rows

/-- THE TIED CARD OF 'musettetop.TopSawn'. -/
def topSawnCard : Claim7 := { stood := { row := topSawnRow, standIns := [], harness := (true, "2da20ccf5ebca1bd28f69bca88ce2826ab9bbdf2fb56a7cd0c12361ae3a77509"), looks := true }, kinds := [], alts := [], laidByText := true, laidKinds := [.data, .data, .handle], laidTests := true, laidLooks := .later }
def TopSawnCardSaid : Prop := Claim7.holds Tryd.pinned (.plain (OpenSpec.ofChange topSawnSpec)) topSawnCard

/-- THE TIED CARD OF 'musettelaw08.SheetKnown'. -/
def sheetKnownCard : Claim7 := { stood := { row := sheetKnownRow, standIns := [], harness := (true, "2da20ccf5ebca1bd28f69bca88ce2826ab9bbdf2fb56a7cd0c12361ae3a77509"), looks := true }, kinds := [], alts := [], laidByText := true, laidKinds := [.data, .data, .data], laidTests := true, laidLooks := .later }
def SheetKnownCardSaid : Prop := Claim7.holds Tryd.pinned (.plain (OpenSpec.ofChange sheetKnownSpec)) sheetKnownCard

/-- THE SECOND FORM's CARD OF 'musettetop.TopSawn'. -/
def topSawnUptoCard : Claim7 := { stood := { row := topSawnUptoRow, standIns := [], harness := (true, "2da20ccf5ebca1bd28f69bca88ce2826ab9bbdf2fb56a7cd0c12361ae3a77509"), looks := true }, kinds := [], alts := [], laidByText := true, laidKinds := [.data, .data, .handle], laidTests := true, laidLooks := .later }
def TopSawnUptoCardSaid : Prop := Claim7.holds Tryd.pinned (.plain (OpenSpec.upto topSawnSpec)) topSawnUptoCard

/-- THE SECOND FORM's CARD OF 'musettelaw08.SheetKnown'. -/
def sheetKnownUptoCard : Claim7 := { stood := { row := sheetKnownUptoRow, standIns := [], harness := (true, "2da20ccf5ebca1bd28f69bca88ce2826ab9bbdf2fb56a7cd0c12361ae3a77509"), looks := true }, kinds := [], alts := [], laidByText := true, laidKinds := [.data, .data, .data], laidTests := true, laidLooks := .later }
def SheetKnownUptoCardSaid : Prop := Claim7.holds Tryd.pinned (.plain (OpenSpec.upto sheetKnownSpec)) sheetKnownUptoCard
end Rows
end Go.Proofs.YtaikhendogcflaaDoor

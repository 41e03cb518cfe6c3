/-
  DERIVED. GIVEN WITH THE SEED: THE CARDS: each row of YtmdbdaofjepelaaDoorRows.lean that lists a variable, with what it lists TIED to the program's text (the seventh form; the later family's looks); each row that meets fmt, with fmt's text TOLD by the authors' own Lean function (tested against real Go, not proved from fmt's source: count such statements apart). THE CARD IS WHAT COUNTS. Prove the row's statement (the work); the ties are given (YtmdbdaofjepelaaDoorTie.lean); close each card by the builder's one call (the guide's Derived/Test/ToyasCard.lean, 'card_holds'). Laid BY PROGRAM, IN A SANDBOX (cutbox-door.mjs). By AI agents, Wed Nov 11 2026. No macro, syntax, notation, axiom, sorry.
-/
import Derived.Test.YtmdbdaofjepelaaDoorRows
import GoSem.ClaimSeven
namespace Go.Proofs.YtmdbdaofjepelaaDoor
namespace Rows

/-- THE TIED CARD OF 'musettelaw01.ReedKnown'. -/
def reedKnownCard : Claim7 := { stood := { row := reedKnownRow, standIns := [], harness := (true, "ea097321d4909e36ef07de4013cf283c3da7ad4108b36aa1d1aa6bf9df09e2c7"), looks := false }, kinds := [], alts := [], laidByText := true, laidKinds := [.data, .data, .data], laidTests := true, laidLooks := .later }
def ReedKnownCardSaid : Prop := Claim7.holds Tryd.pinned (.plain (OpenSpec.ofChange reedKnownSpec)) reedKnownCard

/-- THE TIED CARD OF 'musettelaw08.SheetKnown'. -/
def sheetKnownCard : Claim7 := { stood := { row := sheetKnownRow, standIns := [], harness := (true, "ea097321d4909e36ef07de4013cf283c3da7ad4108b36aa1d1aa6bf9df09e2c7"), looks := false }, kinds := [], alts := [], laidByText := true, laidKinds := [.data, .data, .data], laidTests := true, laidLooks := .later }
def SheetKnownCardSaid : Prop := Claim7.holds Tryd.pinned (.plain (OpenSpec.ofChange sheetKnownSpec)) sheetKnownCard

/-- THE SECOND FORM's CARD OF 'musettelaw01.ReedKnown'. -/
def reedKnownUptoCard : Claim7 := { stood := { row := reedKnownUptoRow, standIns := [], harness := (true, "ea097321d4909e36ef07de4013cf283c3da7ad4108b36aa1d1aa6bf9df09e2c7"), looks := false }, kinds := [], alts := [], laidByText := true, laidKinds := [.data, .data, .data], laidTests := true, laidLooks := .later }
def ReedKnownUptoCardSaid : Prop := Claim7.holds Tryd.pinned (.plain (OpenSpec.upto reedKnownSpec)) reedKnownUptoCard

/-- THE SECOND FORM's CARD OF 'musettelaw08.SheetKnown'. -/
def sheetKnownUptoCard : Claim7 := { stood := { row := sheetKnownUptoRow, standIns := [], harness := (true, "ea097321d4909e36ef07de4013cf283c3da7ad4108b36aa1d1aa6bf9df09e2c7"), looks := false }, kinds := [], alts := [], laidByText := true, laidKinds := [.data, .data, .data], laidTests := true, laidLooks := .later }
def SheetKnownUptoCardSaid : Prop := Claim7.holds Tryd.pinned (.plain (OpenSpec.upto sheetKnownSpec)) sheetKnownUptoCard
end Rows
end Go.Proofs.YtmdbdaofjepelaaDoor

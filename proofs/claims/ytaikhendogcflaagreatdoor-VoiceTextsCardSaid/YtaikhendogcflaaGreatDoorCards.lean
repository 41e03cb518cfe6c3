/-
  DERIVED. GIVEN WITH THE SEED: THE CARDS: each row of YtaikhendogcflaaGreatDoorRows.lean that lists a variable, with what it lists TIED to the program's text (the seventh form; the later family's looks); each row that meets fmt, with fmt's text TOLD by the authors' own Lean function (tested against real Go, not proved from fmt's source: count such statements apart). THE CARD IS WHAT COUNTS. Prove the row's statement (the work); the ties are given (YtaikhendogcflaaGreatDoorTie.lean); close each card by the builder's one call (the guide's Derived/Test/ToyasCard.lean, 'card_holds'). Laid BY PROGRAM, IN A SANDBOX (cutbox-door.mjs). By AI agents, Wed Nov 11 2026. No macro, syntax, notation, axiom, sorry.
-/
import Derived.Test.YtaikhendogcflaaGreatDoorRows
import GoSem.ClaimSeven
namespace Go.Proofs.YtaikhendogcflaaGreatDoor
namespace Rows

/-- THE TIED CARD OF 'musettelaw05.VoiceTexts'. -/
def voiceTextsCard : Claim7 := { stood := { row := voiceTextsRow, standIns := [], harness := (true, "68b079fd5991e4637e00aafa87d224cdbbb900bd99842952ce28333558be2297"), looks := true }, kinds := [], alts := [], laidByText := true, laidKinds := [.data, .data, .data, .data, .sentinel, .sentinel, .pinned], laidTests := true, laidLooks := .later }
def VoiceTextsCardSaid : Prop := Claim7.holds Tryz.pinned (.plain (OpenSpec.ofChange voiceTextsSpec)) voiceTextsCard

/-- THE TIED CARD OF 'musettelaw05.VoiceRead'. -/
def voiceReadCard : Claim7 := { stood := { row := voiceReadRow, standIns := [], harness := (true, "68b079fd5991e4637e00aafa87d224cdbbb900bd99842952ce28333558be2297"), looks := true }, kinds := [], alts := [], laidByText := true, laidKinds := [.data, .data, .data, .data, .sentinel, .sentinel, .pinned], laidTests := true, laidLooks := .later }
def VoiceReadCardSaid : Prop := Claim7.holds Tryz.pinned (.plain (OpenSpec.ofChange voiceReadSpec)) voiceReadCard

/-- THE TIED CARD OF 'musettelaw08.SheetTexts'. -/
def sheetTextsCard : Claim7 := { stood := { row := sheetTextsRow, standIns := [], harness := (true, "68b079fd5991e4637e00aafa87d224cdbbb900bd99842952ce28333558be2297"), looks := true }, kinds := [], alts := [], laidByText := true, laidKinds := [.data, .data, .data, .data, .handle, .sentinel, .sentinel, .pinned], laidTests := true, laidLooks := .later }
def SheetTextsCardSaid : Prop := Claim7.holds Tryz.pinned (.plain (OpenSpec.ofChange sheetTextsSpec)) sheetTextsCard

/-- THE TIED CARD OF 'musettelaw08.SheetRead'. -/
def sheetReadCard : Claim7 := { stood := { row := sheetReadRow, standIns := [], harness := (true, "68b079fd5991e4637e00aafa87d224cdbbb900bd99842952ce28333558be2297"), looks := true }, kinds := [], alts := [], laidByText := true, laidKinds := [.data, .data, .data, .data, .handle, .sentinel, .sentinel, .pinned], laidTests := true, laidLooks := .later }
def SheetReadCardSaid : Prop := Claim7.holds Tryz.pinned (.plain (OpenSpec.ofChange sheetReadSpec)) sheetReadCard

/-- THE SECOND FORM's CARD OF 'musettelaw05.VoiceTexts'. -/
def voiceTextsUptoCard : Claim7 := { stood := { row := voiceTextsUptoRow, standIns := [], harness := (true, "68b079fd5991e4637e00aafa87d224cdbbb900bd99842952ce28333558be2297"), looks := true }, kinds := [], alts := [], laidByText := true, laidKinds := [.data, .data, .data, .data, .sentinel, .sentinel, .pinned], laidTests := true, laidLooks := .later }
def VoiceTextsUptoCardSaid : Prop := Claim7.holds Tryz.pinned (.plain (OpenSpec.upto voiceTextsSpec)) voiceTextsUptoCard

/-- THE SECOND FORM's CARD OF 'musettelaw05.VoiceRead'. -/
def voiceReadUptoCard : Claim7 := { stood := { row := voiceReadUptoRow, standIns := [], harness := (true, "68b079fd5991e4637e00aafa87d224cdbbb900bd99842952ce28333558be2297"), looks := true }, kinds := [], alts := [], laidByText := true, laidKinds := [.data, .data, .data, .data, .sentinel, .sentinel, .pinned], laidTests := true, laidLooks := .later }
def VoiceReadUptoCardSaid : Prop := Claim7.holds Tryz.pinned (.plain (OpenSpec.upto voiceReadSpec)) voiceReadUptoCard

/-- THE SECOND FORM's CARD OF 'musettelaw08.SheetTexts'. -/
def sheetTextsUptoCard : Claim7 := { stood := { row := sheetTextsUptoRow, standIns := [], harness := (true, "68b079fd5991e4637e00aafa87d224cdbbb900bd99842952ce28333558be2297"), looks := true }, kinds := [], alts := [], laidByText := true, laidKinds := [.data, .data, .data, .data, .handle, .sentinel, .sentinel, .pinned], laidTests := true, laidLooks := .later }
def SheetTextsUptoCardSaid : Prop := Claim7.holds Tryz.pinned (.plain (OpenSpec.upto sheetTextsSpec)) sheetTextsUptoCard

/-- THE SECOND FORM's CARD OF 'musettelaw08.SheetRead'. -/
def sheetReadUptoCard : Claim7 := { stood := { row := sheetReadUptoRow, standIns := [], harness := (true, "68b079fd5991e4637e00aafa87d224cdbbb900bd99842952ce28333558be2297"), looks := true }, kinds := [], alts := [], laidByText := true, laidKinds := [.data, .data, .data, .data, .handle, .sentinel, .sentinel, .pinned], laidTests := true, laidLooks := .later }
def SheetReadUptoCardSaid : Prop := Claim7.holds Tryz.pinned (.plain (OpenSpec.upto sheetReadSpec)) sheetReadUptoCard
end Rows
end Go.Proofs.YtaikhendogcflaaGreatDoor

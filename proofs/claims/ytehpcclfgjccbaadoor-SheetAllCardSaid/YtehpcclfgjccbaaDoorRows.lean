/-
  NARROWER THAN 'FOR EVERY INPUT', by the rows' own cells (each row's printed sentence says how): SheetCuts: laid · SheetAll: laid · SheetFewest: laid · SheetLarger: laid · SheetRoom: laid · SheetWorst: laid · SheetPlans: laid · SheetOrdered: laid · SheetNumbers: laid · SheetSpares: laid · SheetSizes: laid · SheetPlanned: laid · SheetBound: laid · SheetTurned: laid.
  DERIVED. THE GIVEN ROWS OF THIS SEAT. 14 by the template 'for every input the law returns true; each argument reads behind the call as it read before'; 0 by the template 'total and deterministic' (their statements: YtehpcclfgjccbaaDoorTotals.lean).
  GIVEN WITH THE SEED: the statements are not yours to turn. If you find one false, say at which input.
  Laid BY PROGRAM, IN A SANDBOX (cutbox-rows.mjs): the forced cells as the released guide's own fill.sh prints them over the translation b1ee8fd6d5c927fa… (all of the seat's roots in one cut). By AI agents, Wed Nov 11 2026. No macro, syntax, notation, axiom, sorry.
-/
import Derived.Test.YtehpcclfgjccbaaDoorChecked
import GoSem.Claim
import GoSem.ClaimJoined
import GoSem.ClaimMapViews
import Derived.JoinedTies
import Derived.KernelRfl
namespace Go.Proofs.YtehpcclfgjccbaaDoor
/- THE CELL 'sum', in the pinned program and in every row, IS THE sha256 OF THE DUMP (.gsa) THAT YtehpcclfgjccbaaDoorProg.lean LOADS. Nothing in Lean hashes anything: it is a label: what it is worth is what the hold of that sum in a sandbox is worth. -/
noncomputable def Tryd.pinned : Pinned := { name := "ytehpcclfgjccbaadoor", sum := "b1ee8fd6d5c927fae5583c3bc7f7eb2368983ba96c1be3c03972cf7bbfb2e5dc", checked := Tryd.checked }
namespace Rows
def none {H : Type} : Left H := { results := [], args := [] }

/- WHAT THE LISTED PACKAGE-LEVEL VARIABLES READ AS WHEN THE CALL BEGINS. Each datum BY PROGRAM (the guide's laid-datum.mjs) off the statement by which the dump's own 'gosem.cut.vars' lays the variable. In a bare row this is a premise. The card (YtehpcclfgjccbaaDoorCards.lean) ties it to the program's text. -/
def laid_math_bits_deBruijn32tab {H : Type} : DataW H := .agg [.lit (.int .u8 0), .lit (.int .u8 1), .lit (.int .u8 28), .lit (.int .u8 2), .lit (.int .u8 29), .lit (.int .u8 14), .lit (.int .u8 24), .lit (.int .u8 3), .lit (.int .u8 30), .lit (.int .u8 22), .lit (.int .u8 20), .lit (.int .u8 15), .lit (.int .u8 25), .lit (.int .u8 17), .lit (.int .u8 4), .lit (.int .u8 8), .lit (.int .u8 31), .lit (.int .u8 27), .lit (.int .u8 13), .lit (.int .u8 23), .lit (.int .u8 21), .lit (.int .u8 19), .lit (.int .u8 16), .lit (.int .u8 7), .lit (.int .u8 26), .lit (.int .u8 12), .lit (.int .u8 18), .lit (.int .u8 6), .lit (.int .u8 11), .lit (.int .u8 5), .lit (.int .u8 10), .lit (.int .u8 9)]
def laid_math_bits_deBruijn64tab {H : Type} : DataW H := .agg [.lit (.int .u8 0), .lit (.int .u8 1), .lit (.int .u8 56), .lit (.int .u8 2), .lit (.int .u8 57), .lit (.int .u8 49), .lit (.int .u8 28), .lit (.int .u8 3), .lit (.int .u8 61), .lit (.int .u8 58), .lit (.int .u8 42), .lit (.int .u8 50), .lit (.int .u8 38), .lit (.int .u8 29), .lit (.int .u8 17), .lit (.int .u8 4), .lit (.int .u8 62), .lit (.int .u8 47), .lit (.int .u8 59), .lit (.int .u8 36), .lit (.int .u8 45), .lit (.int .u8 43), .lit (.int .u8 51), .lit (.int .u8 22), .lit (.int .u8 53), .lit (.int .u8 39), .lit (.int .u8 33), .lit (.int .u8 30), .lit (.int .u8 24), .lit (.int .u8 18), .lit (.int .u8 12), .lit (.int .u8 5), .lit (.int .u8 63), .lit (.int .u8 55), .lit (.int .u8 48), .lit (.int .u8 27), .lit (.int .u8 60), .lit (.int .u8 41), .lit (.int .u8 37), .lit (.int .u8 16), .lit (.int .u8 46), .lit (.int .u8 35), .lit (.int .u8 44), .lit (.int .u8 21), .lit (.int .u8 52), .lit (.int .u8 32), .lit (.int .u8 23), .lit (.int .u8 11), .lit (.int .u8 54), .lit (.int .u8 26), .lit (.int .u8 40), .lit (.int .u8 15), .lit (.int .u8 34), .lit (.int .u8 20), .lit (.int .u8 31), .lit (.int .u8 10), .lit (.int .u8 25), .lit (.int .u8 14), .lit (.int .u8 19), .lit (.int .u8 9), .lit (.int .u8 13), .lit (.int .u8 8), .lit (.int .u8 7), .lit (.int .u8 6)]

/-- 'musettelaw08.SheetCuts': WHATEVER THE INPUT: true; the input reads as it did. -/
def sheetCutsSpec : ChangeSpec := { name := "sheetCuts", fn := fun _ => fun
  | [d1, d2, d3, d4, d5, d6, d7] => { results := [.lit (.bool true)], args := [d1, d2, d3, d4, d5, d6, d7] }
  | _ => none }
def sheetCutsRow : OpenClaim := { program := "ytehpcclfgjccbaadoor", sum := "b1ee8fd6d5c927fae5583c3bc7f7eb2368983ba96c1be3c03972cf7bbfb2e5dc", func := "musette/musettelaw08.SheetCuts", spec := "sheetCuts", unfollowed := true, recurses := true, named := ["math/bits.deBruijn32tab", "math/bits.deBruijn64tab"], plainKeys := false, apart := false, laid := [("math/bits.deBruijn32tab", laid_math_bits_deBruijn32tab), ("math/bits.deBruijn64tab", laid_math_bits_deBruijn64tab)] }
def SheetCutsSaid : Prop := sheetCutsRow.holds Tryd.pinned (OpenSpec.ofChange sheetCutsSpec)

/-- ITS FALSE NEIGHBOUR: 'it returns false'. Refute it at one input. -/
def sheetCutsWrong : ChangeSpec := { name := "sheetCuts", fn := fun _ => fun
  | [d1, d2, d3, d4, d5, d6, d7] => { results := [.lit (.bool false)], args := [d1, d2, d3, d4, d5, d6, d7] }
  | _ => none }
def SheetCutsWrongFalsely : Prop := sheetCutsRow.holds Tryd.pinned (OpenSpec.ofChange sheetCutsWrong)

/-- 'musettelaw08.SheetAll': WHATEVER THE INPUT: true; the input reads as it did. -/
def sheetAllSpec : ChangeSpec := { name := "sheetAll", fn := fun _ => fun
  | [d] => { results := [.lit (.bool true)], args := [d] }
  | _ => none }
def sheetAllRow : OpenClaim := { program := "ytehpcclfgjccbaadoor", sum := "b1ee8fd6d5c927fae5583c3bc7f7eb2368983ba96c1be3c03972cf7bbfb2e5dc", func := "musette/musettelaw08.SheetAll", spec := "sheetAll", unfollowed := true, recurses := true, named := ["math/bits.deBruijn32tab", "math/bits.deBruijn64tab"], plainKeys := false, apart := false, laid := [("math/bits.deBruijn32tab", laid_math_bits_deBruijn32tab), ("math/bits.deBruijn64tab", laid_math_bits_deBruijn64tab)] }
def SheetAllSaid : Prop := sheetAllRow.holds Tryd.pinned (OpenSpec.ofChange sheetAllSpec)

/-- ITS FALSE NEIGHBOUR: 'it returns false'. Refute it at one input. -/
def sheetAllWrong : ChangeSpec := { name := "sheetAll", fn := fun _ => fun
  | [d] => { results := [.lit (.bool false)], args := [d] }
  | _ => none }
def SheetAllWrongFalsely : Prop := sheetAllRow.holds Tryd.pinned (OpenSpec.ofChange sheetAllWrong)

/-- 'musettelaw08.SheetFewest': WHATEVER THE INPUT: true; the input reads as it did. -/
def sheetFewestSpec : ChangeSpec := { name := "sheetFewest", fn := fun _ => fun
  | [d] => { results := [.lit (.bool true)], args := [d] }
  | _ => none }
def sheetFewestRow : OpenClaim := { program := "ytehpcclfgjccbaadoor", sum := "b1ee8fd6d5c927fae5583c3bc7f7eb2368983ba96c1be3c03972cf7bbfb2e5dc", func := "musette/musettelaw08.SheetFewest", spec := "sheetFewest", unfollowed := true, recurses := true, named := ["math/bits.deBruijn32tab", "math/bits.deBruijn64tab"], plainKeys := false, apart := false, laid := [("math/bits.deBruijn32tab", laid_math_bits_deBruijn32tab), ("math/bits.deBruijn64tab", laid_math_bits_deBruijn64tab)] }
def SheetFewestSaid : Prop := sheetFewestRow.holds Tryd.pinned (OpenSpec.ofChange sheetFewestSpec)

/-- ITS FALSE NEIGHBOUR: 'it returns false'. Refute it at one input. -/
def sheetFewestWrong : ChangeSpec := { name := "sheetFewest", fn := fun _ => fun
  | [d] => { results := [.lit (.bool false)], args := [d] }
  | _ => none }
def SheetFewestWrongFalsely : Prop := sheetFewestRow.holds Tryd.pinned (OpenSpec.ofChange sheetFewestWrong)

/-- 'musettelaw08.SheetLarger': WHATEVER THE INPUT: true; the input reads as it did. -/
def sheetLargerSpec : ChangeSpec := { name := "sheetLarger", fn := fun _ => fun
  | [d] => { results := [.lit (.bool true)], args := [d] }
  | _ => none }
def sheetLargerRow : OpenClaim := { program := "ytehpcclfgjccbaadoor", sum := "b1ee8fd6d5c927fae5583c3bc7f7eb2368983ba96c1be3c03972cf7bbfb2e5dc", func := "musette/musettelaw08.SheetLarger", spec := "sheetLarger", unfollowed := true, recurses := true, named := ["math/bits.deBruijn32tab", "math/bits.deBruijn64tab"], plainKeys := false, apart := false, laid := [("math/bits.deBruijn32tab", laid_math_bits_deBruijn32tab), ("math/bits.deBruijn64tab", laid_math_bits_deBruijn64tab)] }
def SheetLargerSaid : Prop := sheetLargerRow.holds Tryd.pinned (OpenSpec.ofChange sheetLargerSpec)

/-- ITS FALSE NEIGHBOUR: 'it returns false'. Refute it at one input. -/
def sheetLargerWrong : ChangeSpec := { name := "sheetLarger", fn := fun _ => fun
  | [d] => { results := [.lit (.bool false)], args := [d] }
  | _ => none }
def SheetLargerWrongFalsely : Prop := sheetLargerRow.holds Tryd.pinned (OpenSpec.ofChange sheetLargerWrong)

/-- 'musettelaw08.SheetRoom': WHATEVER THE INPUT: true; the input reads as it did. -/
def sheetRoomSpec : ChangeSpec := { name := "sheetRoom", fn := fun _ => fun
  | [d] => { results := [.lit (.bool true)], args := [d] }
  | _ => none }
def sheetRoomRow : OpenClaim := { program := "ytehpcclfgjccbaadoor", sum := "b1ee8fd6d5c927fae5583c3bc7f7eb2368983ba96c1be3c03972cf7bbfb2e5dc", func := "musette/musettelaw08.SheetRoom", spec := "sheetRoom", unfollowed := true, recurses := true, named := ["math/bits.deBruijn32tab", "math/bits.deBruijn64tab"], plainKeys := false, apart := false, laid := [("math/bits.deBruijn32tab", laid_math_bits_deBruijn32tab), ("math/bits.deBruijn64tab", laid_math_bits_deBruijn64tab)] }
def SheetRoomSaid : Prop := sheetRoomRow.holds Tryd.pinned (OpenSpec.ofChange sheetRoomSpec)

/-- ITS FALSE NEIGHBOUR: 'it returns false'. Refute it at one input. -/
def sheetRoomWrong : ChangeSpec := { name := "sheetRoom", fn := fun _ => fun
  | [d] => { results := [.lit (.bool false)], args := [d] }
  | _ => none }
def SheetRoomWrongFalsely : Prop := sheetRoomRow.holds Tryd.pinned (OpenSpec.ofChange sheetRoomWrong)

/-- 'musettelaw08.SheetWorst': WHATEVER THE INPUT: true; the input reads as it did. -/
def sheetWorstSpec : ChangeSpec := { name := "sheetWorst", fn := fun _ => fun
  | [d] => { results := [.lit (.bool true)], args := [d] }
  | _ => none }
def sheetWorstRow : OpenClaim := { program := "ytehpcclfgjccbaadoor", sum := "b1ee8fd6d5c927fae5583c3bc7f7eb2368983ba96c1be3c03972cf7bbfb2e5dc", func := "musette/musettelaw08.SheetWorst", spec := "sheetWorst", unfollowed := true, recurses := true, named := ["math/bits.deBruijn32tab", "math/bits.deBruijn64tab"], plainKeys := false, apart := false, laid := [("math/bits.deBruijn32tab", laid_math_bits_deBruijn32tab), ("math/bits.deBruijn64tab", laid_math_bits_deBruijn64tab)] }
def SheetWorstSaid : Prop := sheetWorstRow.holds Tryd.pinned (OpenSpec.ofChange sheetWorstSpec)

/-- ITS FALSE NEIGHBOUR: 'it returns false'. Refute it at one input. -/
def sheetWorstWrong : ChangeSpec := { name := "sheetWorst", fn := fun _ => fun
  | [d] => { results := [.lit (.bool false)], args := [d] }
  | _ => none }
def SheetWorstWrongFalsely : Prop := sheetWorstRow.holds Tryd.pinned (OpenSpec.ofChange sheetWorstWrong)

/-- 'musettelaw08.SheetPlans': WHATEVER THE INPUT: true; the input reads as it did. -/
def sheetPlansSpec : ChangeSpec := { name := "sheetPlans", fn := fun _ => fun
  | [d1, d2, d3, d4] => { results := [.lit (.bool true)], args := [d1, d2, d3, d4] }
  | _ => none }
def sheetPlansRow : OpenClaim := { program := "ytehpcclfgjccbaadoor", sum := "b1ee8fd6d5c927fae5583c3bc7f7eb2368983ba96c1be3c03972cf7bbfb2e5dc", func := "musette/musettelaw08.SheetPlans", spec := "sheetPlans", unfollowed := true, recurses := true, named := ["math/bits.deBruijn32tab", "math/bits.deBruijn64tab"], plainKeys := false, apart := false, laid := [("math/bits.deBruijn32tab", laid_math_bits_deBruijn32tab), ("math/bits.deBruijn64tab", laid_math_bits_deBruijn64tab)] }
def SheetPlansSaid : Prop := sheetPlansRow.holds Tryd.pinned (OpenSpec.ofChange sheetPlansSpec)

/-- ITS FALSE NEIGHBOUR: 'it returns false'. Refute it at one input. -/
def sheetPlansWrong : ChangeSpec := { name := "sheetPlans", fn := fun _ => fun
  | [d1, d2, d3, d4] => { results := [.lit (.bool false)], args := [d1, d2, d3, d4] }
  | _ => none }
def SheetPlansWrongFalsely : Prop := sheetPlansRow.holds Tryd.pinned (OpenSpec.ofChange sheetPlansWrong)

/-- 'musettelaw08.SheetOrdered': WHATEVER THE INPUT: true; the input reads as it did. -/
def sheetOrderedSpec : ChangeSpec := { name := "sheetOrdered", fn := fun _ => fun
  | [d] => { results := [.lit (.bool true)], args := [d] }
  | _ => none }
def sheetOrderedRow : OpenClaim := { program := "ytehpcclfgjccbaadoor", sum := "b1ee8fd6d5c927fae5583c3bc7f7eb2368983ba96c1be3c03972cf7bbfb2e5dc", func := "musette/musettelaw08.SheetOrdered", spec := "sheetOrdered", unfollowed := true, recurses := true, named := ["math/bits.deBruijn32tab", "math/bits.deBruijn64tab"], plainKeys := false, apart := false, laid := [("math/bits.deBruijn32tab", laid_math_bits_deBruijn32tab), ("math/bits.deBruijn64tab", laid_math_bits_deBruijn64tab)] }
def SheetOrderedSaid : Prop := sheetOrderedRow.holds Tryd.pinned (OpenSpec.ofChange sheetOrderedSpec)

/-- ITS FALSE NEIGHBOUR: 'it returns false'. Refute it at one input. -/
def sheetOrderedWrong : ChangeSpec := { name := "sheetOrdered", fn := fun _ => fun
  | [d] => { results := [.lit (.bool false)], args := [d] }
  | _ => none }
def SheetOrderedWrongFalsely : Prop := sheetOrderedRow.holds Tryd.pinned (OpenSpec.ofChange sheetOrderedWrong)

/-- 'musettelaw08.SheetNumbers': WHATEVER THE INPUT: true; the input reads as it did. -/
def sheetNumbersSpec : ChangeSpec := { name := "sheetNumbers", fn := fun _ => fun
  | [d1, d2, d3] => { results := [.lit (.bool true)], args := [d1, d2, d3] }
  | _ => none }
def sheetNumbersRow : OpenClaim := { program := "ytehpcclfgjccbaadoor", sum := "b1ee8fd6d5c927fae5583c3bc7f7eb2368983ba96c1be3c03972cf7bbfb2e5dc", func := "musette/musettelaw08.SheetNumbers", spec := "sheetNumbers", unfollowed := true, recurses := true, named := ["math/bits.deBruijn32tab", "math/bits.deBruijn64tab"], plainKeys := false, apart := false, laid := [("math/bits.deBruijn32tab", laid_math_bits_deBruijn32tab), ("math/bits.deBruijn64tab", laid_math_bits_deBruijn64tab)] }
def SheetNumbersSaid : Prop := sheetNumbersRow.holds Tryd.pinned (OpenSpec.ofChange sheetNumbersSpec)

/-- ITS FALSE NEIGHBOUR: 'it returns false'. Refute it at one input. -/
def sheetNumbersWrong : ChangeSpec := { name := "sheetNumbers", fn := fun _ => fun
  | [d1, d2, d3] => { results := [.lit (.bool false)], args := [d1, d2, d3] }
  | _ => none }
def SheetNumbersWrongFalsely : Prop := sheetNumbersRow.holds Tryd.pinned (OpenSpec.ofChange sheetNumbersWrong)

/-- 'musettelaw08.SheetSpares': WHATEVER THE INPUT: true; the input reads as it did. -/
def sheetSparesSpec : ChangeSpec := { name := "sheetSpares", fn := fun _ => fun
  | [d1, d2, d3, d4] => { results := [.lit (.bool true)], args := [d1, d2, d3, d4] }
  | _ => none }
def sheetSparesRow : OpenClaim := { program := "ytehpcclfgjccbaadoor", sum := "b1ee8fd6d5c927fae5583c3bc7f7eb2368983ba96c1be3c03972cf7bbfb2e5dc", func := "musette/musettelaw08.SheetSpares", spec := "sheetSpares", unfollowed := true, recurses := true, named := ["math/bits.deBruijn32tab", "math/bits.deBruijn64tab"], plainKeys := false, apart := false, laid := [("math/bits.deBruijn32tab", laid_math_bits_deBruijn32tab), ("math/bits.deBruijn64tab", laid_math_bits_deBruijn64tab)] }
def SheetSparesSaid : Prop := sheetSparesRow.holds Tryd.pinned (OpenSpec.ofChange sheetSparesSpec)

/-- ITS FALSE NEIGHBOUR: 'it returns false'. Refute it at one input. -/
def sheetSparesWrong : ChangeSpec := { name := "sheetSpares", fn := fun _ => fun
  | [d1, d2, d3, d4] => { results := [.lit (.bool false)], args := [d1, d2, d3, d4] }
  | _ => none }
def SheetSparesWrongFalsely : Prop := sheetSparesRow.holds Tryd.pinned (OpenSpec.ofChange sheetSparesWrong)

/-- 'musettelaw08.SheetSizes': WHATEVER THE INPUT: true; the input reads as it did. -/
def sheetSizesSpec : ChangeSpec := { name := "sheetSizes", fn := fun _ => fun
  | [d1, d2, d3, d4, d5, d6] => { results := [.lit (.bool true)], args := [d1, d2, d3, d4, d5, d6] }
  | _ => none }
def sheetSizesRow : OpenClaim := { program := "ytehpcclfgjccbaadoor", sum := "b1ee8fd6d5c927fae5583c3bc7f7eb2368983ba96c1be3c03972cf7bbfb2e5dc", func := "musette/musettelaw08.SheetSizes", spec := "sheetSizes", unfollowed := true, recurses := true, named := ["math/bits.deBruijn32tab", "math/bits.deBruijn64tab"], plainKeys := false, apart := false, laid := [("math/bits.deBruijn32tab", laid_math_bits_deBruijn32tab), ("math/bits.deBruijn64tab", laid_math_bits_deBruijn64tab)] }
def SheetSizesSaid : Prop := sheetSizesRow.holds Tryd.pinned (OpenSpec.ofChange sheetSizesSpec)

/-- ITS FALSE NEIGHBOUR: 'it returns false'. Refute it at one input. -/
def sheetSizesWrong : ChangeSpec := { name := "sheetSizes", fn := fun _ => fun
  | [d1, d2, d3, d4, d5, d6] => { results := [.lit (.bool false)], args := [d1, d2, d3, d4, d5, d6] }
  | _ => none }
def SheetSizesWrongFalsely : Prop := sheetSizesRow.holds Tryd.pinned (OpenSpec.ofChange sheetSizesWrong)

/-- 'musettelaw08.SheetPlanned': WHATEVER THE INPUT: true; the input reads as it did. -/
def sheetPlannedSpec : ChangeSpec := { name := "sheetPlanned", fn := fun _ => fun
  | [d] => { results := [.lit (.bool true)], args := [d] }
  | _ => none }
def sheetPlannedRow : OpenClaim := { program := "ytehpcclfgjccbaadoor", sum := "b1ee8fd6d5c927fae5583c3bc7f7eb2368983ba96c1be3c03972cf7bbfb2e5dc", func := "musette/musettelaw08.SheetPlanned", spec := "sheetPlanned", unfollowed := true, recurses := true, named := ["math/bits.deBruijn32tab", "math/bits.deBruijn64tab"], plainKeys := false, apart := false, laid := [("math/bits.deBruijn32tab", laid_math_bits_deBruijn32tab), ("math/bits.deBruijn64tab", laid_math_bits_deBruijn64tab)] }
def SheetPlannedSaid : Prop := sheetPlannedRow.holds Tryd.pinned (OpenSpec.ofChange sheetPlannedSpec)

/-- ITS FALSE NEIGHBOUR: 'it returns false'. Refute it at one input. -/
def sheetPlannedWrong : ChangeSpec := { name := "sheetPlanned", fn := fun _ => fun
  | [d] => { results := [.lit (.bool false)], args := [d] }
  | _ => none }
def SheetPlannedWrongFalsely : Prop := sheetPlannedRow.holds Tryd.pinned (OpenSpec.ofChange sheetPlannedWrong)

/-- 'musettelaw08.SheetBound': WHATEVER THE INPUT: true; the input reads as it did. -/
def sheetBoundSpec : ChangeSpec := { name := "sheetBound", fn := fun _ => fun
  | [d] => { results := [.lit (.bool true)], args := [d] }
  | _ => none }
def sheetBoundRow : OpenClaim := { program := "ytehpcclfgjccbaadoor", sum := "b1ee8fd6d5c927fae5583c3bc7f7eb2368983ba96c1be3c03972cf7bbfb2e5dc", func := "musette/musettelaw08.SheetBound", spec := "sheetBound", unfollowed := true, recurses := true, named := ["math/bits.deBruijn32tab", "math/bits.deBruijn64tab"], plainKeys := false, apart := false, laid := [("math/bits.deBruijn32tab", laid_math_bits_deBruijn32tab), ("math/bits.deBruijn64tab", laid_math_bits_deBruijn64tab)] }
def SheetBoundSaid : Prop := sheetBoundRow.holds Tryd.pinned (OpenSpec.ofChange sheetBoundSpec)

/-- ITS FALSE NEIGHBOUR: 'it returns false'. Refute it at one input. -/
def sheetBoundWrong : ChangeSpec := { name := "sheetBound", fn := fun _ => fun
  | [d] => { results := [.lit (.bool false)], args := [d] }
  | _ => none }
def SheetBoundWrongFalsely : Prop := sheetBoundRow.holds Tryd.pinned (OpenSpec.ofChange sheetBoundWrong)

/-- 'musettelaw08.SheetTurned': WHATEVER THE INPUT: true; the input reads as it did. -/
def sheetTurnedSpec : ChangeSpec := { name := "sheetTurned", fn := fun _ => fun
  | [d] => { results := [.lit (.bool true)], args := [d] }
  | _ => none }
def sheetTurnedRow : OpenClaim := { program := "ytehpcclfgjccbaadoor", sum := "b1ee8fd6d5c927fae5583c3bc7f7eb2368983ba96c1be3c03972cf7bbfb2e5dc", func := "musette/musettelaw08.SheetTurned", spec := "sheetTurned", unfollowed := true, recurses := true, named := ["math/bits.deBruijn32tab", "math/bits.deBruijn64tab"], plainKeys := false, apart := false, laid := [("math/bits.deBruijn32tab", laid_math_bits_deBruijn32tab), ("math/bits.deBruijn64tab", laid_math_bits_deBruijn64tab)] }
def SheetTurnedSaid : Prop := sheetTurnedRow.holds Tryd.pinned (OpenSpec.ofChange sheetTurnedSpec)

/-- ITS FALSE NEIGHBOUR: 'it returns false'. Refute it at one input. -/
def sheetTurnedWrong : ChangeSpec := { name := "sheetTurned", fn := fun _ => fun
  | [d] => { results := [.lit (.bool false)], args := [d] }
  | _ => none }
def SheetTurnedWrongFalsely : Prop := sheetTurnedRow.holds Tryd.pinned (OpenSpec.ofChange sheetTurnedWrong)

/- THE SECOND FORM. 'bulk': how many values and letters a reading holds, each counted each time it is reached (what is shared counts as often as it is met; a slice's spare places count too). A statement '..UptoSaid' is the law's where the arguments, and the package variables that the reading takes, are together of bulk at most 1048576: NARROWER than '..Said'. Prove '..Said' where nothing that the law and all that it calls make is longer than what came in: it says more and counts as full. Else prove '..UptoSaid'. A law counts once. -/
mutual
def uptoBulk {H : Type} : DataW H → Nat
  | .lit (.string bytes) => bytes.length + 1
  | .lit _ => 1
  | .nil => 1
  | .ptr d => uptoBulk d + 1
  | .slice elems spare => uptoBulkAll elems + uptoBulkAll spare + 1
  | .agg parts => uptoBulkAll parts + 1
  | .iface _ d => uptoBulk d + 1
  | .map entries => uptoBulkEntries entries + 1
  | .held _ => 1
def uptoBulkAll {H : Type} : List (DataW H) → Nat
  | [] => 0
  | d :: r => uptoBulk d + uptoBulkAll r
def uptoBulkEntries {H : Type} : List (Lit × DataW H) → Nat
  | [] => 0
  | x :: r => uptoBulkEntry x + uptoBulkEntries r
def uptoBulkEntry {H : Type} : Lit × DataW H → Nat
  | (.string bytes, d) => bytes.length + uptoBulk d + 1
  | (_, d) => uptoBulk d + 1
 end
def uptoSmall : (H : Type) → List (DataW H) → Bool := fun _ ds => decide (uptoBulkAll ds ≤ 1048576)
def OpenSpec.upto (s : _root_.Go.ChangeSpec) : _root_.Go.OpenSpec := { _root_.Go.OpenSpec.ofChange s with cond := some uptoSmall }

/-- 'musettelaw08.SheetCuts', WHERE WHAT IT READS IS OF BULK AT MOST 1048576: true; the input reads as it did. -/
def sheetCutsUptoRow : OpenClaim := { program := "ytehpcclfgjccbaadoor", sum := "b1ee8fd6d5c927fae5583c3bc7f7eb2368983ba96c1be3c03972cf7bbfb2e5dc", func := "musette/musettelaw08.SheetCuts", spec := "sheetCuts", unfollowed := true, recurses := true, named := ["math/bits.deBruijn32tab", "math/bits.deBruijn64tab"], plainKeys := false, apart := false, laid := [("math/bits.deBruijn32tab", laid_math_bits_deBruijn32tab), ("math/bits.deBruijn64tab", laid_math_bits_deBruijn64tab)], narrowed := true }
def SheetCutsUptoSaid : Prop := sheetCutsUptoRow.holds Tryd.pinned (OpenSpec.upto sheetCutsSpec)

/-- 'musettelaw08.SheetAll', WHERE WHAT IT READS IS OF BULK AT MOST 1048576: true; the input reads as it did. -/
def sheetAllUptoRow : OpenClaim := { program := "ytehpcclfgjccbaadoor", sum := "b1ee8fd6d5c927fae5583c3bc7f7eb2368983ba96c1be3c03972cf7bbfb2e5dc", func := "musette/musettelaw08.SheetAll", spec := "sheetAll", unfollowed := true, recurses := true, named := ["math/bits.deBruijn32tab", "math/bits.deBruijn64tab"], plainKeys := false, apart := false, laid := [("math/bits.deBruijn32tab", laid_math_bits_deBruijn32tab), ("math/bits.deBruijn64tab", laid_math_bits_deBruijn64tab)], narrowed := true }
def SheetAllUptoSaid : Prop := sheetAllUptoRow.holds Tryd.pinned (OpenSpec.upto sheetAllSpec)

/-- 'musettelaw08.SheetFewest', WHERE WHAT IT READS IS OF BULK AT MOST 1048576: true; the input reads as it did. -/
def sheetFewestUptoRow : OpenClaim := { program := "ytehpcclfgjccbaadoor", sum := "b1ee8fd6d5c927fae5583c3bc7f7eb2368983ba96c1be3c03972cf7bbfb2e5dc", func := "musette/musettelaw08.SheetFewest", spec := "sheetFewest", unfollowed := true, recurses := true, named := ["math/bits.deBruijn32tab", "math/bits.deBruijn64tab"], plainKeys := false, apart := false, laid := [("math/bits.deBruijn32tab", laid_math_bits_deBruijn32tab), ("math/bits.deBruijn64tab", laid_math_bits_deBruijn64tab)], narrowed := true }
def SheetFewestUptoSaid : Prop := sheetFewestUptoRow.holds Tryd.pinned (OpenSpec.upto sheetFewestSpec)

/-- 'musettelaw08.SheetLarger', WHERE WHAT IT READS IS OF BULK AT MOST 1048576: true; the input reads as it did. -/
def sheetLargerUptoRow : OpenClaim := { program := "ytehpcclfgjccbaadoor", sum := "b1ee8fd6d5c927fae5583c3bc7f7eb2368983ba96c1be3c03972cf7bbfb2e5dc", func := "musette/musettelaw08.SheetLarger", spec := "sheetLarger", unfollowed := true, recurses := true, named := ["math/bits.deBruijn32tab", "math/bits.deBruijn64tab"], plainKeys := false, apart := false, laid := [("math/bits.deBruijn32tab", laid_math_bits_deBruijn32tab), ("math/bits.deBruijn64tab", laid_math_bits_deBruijn64tab)], narrowed := true }
def SheetLargerUptoSaid : Prop := sheetLargerUptoRow.holds Tryd.pinned (OpenSpec.upto sheetLargerSpec)

/-- 'musettelaw08.SheetRoom', WHERE WHAT IT READS IS OF BULK AT MOST 1048576: true; the input reads as it did. -/
def sheetRoomUptoRow : OpenClaim := { program := "ytehpcclfgjccbaadoor", sum := "b1ee8fd6d5c927fae5583c3bc7f7eb2368983ba96c1be3c03972cf7bbfb2e5dc", func := "musette/musettelaw08.SheetRoom", spec := "sheetRoom", unfollowed := true, recurses := true, named := ["math/bits.deBruijn32tab", "math/bits.deBruijn64tab"], plainKeys := false, apart := false, laid := [("math/bits.deBruijn32tab", laid_math_bits_deBruijn32tab), ("math/bits.deBruijn64tab", laid_math_bits_deBruijn64tab)], narrowed := true }
def SheetRoomUptoSaid : Prop := sheetRoomUptoRow.holds Tryd.pinned (OpenSpec.upto sheetRoomSpec)

/-- 'musettelaw08.SheetWorst', WHERE WHAT IT READS IS OF BULK AT MOST 1048576: true; the input reads as it did. -/
def sheetWorstUptoRow : OpenClaim := { program := "ytehpcclfgjccbaadoor", sum := "b1ee8fd6d5c927fae5583c3bc7f7eb2368983ba96c1be3c03972cf7bbfb2e5dc", func := "musette/musettelaw08.SheetWorst", spec := "sheetWorst", unfollowed := true, recurses := true, named := ["math/bits.deBruijn32tab", "math/bits.deBruijn64tab"], plainKeys := false, apart := false, laid := [("math/bits.deBruijn32tab", laid_math_bits_deBruijn32tab), ("math/bits.deBruijn64tab", laid_math_bits_deBruijn64tab)], narrowed := true }
def SheetWorstUptoSaid : Prop := sheetWorstUptoRow.holds Tryd.pinned (OpenSpec.upto sheetWorstSpec)

/-- 'musettelaw08.SheetPlans', WHERE WHAT IT READS IS OF BULK AT MOST 1048576: true; the input reads as it did. -/
def sheetPlansUptoRow : OpenClaim := { program := "ytehpcclfgjccbaadoor", sum := "b1ee8fd6d5c927fae5583c3bc7f7eb2368983ba96c1be3c03972cf7bbfb2e5dc", func := "musette/musettelaw08.SheetPlans", spec := "sheetPlans", unfollowed := true, recurses := true, named := ["math/bits.deBruijn32tab", "math/bits.deBruijn64tab"], plainKeys := false, apart := false, laid := [("math/bits.deBruijn32tab", laid_math_bits_deBruijn32tab), ("math/bits.deBruijn64tab", laid_math_bits_deBruijn64tab)], narrowed := true }
def SheetPlansUptoSaid : Prop := sheetPlansUptoRow.holds Tryd.pinned (OpenSpec.upto sheetPlansSpec)

/-- 'musettelaw08.SheetOrdered', WHERE WHAT IT READS IS OF BULK AT MOST 1048576: true; the input reads as it did. -/
def sheetOrderedUptoRow : OpenClaim := { program := "ytehpcclfgjccbaadoor", sum := "b1ee8fd6d5c927fae5583c3bc7f7eb2368983ba96c1be3c03972cf7bbfb2e5dc", func := "musette/musettelaw08.SheetOrdered", spec := "sheetOrdered", unfollowed := true, recurses := true, named := ["math/bits.deBruijn32tab", "math/bits.deBruijn64tab"], plainKeys := false, apart := false, laid := [("math/bits.deBruijn32tab", laid_math_bits_deBruijn32tab), ("math/bits.deBruijn64tab", laid_math_bits_deBruijn64tab)], narrowed := true }
def SheetOrderedUptoSaid : Prop := sheetOrderedUptoRow.holds Tryd.pinned (OpenSpec.upto sheetOrderedSpec)

/-- 'musettelaw08.SheetNumbers', WHERE WHAT IT READS IS OF BULK AT MOST 1048576: true; the input reads as it did. -/
def sheetNumbersUptoRow : OpenClaim := { program := "ytehpcclfgjccbaadoor", sum := "b1ee8fd6d5c927fae5583c3bc7f7eb2368983ba96c1be3c03972cf7bbfb2e5dc", func := "musette/musettelaw08.SheetNumbers", spec := "sheetNumbers", unfollowed := true, recurses := true, named := ["math/bits.deBruijn32tab", "math/bits.deBruijn64tab"], plainKeys := false, apart := false, laid := [("math/bits.deBruijn32tab", laid_math_bits_deBruijn32tab), ("math/bits.deBruijn64tab", laid_math_bits_deBruijn64tab)], narrowed := true }
def SheetNumbersUptoSaid : Prop := sheetNumbersUptoRow.holds Tryd.pinned (OpenSpec.upto sheetNumbersSpec)

/-- 'musettelaw08.SheetSpares', WHERE WHAT IT READS IS OF BULK AT MOST 1048576: true; the input reads as it did. -/
def sheetSparesUptoRow : OpenClaim := { program := "ytehpcclfgjccbaadoor", sum := "b1ee8fd6d5c927fae5583c3bc7f7eb2368983ba96c1be3c03972cf7bbfb2e5dc", func := "musette/musettelaw08.SheetSpares", spec := "sheetSpares", unfollowed := true, recurses := true, named := ["math/bits.deBruijn32tab", "math/bits.deBruijn64tab"], plainKeys := false, apart := false, laid := [("math/bits.deBruijn32tab", laid_math_bits_deBruijn32tab), ("math/bits.deBruijn64tab", laid_math_bits_deBruijn64tab)], narrowed := true }
def SheetSparesUptoSaid : Prop := sheetSparesUptoRow.holds Tryd.pinned (OpenSpec.upto sheetSparesSpec)

/-- 'musettelaw08.SheetSizes', WHERE WHAT IT READS IS OF BULK AT MOST 1048576: true; the input reads as it did. -/
def sheetSizesUptoRow : OpenClaim := { program := "ytehpcclfgjccbaadoor", sum := "b1ee8fd6d5c927fae5583c3bc7f7eb2368983ba96c1be3c03972cf7bbfb2e5dc", func := "musette/musettelaw08.SheetSizes", spec := "sheetSizes", unfollowed := true, recurses := true, named := ["math/bits.deBruijn32tab", "math/bits.deBruijn64tab"], plainKeys := false, apart := false, laid := [("math/bits.deBruijn32tab", laid_math_bits_deBruijn32tab), ("math/bits.deBruijn64tab", laid_math_bits_deBruijn64tab)], narrowed := true }
def SheetSizesUptoSaid : Prop := sheetSizesUptoRow.holds Tryd.pinned (OpenSpec.upto sheetSizesSpec)

/-- 'musettelaw08.SheetPlanned', WHERE WHAT IT READS IS OF BULK AT MOST 1048576: true; the input reads as it did. -/
def sheetPlannedUptoRow : OpenClaim := { program := "ytehpcclfgjccbaadoor", sum := "b1ee8fd6d5c927fae5583c3bc7f7eb2368983ba96c1be3c03972cf7bbfb2e5dc", func := "musette/musettelaw08.SheetPlanned", spec := "sheetPlanned", unfollowed := true, recurses := true, named := ["math/bits.deBruijn32tab", "math/bits.deBruijn64tab"], plainKeys := false, apart := false, laid := [("math/bits.deBruijn32tab", laid_math_bits_deBruijn32tab), ("math/bits.deBruijn64tab", laid_math_bits_deBruijn64tab)], narrowed := true }
def SheetPlannedUptoSaid : Prop := sheetPlannedUptoRow.holds Tryd.pinned (OpenSpec.upto sheetPlannedSpec)

/-- 'musettelaw08.SheetBound', WHERE WHAT IT READS IS OF BULK AT MOST 1048576: true; the input reads as it did. -/
def sheetBoundUptoRow : OpenClaim := { program := "ytehpcclfgjccbaadoor", sum := "b1ee8fd6d5c927fae5583c3bc7f7eb2368983ba96c1be3c03972cf7bbfb2e5dc", func := "musette/musettelaw08.SheetBound", spec := "sheetBound", unfollowed := true, recurses := true, named := ["math/bits.deBruijn32tab", "math/bits.deBruijn64tab"], plainKeys := false, apart := false, laid := [("math/bits.deBruijn32tab", laid_math_bits_deBruijn32tab), ("math/bits.deBruijn64tab", laid_math_bits_deBruijn64tab)], narrowed := true }
def SheetBoundUptoSaid : Prop := sheetBoundUptoRow.holds Tryd.pinned (OpenSpec.upto sheetBoundSpec)

/-- 'musettelaw08.SheetTurned', WHERE WHAT IT READS IS OF BULK AT MOST 1048576: true; the input reads as it did. -/
def sheetTurnedUptoRow : OpenClaim := { program := "ytehpcclfgjccbaadoor", sum := "b1ee8fd6d5c927fae5583c3bc7f7eb2368983ba96c1be3c03972cf7bbfb2e5dc", func := "musette/musettelaw08.SheetTurned", spec := "sheetTurned", unfollowed := true, recurses := true, named := ["math/bits.deBruijn32tab", "math/bits.deBruijn64tab"], plainKeys := false, apart := false, laid := [("math/bits.deBruijn32tab", laid_math_bits_deBruijn32tab), ("math/bits.deBruijn64tab", laid_math_bits_deBruijn64tab)], narrowed := true }
def SheetTurnedUptoSaid : Prop := sheetTurnedUptoRow.holds Tryd.pinned (OpenSpec.upto sheetTurnedSpec)

end Rows
end Go.Proofs.YtehpcclfgjccbaaDoor

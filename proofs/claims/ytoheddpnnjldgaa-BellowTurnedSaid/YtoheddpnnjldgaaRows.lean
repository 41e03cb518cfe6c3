/-
  No cell of these rows narrows 'for every input' (looked for: loops, veiled, ifaces, maps, wideKeys, modest, calm, conditions, laid).
  DERIVED. THE GIVEN ROWS OF THIS SEAT. 12 by the template 'for every input the law returns true; each argument reads behind the call as it read before'; 0 by the template 'total and deterministic' (their statements: YtoheddpnnjldgaaTotals.lean).
  GIVEN WITH THE SEED: the statements are not yours to turn. If you find one false, say at which input.
  Laid BY PROGRAM, IN A SANDBOX (cutbox-rows.mjs): the forced cells as the released guide's own fill.sh prints them over the translation 2085c90daf622d43… (all of the seat's roots in one cut). By AI agents, Wed Nov 11 2026. No macro, syntax, notation, axiom, sorry.
-/
import Derived.Test.YtoheddpnnjldgaaChecked
import GoSem.Claim
import GoSem.ClaimJoined
import GoSem.ClaimMapViews
import Derived.JoinedTies
import Derived.KernelRfl
namespace Go.Proofs.Ytoheddpnnjldgaa
/- THE CELL 'sum', in the pinned program and in every row, IS THE sha256 OF THE DUMP (.gsa) THAT YtoheddpnnjldgaaProg.lean LOADS. Nothing in Lean hashes anything: it is a label: what it is worth is what the hold of that sum in a sandbox is worth. -/
noncomputable def Try.pinned : Pinned := { name := "ytoheddpnnjldgaa", sum := "2085c90daf622d4304cc2c38a9fea71be983e7d40d64a8a3f1774d001a9924c6", checked := Try.checked }
namespace Rows
def none {H : Type} : Left H := { results := [], args := [] }

/-- 'musettelaw04.BellowHolds': WHATEVER THE INPUT: true; the input reads as it did. -/
def bellowHoldsSpec : ChangeSpec := { name := "bellowHolds", fn := fun _ => fun
  | [d1, d2, d3, d4] => { results := [.lit (.bool true)], args := [d1, d2, d3, d4] }
  | _ => none }
def bellowHoldsRow : OpenClaim := { program := "ytoheddpnnjldgaa", sum := "2085c90daf622d4304cc2c38a9fea71be983e7d40d64a8a3f1774d001a9924c6", func := "musette/musettelaw04.BellowHolds", spec := "bellowHolds", unfollowed := true, recurses := true, leaving := true, apart := false }
def BellowHoldsSaid : Prop := bellowHoldsRow.holds Try.pinned (OpenSpec.ofChange bellowHoldsSpec)

/-- ITS FALSE NEIGHBOUR: 'it returns false'. Refute it at one input. -/
def bellowHoldsWrong : ChangeSpec := { name := "bellowHolds", fn := fun _ => fun
  | [d1, d2, d3, d4] => { results := [.lit (.bool false)], args := [d1, d2, d3, d4] }
  | _ => none }
def BellowHoldsWrongFalsely : Prop := bellowHoldsRow.holds Try.pinned (OpenSpec.ofChange bellowHoldsWrong)

/-- 'musettelaw04.BellowStuck': WHATEVER THE INPUT: true; the input reads as it did. -/
def bellowStuckSpec : ChangeSpec := { name := "bellowStuck", fn := fun _ => fun
  | [d] => { results := [.lit (.bool true)], args := [d] }
  | _ => none }
def bellowStuckRow : OpenClaim := { program := "ytoheddpnnjldgaa", sum := "2085c90daf622d4304cc2c38a9fea71be983e7d40d64a8a3f1774d001a9924c6", func := "musette/musettelaw04.BellowStuck", spec := "bellowStuck", unfollowed := true, recurses := true, leaving := true, apart := false }
def BellowStuckSaid : Prop := bellowStuckRow.holds Try.pinned (OpenSpec.ofChange bellowStuckSpec)

/-- ITS FALSE NEIGHBOUR: 'it returns false'. Refute it at one input. -/
def bellowStuckWrong : ChangeSpec := { name := "bellowStuck", fn := fun _ => fun
  | [d] => { results := [.lit (.bool false)], args := [d] }
  | _ => none }
def BellowStuckWrongFalsely : Prop := bellowStuckRow.holds Try.pinned (OpenSpec.ofChange bellowStuckWrong)

/-- 'musettelaw04.BellowRested': WHATEVER THE INPUT: true; the input reads as it did. -/
def bellowRestedSpec : ChangeSpec := { name := "bellowRested", fn := fun _ => fun
  | [d] => { results := [.lit (.bool true)], args := [d] }
  | _ => none }
def bellowRestedRow : OpenClaim := { program := "ytoheddpnnjldgaa", sum := "2085c90daf622d4304cc2c38a9fea71be983e7d40d64a8a3f1774d001a9924c6", func := "musette/musettelaw04.BellowRested", spec := "bellowRested", unfollowed := true, recurses := true, leaving := true, apart := false }
def BellowRestedSaid : Prop := bellowRestedRow.holds Try.pinned (OpenSpec.ofChange bellowRestedSpec)

/-- ITS FALSE NEIGHBOUR: 'it returns false'. Refute it at one input. -/
def bellowRestedWrong : ChangeSpec := { name := "bellowRested", fn := fun _ => fun
  | [d] => { results := [.lit (.bool false)], args := [d] }
  | _ => none }
def BellowRestedWrongFalsely : Prop := bellowRestedRow.holds Try.pinned (OpenSpec.ofChange bellowRestedWrong)

/-- 'musettelaw04.BellowLevels': WHATEVER THE INPUT: true; the input reads as it did. -/
def bellowLevelsSpec : ChangeSpec := { name := "bellowLevels", fn := fun _ => fun
  | [d1, d2, d3, d4, d5, d6] => { results := [.lit (.bool true)], args := [d1, d2, d3, d4, d5, d6] }
  | _ => none }
def bellowLevelsRow : OpenClaim := { program := "ytoheddpnnjldgaa", sum := "2085c90daf622d4304cc2c38a9fea71be983e7d40d64a8a3f1774d001a9924c6", func := "musette/musettelaw04.BellowLevels", spec := "bellowLevels", unfollowed := true, recurses := true, leaving := true, apart := false }
def BellowLevelsSaid : Prop := bellowLevelsRow.holds Try.pinned (OpenSpec.ofChange bellowLevelsSpec)

/-- ITS FALSE NEIGHBOUR: 'it returns false'. Refute it at one input. -/
def bellowLevelsWrong : ChangeSpec := { name := "bellowLevels", fn := fun _ => fun
  | [d1, d2, d3, d4, d5, d6] => { results := [.lit (.bool false)], args := [d1, d2, d3, d4, d5, d6] }
  | _ => none }
def BellowLevelsWrongFalsely : Prop := bellowLevelsRow.holds Try.pinned (OpenSpec.ofChange bellowLevelsWrong)

/-- 'musettelaw04.BellowHeld': WHATEVER THE INPUT: true; the input reads as it did. -/
def bellowHeldSpec : ChangeSpec := { name := "bellowHeld", fn := fun _ => fun
  | [d] => { results := [.lit (.bool true)], args := [d] }
  | _ => none }
def bellowHeldRow : OpenClaim := { program := "ytoheddpnnjldgaa", sum := "2085c90daf622d4304cc2c38a9fea71be983e7d40d64a8a3f1774d001a9924c6", func := "musette/musettelaw04.BellowHeld", spec := "bellowHeld", unfollowed := true, recurses := true, leaving := true, apart := false }
def BellowHeldSaid : Prop := bellowHeldRow.holds Try.pinned (OpenSpec.ofChange bellowHeldSpec)

/-- ITS FALSE NEIGHBOUR: 'it returns false'. Refute it at one input. -/
def bellowHeldWrong : ChangeSpec := { name := "bellowHeld", fn := fun _ => fun
  | [d] => { results := [.lit (.bool false)], args := [d] }
  | _ => none }
def BellowHeldWrongFalsely : Prop := bellowHeldRow.holds Try.pinned (OpenSpec.ofChange bellowHeldWrong)

/-- 'musettelaw04.BellowTighter': WHATEVER THE INPUT: true; the input reads as it did. -/
def bellowTighterSpec : ChangeSpec := { name := "bellowTighter", fn := fun _ => fun
  | [d] => { results := [.lit (.bool true)], args := [d] }
  | _ => none }
def bellowTighterRow : OpenClaim := { program := "ytoheddpnnjldgaa", sum := "2085c90daf622d4304cc2c38a9fea71be983e7d40d64a8a3f1774d001a9924c6", func := "musette/musettelaw04.BellowTighter", spec := "bellowTighter", unfollowed := true, recurses := true, leaving := true, apart := false }
def BellowTighterSaid : Prop := bellowTighterRow.holds Try.pinned (OpenSpec.ofChange bellowTighterSpec)

/-- ITS FALSE NEIGHBOUR: 'it returns false'. Refute it at one input. -/
def bellowTighterWrong : ChangeSpec := { name := "bellowTighter", fn := fun _ => fun
  | [d] => { results := [.lit (.bool false)], args := [d] }
  | _ => none }
def BellowTighterWrongFalsely : Prop := bellowTighterRow.holds Try.pinned (OpenSpec.ofChange bellowTighterWrong)

/-- 'musettelaw04.BellowMirrored': WHATEVER THE INPUT: true; the input reads as it did. -/
def bellowMirroredSpec : ChangeSpec := { name := "bellowMirrored", fn := fun _ => fun
  | [d] => { results := [.lit (.bool true)], args := [d] }
  | _ => none }
def bellowMirroredRow : OpenClaim := { program := "ytoheddpnnjldgaa", sum := "2085c90daf622d4304cc2c38a9fea71be983e7d40d64a8a3f1774d001a9924c6", func := "musette/musettelaw04.BellowMirrored", spec := "bellowMirrored", unfollowed := true, recurses := true, leaving := true, apart := false }
def BellowMirroredSaid : Prop := bellowMirroredRow.holds Try.pinned (OpenSpec.ofChange bellowMirroredSpec)

/-- ITS FALSE NEIGHBOUR: 'it returns false'. Refute it at one input. -/
def bellowMirroredWrong : ChangeSpec := { name := "bellowMirrored", fn := fun _ => fun
  | [d] => { results := [.lit (.bool false)], args := [d] }
  | _ => none }
def BellowMirroredWrongFalsely : Prop := bellowMirroredRow.holds Try.pinned (OpenSpec.ofChange bellowMirroredWrong)

/-- 'musettelaw04.BellowSplit': WHATEVER THE INPUT: true; the input reads as it did. -/
def bellowSplitSpec : ChangeSpec := { name := "bellowSplit", fn := fun _ => fun
  | [d] => { results := [.lit (.bool true)], args := [d] }
  | _ => none }
def bellowSplitRow : OpenClaim := { program := "ytoheddpnnjldgaa", sum := "2085c90daf622d4304cc2c38a9fea71be983e7d40d64a8a3f1774d001a9924c6", func := "musette/musettelaw04.BellowSplit", spec := "bellowSplit", unfollowed := true, recurses := true, leaving := true, apart := false }
def BellowSplitSaid : Prop := bellowSplitRow.holds Try.pinned (OpenSpec.ofChange bellowSplitSpec)

/-- ITS FALSE NEIGHBOUR: 'it returns false'. Refute it at one input. -/
def bellowSplitWrong : ChangeSpec := { name := "bellowSplit", fn := fun _ => fun
  | [d] => { results := [.lit (.bool false)], args := [d] }
  | _ => none }
def BellowSplitWrongFalsely : Prop := bellowSplitRow.holds Try.pinned (OpenSpec.ofChange bellowSplitWrong)

/-- 'musettelaw04.BellowTurned': WHATEVER THE INPUT: true; the input reads as it did. -/
def bellowTurnedSpec : ChangeSpec := { name := "bellowTurned", fn := fun _ => fun
  | [d] => { results := [.lit (.bool true)], args := [d] }
  | _ => none }
def bellowTurnedRow : OpenClaim := { program := "ytoheddpnnjldgaa", sum := "2085c90daf622d4304cc2c38a9fea71be983e7d40d64a8a3f1774d001a9924c6", func := "musette/musettelaw04.BellowTurned", spec := "bellowTurned", unfollowed := true, recurses := true, leaving := true, apart := false }
def BellowTurnedSaid : Prop := bellowTurnedRow.holds Try.pinned (OpenSpec.ofChange bellowTurnedSpec)

/-- ITS FALSE NEIGHBOUR: 'it returns false'. Refute it at one input. -/
def bellowTurnedWrong : ChangeSpec := { name := "bellowTurned", fn := fun _ => fun
  | [d] => { results := [.lit (.bool false)], args := [d] }
  | _ => none }
def BellowTurnedWrongFalsely : Prop := bellowTurnedRow.holds Try.pinned (OpenSpec.ofChange bellowTurnedWrong)

/-- 'musettelaw04.BellowLeaks': WHATEVER THE INPUT: true; the input reads as it did. -/
def bellowLeaksSpec : ChangeSpec := { name := "bellowLeaks", fn := fun _ => fun
  | [d1, d2, d3] => { results := [.lit (.bool true)], args := [d1, d2, d3] }
  | _ => none }
def bellowLeaksRow : OpenClaim := { program := "ytoheddpnnjldgaa", sum := "2085c90daf622d4304cc2c38a9fea71be983e7d40d64a8a3f1774d001a9924c6", func := "musette/musettelaw04.BellowLeaks", spec := "bellowLeaks", unfollowed := true, recurses := true, leaving := true, apart := false }
def BellowLeaksSaid : Prop := bellowLeaksRow.holds Try.pinned (OpenSpec.ofChange bellowLeaksSpec)

/-- ITS FALSE NEIGHBOUR: 'it returns false'. Refute it at one input. -/
def bellowLeaksWrong : ChangeSpec := { name := "bellowLeaks", fn := fun _ => fun
  | [d1, d2, d3] => { results := [.lit (.bool false)], args := [d1, d2, d3] }
  | _ => none }
def BellowLeaksWrongFalsely : Prop := bellowLeaksRow.holds Try.pinned (OpenSpec.ofChange bellowLeaksWrong)

/-- 'musettelaw04.BellowTrue': WHATEVER THE INPUT: true; the input reads as it did. -/
def bellowTrueSpec : ChangeSpec := { name := "bellowTrue", fn := fun _ => fun
  | [d] => { results := [.lit (.bool true)], args := [d] }
  | _ => none }
def bellowTrueRow : OpenClaim := { program := "ytoheddpnnjldgaa", sum := "2085c90daf622d4304cc2c38a9fea71be983e7d40d64a8a3f1774d001a9924c6", func := "musette/musettelaw04.BellowTrue", spec := "bellowTrue", unfollowed := true, recurses := true, leaving := true, apart := false }
def BellowTrueSaid : Prop := bellowTrueRow.holds Try.pinned (OpenSpec.ofChange bellowTrueSpec)

/-- ITS FALSE NEIGHBOUR: 'it returns false'. Refute it at one input. -/
def bellowTrueWrong : ChangeSpec := { name := "bellowTrue", fn := fun _ => fun
  | [d] => { results := [.lit (.bool false)], args := [d] }
  | _ => none }
def BellowTrueWrongFalsely : Prop := bellowTrueRow.holds Try.pinned (OpenSpec.ofChange bellowTrueWrong)

/-- 'musettelaw04.BellowAll': WHATEVER THE INPUT: true; the input reads as it did. -/
def bellowAllSpec : ChangeSpec := { name := "bellowAll", fn := fun _ => fun
  | [d] => { results := [.lit (.bool true)], args := [d] }
  | _ => none }
def bellowAllRow : OpenClaim := { program := "ytoheddpnnjldgaa", sum := "2085c90daf622d4304cc2c38a9fea71be983e7d40d64a8a3f1774d001a9924c6", func := "musette/musettelaw04.BellowAll", spec := "bellowAll", unfollowed := true, recurses := true, leaving := true, apart := false }
def BellowAllSaid : Prop := bellowAllRow.holds Try.pinned (OpenSpec.ofChange bellowAllSpec)

/-- ITS FALSE NEIGHBOUR: 'it returns false'. Refute it at one input. -/
def bellowAllWrong : ChangeSpec := { name := "bellowAll", fn := fun _ => fun
  | [d] => { results := [.lit (.bool false)], args := [d] }
  | _ => none }
def BellowAllWrongFalsely : Prop := bellowAllRow.holds Try.pinned (OpenSpec.ofChange bellowAllWrong)

/- THE SECOND FORM. 'bulk': how many values and letters a reading holds, each counted each time it is reached (what is shared counts as often as it is met; a slice's spare places count too). A statement '..UptoSaid' is the law's where the arguments, and the package variables that the reading takes, are together of bulk at most 1048576: NARROWER than '..Said'. Prove '..Said' where nothing that the law and all that it calls make is longer than what came in: it says more and counts as full. Else prove '..UptoSaid'. A law counts once. -/
mutual
def uptoBulk {H : Type} : DataW H → Nat
  | .lit (.string bytes) => bytes.length + 1
  | .lit _ => 1
  | .nil => 1
  | .ptr d => uptoBulk d + 1
  | .slice elems spare => uptoBulkAll elems + uptoBulkAll spare + 1
  | .agg parts => uptoBulkAll parts + 1
  | .iface _ d => uptoBulk d + 1
  | .map entries => uptoBulkEntries entries + 1
  | .held _ => 1
def uptoBulkAll {H : Type} : List (DataW H) → Nat
  | [] => 0
  | d :: r => uptoBulk d + uptoBulkAll r
def uptoBulkEntries {H : Type} : List (Lit × DataW H) → Nat
  | [] => 0
  | x :: r => uptoBulkEntry x + uptoBulkEntries r
def uptoBulkEntry {H : Type} : Lit × DataW H → Nat
  | (.string bytes, d) => bytes.length + uptoBulk d + 1
  | (_, d) => uptoBulk d + 1
 end
def uptoSmall : (H : Type) → List (DataW H) → Bool := fun _ ds => decide (uptoBulkAll ds ≤ 1048576)
def OpenSpec.upto (s : _root_.Go.ChangeSpec) : _root_.Go.OpenSpec := { _root_.Go.OpenSpec.ofChange s with cond := some uptoSmall }

/-- 'musettelaw04.BellowHolds', WHERE WHAT IT READS IS OF BULK AT MOST 1048576: true; the input reads as it did. -/
def bellowHoldsUptoRow : OpenClaim := { program := "ytoheddpnnjldgaa", sum := "2085c90daf622d4304cc2c38a9fea71be983e7d40d64a8a3f1774d001a9924c6", func := "musette/musettelaw04.BellowHolds", spec := "bellowHolds", unfollowed := true, recurses := true, leaving := true, apart := false, narrowed := true }
def BellowHoldsUptoSaid : Prop := bellowHoldsUptoRow.holds Try.pinned (OpenSpec.upto bellowHoldsSpec)

/-- 'musettelaw04.BellowStuck', WHERE WHAT IT READS IS OF BULK AT MOST 1048576: true; the input reads as it did. -/
def bellowStuckUptoRow : OpenClaim := { program := "ytoheddpnnjldgaa", sum := "2085c90daf622d4304cc2c38a9fea71be983e7d40d64a8a3f1774d001a9924c6", func := "musette/musettelaw04.BellowStuck", spec := "bellowStuck", unfollowed := true, recurses := true, leaving := true, apart := false, narrowed := true }
def BellowStuckUptoSaid : Prop := bellowStuckUptoRow.holds Try.pinned (OpenSpec.upto bellowStuckSpec)

/-- 'musettelaw04.BellowRested', WHERE WHAT IT READS IS OF BULK AT MOST 1048576: true; the input reads as it did. -/
def bellowRestedUptoRow : OpenClaim := { program := "ytoheddpnnjldgaa", sum := "2085c90daf622d4304cc2c38a9fea71be983e7d40d64a8a3f1774d001a9924c6", func := "musette/musettelaw04.BellowRested", spec := "bellowRested", unfollowed := true, recurses := true, leaving := true, apart := false, narrowed := true }
def BellowRestedUptoSaid : Prop := bellowRestedUptoRow.holds Try.pinned (OpenSpec.upto bellowRestedSpec)

/-- 'musettelaw04.BellowLevels', WHERE WHAT IT READS IS OF BULK AT MOST 1048576: true; the input reads as it did. -/
def bellowLevelsUptoRow : OpenClaim := { program := "ytoheddpnnjldgaa", sum := "2085c90daf622d4304cc2c38a9fea71be983e7d40d64a8a3f1774d001a9924c6", func := "musette/musettelaw04.BellowLevels", spec := "bellowLevels", unfollowed := true, recurses := true, leaving := true, apart := false, narrowed := true }
def BellowLevelsUptoSaid : Prop := bellowLevelsUptoRow.holds Try.pinned (OpenSpec.upto bellowLevelsSpec)

/-- 'musettelaw04.BellowHeld', WHERE WHAT IT READS IS OF BULK AT MOST 1048576: true; the input reads as it did. -/
def bellowHeldUptoRow : OpenClaim := { program := "ytoheddpnnjldgaa", sum := "2085c90daf622d4304cc2c38a9fea71be983e7d40d64a8a3f1774d001a9924c6", func := "musette/musettelaw04.BellowHeld", spec := "bellowHeld", unfollowed := true, recurses := true, leaving := true, apart := false, narrowed := true }
def BellowHeldUptoSaid : Prop := bellowHeldUptoRow.holds Try.pinned (OpenSpec.upto bellowHeldSpec)

/-- 'musettelaw04.BellowTighter', WHERE WHAT IT READS IS OF BULK AT MOST 1048576: true; the input reads as it did. -/
def bellowTighterUptoRow : OpenClaim := { program := "ytoheddpnnjldgaa", sum := "2085c90daf622d4304cc2c38a9fea71be983e7d40d64a8a3f1774d001a9924c6", func := "musette/musettelaw04.BellowTighter", spec := "bellowTighter", unfollowed := true, recurses := true, leaving := true, apart := false, narrowed := true }
def BellowTighterUptoSaid : Prop := bellowTighterUptoRow.holds Try.pinned (OpenSpec.upto bellowTighterSpec)

/-- 'musettelaw04.BellowMirrored', WHERE WHAT IT READS IS OF BULK AT MOST 1048576: true; the input reads as it did. -/
def bellowMirroredUptoRow : OpenClaim := { program := "ytoheddpnnjldgaa", sum := "2085c90daf622d4304cc2c38a9fea71be983e7d40d64a8a3f1774d001a9924c6", func := "musette/musettelaw04.BellowMirrored", spec := "bellowMirrored", unfollowed := true, recurses := true, leaving := true, apart := false, narrowed := true }
def BellowMirroredUptoSaid : Prop := bellowMirroredUptoRow.holds Try.pinned (OpenSpec.upto bellowMirroredSpec)

/-- 'musettelaw04.BellowSplit', WHERE WHAT IT READS IS OF BULK AT MOST 1048576: true; the input reads as it did. -/
def bellowSplitUptoRow : OpenClaim := { program := "ytoheddpnnjldgaa", sum := "2085c90daf622d4304cc2c38a9fea71be983e7d40d64a8a3f1774d001a9924c6", func := "musette/musettelaw04.BellowSplit", spec := "bellowSplit", unfollowed := true, recurses := true, leaving := true, apart := false, narrowed := true }
def BellowSplitUptoSaid : Prop := bellowSplitUptoRow.holds Try.pinned (OpenSpec.upto bellowSplitSpec)

/-- 'musettelaw04.BellowTurned', WHERE WHAT IT READS IS OF BULK AT MOST 1048576: true; the input reads as it did. -/
def bellowTurnedUptoRow : OpenClaim := { program := "ytoheddpnnjldgaa", sum := "2085c90daf622d4304cc2c38a9fea71be983e7d40d64a8a3f1774d001a9924c6", func := "musette/musettelaw04.BellowTurned", spec := "bellowTurned", unfollowed := true, recurses := true, leaving := true, apart := false, narrowed := true }
def BellowTurnedUptoSaid : Prop := bellowTurnedUptoRow.holds Try.pinned (OpenSpec.upto bellowTurnedSpec)

/-- 'musettelaw04.BellowLeaks', WHERE WHAT IT READS IS OF BULK AT MOST 1048576: true; the input reads as it did. -/
def bellowLeaksUptoRow : OpenClaim := { program := "ytoheddpnnjldgaa", sum := "2085c90daf622d4304cc2c38a9fea71be983e7d40d64a8a3f1774d001a9924c6", func := "musette/musettelaw04.BellowLeaks", spec := "bellowLeaks", unfollowed := true, recurses := true, leaving := true, apart := false, narrowed := true }
def BellowLeaksUptoSaid : Prop := bellowLeaksUptoRow.holds Try.pinned (OpenSpec.upto bellowLeaksSpec)

/-- 'musettelaw04.BellowTrue', WHERE WHAT IT READS IS OF BULK AT MOST 1048576: true; the input reads as it did. -/
def bellowTrueUptoRow : OpenClaim := { program := "ytoheddpnnjldgaa", sum := "2085c90daf622d4304cc2c38a9fea71be983e7d40d64a8a3f1774d001a9924c6", func := "musette/musettelaw04.BellowTrue", spec := "bellowTrue", unfollowed := true, recurses := true, leaving := true, apart := false, narrowed := true }
def BellowTrueUptoSaid : Prop := bellowTrueUptoRow.holds Try.pinned (OpenSpec.upto bellowTrueSpec)

/-- 'musettelaw04.BellowAll', WHERE WHAT IT READS IS OF BULK AT MOST 1048576: true; the input reads as it did. -/
def bellowAllUptoRow : OpenClaim := { program := "ytoheddpnnjldgaa", sum := "2085c90daf622d4304cc2c38a9fea71be983e7d40d64a8a3f1774d001a9924c6", func := "musette/musettelaw04.BellowAll", spec := "bellowAll", unfollowed := true, recurses := true, leaving := true, apart := false, narrowed := true }
def BellowAllUptoSaid : Prop := bellowAllUptoRow.holds Try.pinned (OpenSpec.upto bellowAllSpec)

end Rows
end Go.Proofs.Ytoheddpnnjldgaa

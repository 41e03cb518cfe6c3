/-
  No cell of these rows narrows 'for every input' (looked for: loops, veiled, ifaces, maps, wideKeys, modest, calm, conditions, laid).
  DERIVED. THE GIVEN ROWS OF THIS SEAT. 9 by the template 'for every input the law returns true; each argument reads behind the call as it read before'; 0 by the template 'total and deterministic' (their statements: YtlahdenlmmlplaaTotals.lean).
  GIVEN WITH THE SEED: the statements are not yours to turn. If you find one false, say at which input.
  Laid BY PROGRAM, IN A SANDBOX (cutbox-rows.mjs): the forced cells as the released guide's own fill.sh prints them over the translation ed1182ad2a1c366f… (all of the seat's roots in one cut). By AI agents, Wed Nov 11 2026. No macro, syntax, notation, axiom, sorry.
-/
import Derived.Test.YtlahdenlmmlplaaChecked
import GoSem.Claim
import GoSem.ClaimJoined
import GoSem.ClaimMapViews
import Derived.JoinedTies
import Derived.KernelRfl
namespace Go.Proofs.Ytlahdenlmmlplaa
/- THE CELL 'sum', in the pinned program and in every row, IS THE sha256 OF THE DUMP (.gsa) THAT YtlahdenlmmlplaaProg.lean LOADS. Nothing in Lean hashes anything: it is a label: what it is worth is what the hold of that sum in a sandbox is worth. -/
noncomputable def Try.pinned : Pinned := { name := "ytlahdenlmmlplaa", sum := "ed1182ad2a1c366f85d3f1a73e9b760e972e91bf0e1f595fcd2519add82bb0c9", checked := Try.checked }
namespace Rows
def none {H : Type} : Left H := { results := [], args := [] }

/-- 'musettelaw05.VoiceRows': WHATEVER THE INPUT: true; the input reads as it did. -/
def voiceRowsSpec : ChangeSpec := { name := "voiceRows", fn := fun _ => fun
  | [d] => { results := [.lit (.bool true)], args := [d] }
  | _ => none }
def voiceRowsRow : OpenClaim := { program := "ytlahdenlmmlplaa", sum := "ed1182ad2a1c366f85d3f1a73e9b760e972e91bf0e1f595fcd2519add82bb0c9", func := "musette/musettelaw05.VoiceRows", spec := "voiceRows", unfollowed := true, recurses := true, plainKeys := false, apart := false }
def VoiceRowsSaid : Prop := voiceRowsRow.holds Try.pinned (OpenSpec.ofChange voiceRowsSpec)

/-- ITS FALSE NEIGHBOUR: 'it returns false'. Refute it at one input. -/
def voiceRowsWrong : ChangeSpec := { name := "voiceRows", fn := fun _ => fun
  | [d] => { results := [.lit (.bool false)], args := [d] }
  | _ => none }
def VoiceRowsWrongFalsely : Prop := voiceRowsRow.holds Try.pinned (OpenSpec.ofChange voiceRowsWrong)

/-- 'musettelaw05.VoiceAll': WHATEVER THE INPUT: true; the input reads as it did. -/
def voiceAllSpec : ChangeSpec := { name := "voiceAll", fn := fun _ => fun
  | [d] => { results := [.lit (.bool true)], args := [d] }
  | _ => none }
def voiceAllRow : OpenClaim := { program := "ytlahdenlmmlplaa", sum := "ed1182ad2a1c366f85d3f1a73e9b760e972e91bf0e1f595fcd2519add82bb0c9", func := "musette/musettelaw05.VoiceAll", spec := "voiceAll", unfollowed := true, recurses := true, plainKeys := false, apart := false }
def VoiceAllSaid : Prop := voiceAllRow.holds Try.pinned (OpenSpec.ofChange voiceAllSpec)

/-- ITS FALSE NEIGHBOUR: 'it returns false'. Refute it at one input. -/
def voiceAllWrong : ChangeSpec := { name := "voiceAll", fn := fun _ => fun
  | [d] => { results := [.lit (.bool false)], args := [d] }
  | _ => none }
def VoiceAllWrongFalsely : Prop := voiceAllRow.holds Try.pinned (OpenSpec.ofChange voiceAllWrong)

/-- 'musettelaw05.VoiceWitness': WHATEVER THE INPUT: true; the input reads as it did. -/
def voiceWitnessSpec : ChangeSpec := { name := "voiceWitness", fn := fun _ => fun
  | [d] => { results := [.lit (.bool true)], args := [d] }
  | _ => none }
def voiceWitnessRow : OpenClaim := { program := "ytlahdenlmmlplaa", sum := "ed1182ad2a1c366f85d3f1a73e9b760e972e91bf0e1f595fcd2519add82bb0c9", func := "musette/musettelaw05.VoiceWitness", spec := "voiceWitness", unfollowed := true, recurses := true, plainKeys := false, apart := false }
def VoiceWitnessSaid : Prop := voiceWitnessRow.holds Try.pinned (OpenSpec.ofChange voiceWitnessSpec)

/-- ITS FALSE NEIGHBOUR: 'it returns false'. Refute it at one input. -/
def voiceWitnessWrong : ChangeSpec := { name := "voiceWitness", fn := fun _ => fun
  | [d] => { results := [.lit (.bool false)], args := [d] }
  | _ => none }
def VoiceWitnessWrongFalsely : Prop := voiceWitnessRow.holds Try.pinned (OpenSpec.ofChange voiceWitnessWrong)

/-- 'musettelaw05.VoiceMost': WHATEVER THE INPUT: true; the input reads as it did. -/
def voiceMostSpec : ChangeSpec := { name := "voiceMost", fn := fun _ => fun
  | [d] => { results := [.lit (.bool true)], args := [d] }
  | _ => none }
def voiceMostRow : OpenClaim := { program := "ytlahdenlmmlplaa", sum := "ed1182ad2a1c366f85d3f1a73e9b760e972e91bf0e1f595fcd2519add82bb0c9", func := "musette/musettelaw05.VoiceMost", spec := "voiceMost", unfollowed := true, recurses := true, plainKeys := false, apart := false }
def VoiceMostSaid : Prop := voiceMostRow.holds Try.pinned (OpenSpec.ofChange voiceMostSpec)

/-- ITS FALSE NEIGHBOUR: 'it returns false'. Refute it at one input. -/
def voiceMostWrong : ChangeSpec := { name := "voiceMost", fn := fun _ => fun
  | [d] => { results := [.lit (.bool false)], args := [d] }
  | _ => none }
def VoiceMostWrongFalsely : Prop := voiceMostRow.holds Try.pinned (OpenSpec.ofChange voiceMostWrong)

/-- 'musettelaw05.VoiceBetter': WHATEVER THE INPUT: true; the input reads as it did. -/
def voiceBetterSpec : ChangeSpec := { name := "voiceBetter", fn := fun _ => fun
  | [d] => { results := [.lit (.bool true)], args := [d] }
  | _ => none }
def voiceBetterRow : OpenClaim := { program := "ytlahdenlmmlplaa", sum := "ed1182ad2a1c366f85d3f1a73e9b760e972e91bf0e1f595fcd2519add82bb0c9", func := "musette/musettelaw05.VoiceBetter", spec := "voiceBetter", unfollowed := true, recurses := true, plainKeys := false, apart := false }
def VoiceBetterSaid : Prop := voiceBetterRow.holds Try.pinned (OpenSpec.ofChange voiceBetterSpec)

/-- ITS FALSE NEIGHBOUR: 'it returns false'. Refute it at one input. -/
def voiceBetterWrong : ChangeSpec := { name := "voiceBetter", fn := fun _ => fun
  | [d] => { results := [.lit (.bool false)], args := [d] }
  | _ => none }
def VoiceBetterWrongFalsely : Prop := voiceBetterRow.holds Try.pinned (OpenSpec.ofChange voiceBetterWrong)

/-- 'musettelaw05.VoiceRaised': WHATEVER THE INPUT: true; the input reads as it did. -/
def voiceRaisedSpec : ChangeSpec := { name := "voiceRaised", fn := fun _ => fun
  | [d] => { results := [.lit (.bool true)], args := [d] }
  | _ => none }
def voiceRaisedRow : OpenClaim := { program := "ytlahdenlmmlplaa", sum := "ed1182ad2a1c366f85d3f1a73e9b760e972e91bf0e1f595fcd2519add82bb0c9", func := "musette/musettelaw05.VoiceRaised", spec := "voiceRaised", unfollowed := true, recurses := true, plainKeys := false, apart := false }
def VoiceRaisedSaid : Prop := voiceRaisedRow.holds Try.pinned (OpenSpec.ofChange voiceRaisedSpec)

/-- ITS FALSE NEIGHBOUR: 'it returns false'. Refute it at one input. -/
def voiceRaisedWrong : ChangeSpec := { name := "voiceRaised", fn := fun _ => fun
  | [d] => { results := [.lit (.bool false)], args := [d] }
  | _ => none }
def VoiceRaisedWrongFalsely : Prop := voiceRaisedRow.holds Try.pinned (OpenSpec.ofChange voiceRaisedWrong)

/-- 'musettelaw05.VoiceTrue': WHATEVER THE INPUT: true; the input reads as it did. -/
def voiceTrueSpec : ChangeSpec := { name := "voiceTrue", fn := fun _ => fun
  | [d] => { results := [.lit (.bool true)], args := [d] }
  | _ => none }
def voiceTrueRow : OpenClaim := { program := "ytlahdenlmmlplaa", sum := "ed1182ad2a1c366f85d3f1a73e9b760e972e91bf0e1f595fcd2519add82bb0c9", func := "musette/musettelaw05.VoiceTrue", spec := "voiceTrue", unfollowed := true, recurses := true, plainKeys := false, apart := false }
def VoiceTrueSaid : Prop := voiceTrueRow.holds Try.pinned (OpenSpec.ofChange voiceTrueSpec)

/-- ITS FALSE NEIGHBOUR: 'it returns false'. Refute it at one input. -/
def voiceTrueWrong : ChangeSpec := { name := "voiceTrue", fn := fun _ => fun
  | [d] => { results := [.lit (.bool false)], args := [d] }
  | _ => none }
def VoiceTrueWrongFalsely : Prop := voiceTrueRow.holds Try.pinned (OpenSpec.ofChange voiceTrueWrong)

/-- 'musettelaw05.VoiceSpan': WHATEVER THE INPUT: true; the input reads as it did. -/
def voiceSpanSpec : ChangeSpec := { name := "voiceSpan", fn := fun _ => fun
  | [d] => { results := [.lit (.bool true)], args := [d] }
  | _ => none }
def voiceSpanRow : OpenClaim := { program := "ytlahdenlmmlplaa", sum := "ed1182ad2a1c366f85d3f1a73e9b760e972e91bf0e1f595fcd2519add82bb0c9", func := "musette/musettelaw05.VoiceSpan", spec := "voiceSpan", unfollowed := true, recurses := true, plainKeys := false, apart := false }
def VoiceSpanSaid : Prop := voiceSpanRow.holds Try.pinned (OpenSpec.ofChange voiceSpanSpec)

/-- ITS FALSE NEIGHBOUR: 'it returns false'. Refute it at one input. -/
def voiceSpanWrong : ChangeSpec := { name := "voiceSpan", fn := fun _ => fun
  | [d] => { results := [.lit (.bool false)], args := [d] }
  | _ => none }
def VoiceSpanWrongFalsely : Prop := voiceSpanRow.holds Try.pinned (OpenSpec.ofChange voiceSpanWrong)

/-- 'musettelaw05.VoiceJob': WHATEVER THE INPUT: true; the input reads as it did. -/
def voiceJobSpec : ChangeSpec := { name := "voiceJob", fn := fun _ => fun
  | [d] => { results := [.lit (.bool true)], args := [d] }
  | _ => none }
def voiceJobRow : OpenClaim := { program := "ytlahdenlmmlplaa", sum := "ed1182ad2a1c366f85d3f1a73e9b760e972e91bf0e1f595fcd2519add82bb0c9", func := "musette/musettelaw05.VoiceJob", spec := "voiceJob", unfollowed := true, recurses := true, plainKeys := false, apart := false }
def VoiceJobSaid : Prop := voiceJobRow.holds Try.pinned (OpenSpec.ofChange voiceJobSpec)

/-- ITS FALSE NEIGHBOUR: 'it returns false'. Refute it at one input. -/
def voiceJobWrong : ChangeSpec := { name := "voiceJob", fn := fun _ => fun
  | [d] => { results := [.lit (.bool false)], args := [d] }
  | _ => none }
def VoiceJobWrongFalsely : Prop := voiceJobRow.holds Try.pinned (OpenSpec.ofChange voiceJobWrong)

/- THE SECOND FORM. 'bulk': how many values and letters a reading holds, each counted each time it is reached (what is shared counts as often as it is met; a slice's spare places count too). A statement '..UptoSaid' is the law's where the arguments, and the package variables that the reading takes, are together of bulk at most 1048576: NARROWER than '..Said'. Prove '..Said' where nothing that the law and all that it calls make is longer than what came in: it says more and counts as full. Else prove '..UptoSaid'. A law counts once. -/
mutual
def uptoBulk {H : Type} : DataW H → Nat
  | .lit (.string bytes) => bytes.length + 1
  | .lit _ => 1
  | .nil => 1
  | .ptr d => uptoBulk d + 1
  | .slice elems spare => uptoBulkAll elems + uptoBulkAll spare + 1
  | .agg parts => uptoBulkAll parts + 1
  | .iface _ d => uptoBulk d + 1
  | .map entries => uptoBulkEntries entries + 1
  | .held _ => 1
def uptoBulkAll {H : Type} : List (DataW H) → Nat
  | [] => 0
  | d :: r => uptoBulk d + uptoBulkAll r
def uptoBulkEntries {H : Type} : List (Lit × DataW H) → Nat
  | [] => 0
  | x :: r => uptoBulkEntry x + uptoBulkEntries r
def uptoBulkEntry {H : Type} : Lit × DataW H → Nat
  | (.string bytes, d) => bytes.length + uptoBulk d + 1
  | (_, d) => uptoBulk d + 1
 end
def uptoSmall : (H : Type) → List (DataW H) → Bool := fun _ ds => decide (uptoBulkAll ds ≤ 1048576)
def OpenSpec.upto (s : _root_.Go.ChangeSpec) : _root_.Go.OpenSpec := { _root_.Go.OpenSpec.ofChange s with cond := some uptoSmall }

/-- 'musettelaw05.VoiceRows', WHERE WHAT IT READS IS OF BULK AT MOST 1048576: true; the input reads as it did. -/
def voiceRowsUptoRow : OpenClaim := { program := "ytlahdenlmmlplaa", sum := "ed1182ad2a1c366f85d3f1a73e9b760e972e91bf0e1f595fcd2519add82bb0c9", func := "musette/musettelaw05.VoiceRows", spec := "voiceRows", unfollowed := true, recurses := true, plainKeys := false, apart := false, narrowed := true }
def VoiceRowsUptoSaid : Prop := voiceRowsUptoRow.holds Try.pinned (OpenSpec.upto voiceRowsSpec)

/-- 'musettelaw05.VoiceAll', WHERE WHAT IT READS IS OF BULK AT MOST 1048576: true; the input reads as it did. -/
def voiceAllUptoRow : OpenClaim := { program := "ytlahdenlmmlplaa", sum := "ed1182ad2a1c366f85d3f1a73e9b760e972e91bf0e1f595fcd2519add82bb0c9", func := "musette/musettelaw05.VoiceAll", spec := "voiceAll", unfollowed := true, recurses := true, plainKeys := false, apart := false, narrowed := true }
def VoiceAllUptoSaid : Prop := voiceAllUptoRow.holds Try.pinned (OpenSpec.upto voiceAllSpec)

/-- 'musettelaw05.VoiceWitness', WHERE WHAT IT READS IS OF BULK AT MOST 1048576: true; the input reads as it did. -/
def voiceWitnessUptoRow : OpenClaim := { program := "ytlahdenlmmlplaa", sum := "ed1182ad2a1c366f85d3f1a73e9b760e972e91bf0e1f595fcd2519add82bb0c9", func := "musette/musettelaw05.VoiceWitness", spec := "voiceWitness", unfollowed := true, recurses := true, plainKeys := false, apart := false, narrowed := true }
def VoiceWitnessUptoSaid : Prop := voiceWitnessUptoRow.holds Try.pinned (OpenSpec.upto voiceWitnessSpec)

/-- 'musettelaw05.VoiceMost', WHERE WHAT IT READS IS OF BULK AT MOST 1048576: true; the input reads as it did. -/
def voiceMostUptoRow : OpenClaim := { program := "ytlahdenlmmlplaa", sum := "ed1182ad2a1c366f85d3f1a73e9b760e972e91bf0e1f595fcd2519add82bb0c9", func := "musette/musettelaw05.VoiceMost", spec := "voiceMost", unfollowed := true, recurses := true, plainKeys := false, apart := false, narrowed := true }
def VoiceMostUptoSaid : Prop := voiceMostUptoRow.holds Try.pinned (OpenSpec.upto voiceMostSpec)

/-- 'musettelaw05.VoiceBetter', WHERE WHAT IT READS IS OF BULK AT MOST 1048576: true; the input reads as it did. -/
def voiceBetterUptoRow : OpenClaim := { program := "ytlahdenlmmlplaa", sum := "ed1182ad2a1c366f85d3f1a73e9b760e972e91bf0e1f595fcd2519add82bb0c9", func := "musette/musettelaw05.VoiceBetter", spec := "voiceBetter", unfollowed := true, recurses := true, plainKeys := false, apart := false, narrowed := true }
def VoiceBetterUptoSaid : Prop := voiceBetterUptoRow.holds Try.pinned (OpenSpec.upto voiceBetterSpec)

/-- 'musettelaw05.VoiceRaised', WHERE WHAT IT READS IS OF BULK AT MOST 1048576: true; the input reads as it did. -/
def voiceRaisedUptoRow : OpenClaim := { program := "ytlahdenlmmlplaa", sum := "ed1182ad2a1c366f85d3f1a73e9b760e972e91bf0e1f595fcd2519add82bb0c9", func := "musette/musettelaw05.VoiceRaised", spec := "voiceRaised", unfollowed := true, recurses := true, plainKeys := false, apart := false, narrowed := true }
def VoiceRaisedUptoSaid : Prop := voiceRaisedUptoRow.holds Try.pinned (OpenSpec.upto voiceRaisedSpec)

/-- 'musettelaw05.VoiceTrue', WHERE WHAT IT READS IS OF BULK AT MOST 1048576: true; the input reads as it did. -/
def voiceTrueUptoRow : OpenClaim := { program := "ytlahdenlmmlplaa", sum := "ed1182ad2a1c366f85d3f1a73e9b760e972e91bf0e1f595fcd2519add82bb0c9", func := "musette/musettelaw05.VoiceTrue", spec := "voiceTrue", unfollowed := true, recurses := true, plainKeys := false, apart := false, narrowed := true }
def VoiceTrueUptoSaid : Prop := voiceTrueUptoRow.holds Try.pinned (OpenSpec.upto voiceTrueSpec)

/-- 'musettelaw05.VoiceSpan', WHERE WHAT IT READS IS OF BULK AT MOST 1048576: true; the input reads as it did. -/
def voiceSpanUptoRow : OpenClaim := { program := "ytlahdenlmmlplaa", sum := "ed1182ad2a1c366f85d3f1a73e9b760e972e91bf0e1f595fcd2519add82bb0c9", func := "musette/musettelaw05.VoiceSpan", spec := "voiceSpan", unfollowed := true, recurses := true, plainKeys := false, apart := false, narrowed := true }
def VoiceSpanUptoSaid : Prop := voiceSpanUptoRow.holds Try.pinned (OpenSpec.upto voiceSpanSpec)

/-- 'musettelaw05.VoiceJob', WHERE WHAT IT READS IS OF BULK AT MOST 1048576: true; the input reads as it did. -/
def voiceJobUptoRow : OpenClaim := { program := "ytlahdenlmmlplaa", sum := "ed1182ad2a1c366f85d3f1a73e9b760e972e91bf0e1f595fcd2519add82bb0c9", func := "musette/musettelaw05.VoiceJob", spec := "voiceJob", unfollowed := true, recurses := true, plainKeys := false, apart := false, narrowed := true }
def VoiceJobUptoSaid : Prop := voiceJobUptoRow.holds Try.pinned (OpenSpec.upto voiceJobSpec)

end Rows
end Go.Proofs.Ytlahdenlmmlplaa

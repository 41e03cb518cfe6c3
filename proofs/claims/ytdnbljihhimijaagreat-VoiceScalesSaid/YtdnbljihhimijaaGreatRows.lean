/-
  No cell of these rows narrows 'for every input' (looked for: loops, veiled, ifaces, maps, wideKeys, modest, calm, conditions, laid).
  DERIVED. THE GIVEN ROWS OF THIS SEAT. 3 by the template 'for every input the law returns true; each argument reads behind the call as it read before'; 0 by the template 'total and deterministic' (their statements: YtdnbljihhimijaaGreatTotals.lean).
  GIVEN WITH THE SEED: the statements are not yours to turn. If you find one false, say at which input.
  Laid BY PROGRAM, IN A SANDBOX (cutbox-rows.mjs): the forced cells as the released guide's own fill.sh prints them over the translation 2573b6496e0ee29c… (all of the seat's roots in one cut). By AI agents, Wed Nov 11 2026. No macro, syntax, notation, axiom, sorry.
-/
import Derived.Test.YtdnbljihhimijaaGreatChecked
import GoSem.Claim
import GoSem.ClaimJoined
import GoSem.ClaimMapViews
import Derived.JoinedTies
import Derived.KernelRfl
namespace Go.Proofs.YtdnbljihhimijaaGreat
/- THE CELL 'sum', in the pinned program and in every row, IS THE sha256 OF THE DUMP (.gsa) THAT YtdnbljihhimijaaGreatProg.lean LOADS. Nothing in Lean hashes anything: it is a label: what it is worth is what the hold of that sum in a sandbox is worth. -/
noncomputable def Tryz.pinned : Pinned := { name := "ytdnbljihhimijaagreat", sum := "2573b6496e0ee29cfab6340b6d3844a3660e82b60a0b6483a15db68042ca5c1b", checked := Tryz.checked }
namespace Rows
def none {H : Type} : Left H := { results := [], args := [] }

/-- 'musettelaw05.VoiceMatches': WHATEVER THE INPUT: true; the input reads as it did. -/
def voiceMatchesSpec : ChangeSpec := { name := "voiceMatches", fn := fun _ => fun
  | [d1, d2, d3] => { results := [.lit (.bool true)], args := [d1, d2, d3] }
  | _ => none }
def voiceMatchesRow : OpenClaim := { program := "ytdnbljihhimijaagreat", sum := "2573b6496e0ee29cfab6340b6d3844a3660e82b60a0b6483a15db68042ca5c1b", func := "musette/musettelaw05.VoiceMatches", spec := "voiceMatches", unfollowed := true, recurses := true, plainKeys := false, apart := false }
def VoiceMatchesSaid : Prop := voiceMatchesRow.holds Tryz.pinned (OpenSpec.ofChange voiceMatchesSpec)

/-- ITS FALSE NEIGHBOUR: 'it returns false'. Refute it at one input. -/
def voiceMatchesWrong : ChangeSpec := { name := "voiceMatches", fn := fun _ => fun
  | [d1, d2, d3] => { results := [.lit (.bool false)], args := [d1, d2, d3] }
  | _ => none }
def VoiceMatchesWrongFalsely : Prop := voiceMatchesRow.holds Tryz.pinned (OpenSpec.ofChange voiceMatchesWrong)

/-- 'musettelaw05.VoicePairs': WHATEVER THE INPUT: true; the input reads as it did. -/
def voicePairsSpec : ChangeSpec := { name := "voicePairs", fn := fun _ => fun
  | [d1, d2, d3, d4, d5, d6, d7] => { results := [.lit (.bool true)], args := [d1, d2, d3, d4, d5, d6, d7] }
  | _ => none }
def voicePairsRow : OpenClaim := { program := "ytdnbljihhimijaagreat", sum := "2573b6496e0ee29cfab6340b6d3844a3660e82b60a0b6483a15db68042ca5c1b", func := "musette/musettelaw05.VoicePairs", spec := "voicePairs", unfollowed := true, recurses := true, plainKeys := false, apart := false }
def VoicePairsSaid : Prop := voicePairsRow.holds Tryz.pinned (OpenSpec.ofChange voicePairsSpec)

/-- ITS FALSE NEIGHBOUR: 'it returns false'. Refute it at one input. -/
def voicePairsWrong : ChangeSpec := { name := "voicePairs", fn := fun _ => fun
  | [d1, d2, d3, d4, d5, d6, d7] => { results := [.lit (.bool false)], args := [d1, d2, d3, d4, d5, d6, d7] }
  | _ => none }
def VoicePairsWrongFalsely : Prop := voicePairsRow.holds Tryz.pinned (OpenSpec.ofChange voicePairsWrong)

/-- 'musettelaw05.VoiceScales': WHATEVER THE INPUT: true; the input reads as it did. -/
def voiceScalesSpec : ChangeSpec := { name := "voiceScales", fn := fun _ => fun
  | [d1, d2, d3, d4, d5] => { results := [.lit (.bool true)], args := [d1, d2, d3, d4, d5] }
  | _ => none }
def voiceScalesRow : OpenClaim := { program := "ytdnbljihhimijaagreat", sum := "2573b6496e0ee29cfab6340b6d3844a3660e82b60a0b6483a15db68042ca5c1b", func := "musette/musettelaw05.VoiceScales", spec := "voiceScales", unfollowed := true, recurses := true, plainKeys := false, apart := false }
def VoiceScalesSaid : Prop := voiceScalesRow.holds Tryz.pinned (OpenSpec.ofChange voiceScalesSpec)

/-- ITS FALSE NEIGHBOUR: 'it returns false'. Refute it at one input. -/
def voiceScalesWrong : ChangeSpec := { name := "voiceScales", fn := fun _ => fun
  | [d1, d2, d3, d4, d5] => { results := [.lit (.bool false)], args := [d1, d2, d3, d4, d5] }
  | _ => none }
def VoiceScalesWrongFalsely : Prop := voiceScalesRow.holds Tryz.pinned (OpenSpec.ofChange voiceScalesWrong)

/- THE SECOND FORM. 'bulk': how many values and letters a reading holds, each counted each time it is reached (what is shared counts as often as it is met; a slice's spare places count too). A statement '..UptoSaid' is the law's where the arguments, and the package variables that the reading takes, are together of bulk at most 1048576: NARROWER than '..Said'. Prove '..Said' where nothing that the law and all that it calls make is longer than what came in: it says more and counts as full. Else prove '..UptoSaid'. A law counts once. -/
mutual
def uptoBulk {H : Type} : DataW H → Nat
  | .lit (.string bytes) => bytes.length + 1
  | .lit _ => 1
  | .nil => 1
  | .ptr d => uptoBulk d + 1
  | .slice elems spare => uptoBulkAll elems + uptoBulkAll spare + 1
  | .agg parts => uptoBulkAll parts + 1
  | .iface _ d => uptoBulk d + 1
  | .map entries => uptoBulkEntries entries + 1
  | .held _ => 1
def uptoBulkAll {H : Type} : List (DataW H) → Nat
  | [] => 0
  | d :: r => uptoBulk d + uptoBulkAll r
def uptoBulkEntries {H : Type} : List (Lit × DataW H) → Nat
  | [] => 0
  | x :: r => uptoBulkEntry x + uptoBulkEntries r
def uptoBulkEntry {H : Type} : Lit × DataW H → Nat
  | (.string bytes, d) => bytes.length + uptoBulk d + 1
  | (_, d) => uptoBulk d + 1
 end
def uptoSmall : (H : Type) → List (DataW H) → Bool := fun _ ds => decide (uptoBulkAll ds ≤ 1048576)
def OpenSpec.upto (s : _root_.Go.ChangeSpec) : _root_.Go.OpenSpec := { _root_.Go.OpenSpec.ofChange s with cond := some uptoSmall }

/-- 'musettelaw05.VoiceMatches', WHERE WHAT IT READS IS OF BULK AT MOST 1048576: true; the input reads as it did. -/
def voiceMatchesUptoRow : OpenClaim := { program := "ytdnbljihhimijaagreat", sum := "2573b6496e0ee29cfab6340b6d3844a3660e82b60a0b6483a15db68042ca5c1b", func := "musette/musettelaw05.VoiceMatches", spec := "voiceMatches", unfollowed := true, recurses := true, plainKeys := false, apart := false, narrowed := true }
def VoiceMatchesUptoSaid : Prop := voiceMatchesUptoRow.holds Tryz.pinned (OpenSpec.upto voiceMatchesSpec)

/-- 'musettelaw05.VoicePairs', WHERE WHAT IT READS IS OF BULK AT MOST 1048576: true; the input reads as it did. -/
def voicePairsUptoRow : OpenClaim := { program := "ytdnbljihhimijaagreat", sum := "2573b6496e0ee29cfab6340b6d3844a3660e82b60a0b6483a15db68042ca5c1b", func := "musette/musettelaw05.VoicePairs", spec := "voicePairs", unfollowed := true, recurses := true, plainKeys := false, apart := false, narrowed := true }
def VoicePairsUptoSaid : Prop := voicePairsUptoRow.holds Tryz.pinned (OpenSpec.upto voicePairsSpec)

/-- 'musettelaw05.VoiceScales', WHERE WHAT IT READS IS OF BULK AT MOST 1048576: true; the input reads as it did. -/
def voiceScalesUptoRow : OpenClaim := { program := "ytdnbljihhimijaagreat", sum := "2573b6496e0ee29cfab6340b6d3844a3660e82b60a0b6483a15db68042ca5c1b", func := "musette/musettelaw05.VoiceScales", spec := "voiceScales", unfollowed := true, recurses := true, plainKeys := false, apart := false, narrowed := true }
def VoiceScalesUptoSaid : Prop := voiceScalesUptoRow.holds Tryz.pinned (OpenSpec.upto voiceScalesSpec)

end Rows
end Go.Proofs.YtdnbljihhimijaaGreat

/-
  The types that this seat's functions load, store or lay: how many cells they have, and what they are when they are new.
-/
import Derived.Test.YthlpceoajhcliaaMem
namespace Go.Proofs.Ythlpceoajhcliaa
set_option linter.unusedSimpArgs false
set_option linter.unusedVariables false
open Go.RowKit

instance : OneTy Try.prog 3 := ⟨⟨_, Try.underlying3, rfl⟩, by kernel_rfl⟩
instance : ZeroTy Try.prog 3 [.int .i64 0] := ⟨fun _ => ⟨.int .i64 0, by kernel_rfl, rfl⟩⟩
instance : OneTy Try.prog 4 := ⟨⟨_, Try.underlying4, rfl⟩, by kernel_rfl⟩
instance : ZeroTy Try.prog 4 [.bool false] := ⟨fun _ => ⟨.bool false, by kernel_rfl, rfl⟩⟩
instance : RowTy Try.prog 23 2 := ⟨⟨_, Try.underlying23, rfl⟩, by kernel_rfl⟩
instance : ZeroTy Try.prog 23 [.int .i64 0, .int .i64 0] := ⟨fun _ => ⟨.agg #[.int .i64 0, .int .i64 0], by kernel_rfl, rfl⟩⟩
instance : RowTy Try.prog 25 6 := ⟨⟨_, Try.underlying25, rfl⟩, by kernel_rfl⟩
instance : ZeroTy Try.prog 25 [.int .i64 0, .int .i64 0, .int .i64 0, .int .i64 0, .int .i64 0, .int .i64 0] := ⟨fun _ => ⟨.agg #[.int .i64 0, .int .i64 0, .int .i64 0, .int .i64 0, .int .i64 0, .int .i64 0], by kernel_rfl, rfl⟩⟩
instance : RowTy Try.prog 27 9 := ⟨⟨_, Try.underlying27, rfl⟩, by kernel_rfl⟩
instance : ZeroTy Try.prog 27 [.int .i64 0, .int .i64 0, .int .i64 0, .int .i64 0, .int .i64 0, .int .i64 0, .int .i64 0, .int .i64 0, .int .i64 0] := ⟨fun _ => ⟨.agg #[.int .i64 0, .int .i64 0, .int .i64 0, .int .i64 0, .int .i64 0, .int .i64 0, .int .i64 0, .int .i64 0, .int .i64 0], by kernel_rfl, rfl⟩⟩
instance : OneTy Try.prog 28 := ⟨⟨_, Try.underlying28, rfl⟩, by kernel_rfl⟩
instance : ZeroTy Try.prog 28 [.slice none 0 0] := ⟨fun _ => ⟨.slice none 0 0, by kernel_rfl, rfl⟩⟩
instance : RowTy Try.prog 30 18 := ⟨⟨_, Try.underlying30, rfl⟩, by kernel_rfl⟩
instance : ZeroTy Try.prog 30 [.int .i64 0, .int .i64 0, .int .i64 0, .int .i64 0, .int .i64 0, .int .i64 0, .int .i64 0, .int .i64 0, .int .i64 0, .int .i64 0, .int .i64 0, .int .i64 0, .int .i64 0, .int .i64 0, .int .i64 0, .slice none 0 0, .int .i64 0, .int .i64 0] := ⟨fun _ => ⟨.agg #[.int .i64 0, .int .i64 0, .int .i64 0, .int .i64 0, .int .i64 0, .int .i64 0, .int .i64 0, .int .i64 0, .int .i64 0, .int .i64 0, .int .i64 0, .int .i64 0, .int .i64 0, .int .i64 0, .int .i64 0, .slice none 0 0, .int .i64 0, .int .i64 0], by kernel_rfl, rfl⟩⟩
instance : OneTy Try.prog 31 := ⟨⟨_, Try.underlying31, rfl⟩, by kernel_rfl⟩
instance : ZeroTy Try.prog 31 [.slice none 0 0] := ⟨fun _ => ⟨.slice none 0 0, by kernel_rfl, rfl⟩⟩
instance : OneTy Try.prog 36 := ⟨⟨_, Try.underlying36, rfl⟩, by kernel_rfl⟩
instance : ZeroTy Try.prog 36 [.slice none 0 0] := ⟨fun _ => ⟨.slice none 0 0, by kernel_rfl, rfl⟩⟩
instance : RowTy Try.prog 62 3 := ⟨⟨_, Try.underlying62, rfl⟩, by kernel_rfl⟩
instance : ZeroTy Try.prog 62 [.int .i64 0, .int .i64 0, .int .i64 0] := ⟨fun _ => ⟨.agg #[.int .i64 0, .int .i64 0, .int .i64 0], by kernel_rfl, rfl⟩⟩
instance : RowTy Try.prog 80 11 := ⟨⟨_, Try.underlying80, rfl⟩, by kernel_rfl⟩
instance : ZeroTy Try.prog 80 [.int .i64 0, .int .i64 0, .int .i64 0, .int .i64 0, .int .i64 0, .int .i64 0, .int .i64 0, .int .i64 0, .int .i64 0, .int .i64 0, .int .i64 0] := ⟨fun _ => ⟨.agg #[.int .i64 0, .int .i64 0, .int .i64 0, .int .i64 0, .int .i64 0, .int .i64 0, .int .i64 0, .int .i64 0, .int .i64 0, .int .i64 0, .int .i64 0], by kernel_rfl, rfl⟩⟩
instance : OneTy Try.prog 84 := ⟨⟨_, Try.underlying84, rfl⟩, by kernel_rfl⟩
instance : ZeroTy Try.prog 84 [.int .u64 0] := ⟨fun _ => ⟨.int .u64 0, by kernel_rfl, rfl⟩⟩
instance : RowTy Try.prog 86 1 := ⟨⟨_, Try.underlying86, rfl⟩, by kernel_rfl⟩
instance : ZeroTy Try.prog 86 [.int .u64 0] := ⟨fun _ => ⟨.agg #[.int .u64 0], by kernel_rfl, rfl⟩⟩
instance : RowTy Try.prog 92 15 := ⟨⟨_, Try.underlying92, rfl⟩, by kernel_rfl⟩
instance : ZeroTy Try.prog 92 [.int .i64 0, .int .i64 0, .int .i64 0, .int .i64 0, .int .i64 0, .int .i64 0, .int .i64 0, .int .i64 0, .int .i64 0, .int .i64 0, .int .i64 0, .int .i64 0, .int .i64 0, .int .i64 0, .int .i64 0] := ⟨fun _ => ⟨.agg #[.int .i64 0, .int .i64 0, .int .i64 0, .int .i64 0, .int .i64 0, .int .i64 0, .int .i64 0, .int .i64 0, .int .i64 0, .int .i64 0, .int .i64 0, .int .i64 0, .int .i64 0, .int .i64 0, .int .i64 0], by kernel_rfl, rfl⟩⟩
instance : OneTy Try.prog 96 := ⟨⟨_, Try.underlying96, rfl⟩, by kernel_rfl⟩
instance : ZeroTy Try.prog 96 [.nilFunc] := ⟨fun _ => ⟨.nilFunc, by kernel_rfl, rfl⟩⟩
instance : RowTy Try.prog 98 21 := ⟨⟨_, Try.underlying98, rfl⟩, by kernel_rfl⟩
instance : ZeroTy Try.prog 98 [.int .i64 0, .int .i64 0, .int .i64 0, .int .i64 0, .int .i64 0, .int .i64 0, .int .i64 0, .int .i64 0, .int .i64 0, .int .i64 0, .int .i64 0, .int .i64 0, .int .i64 0, .int .i64 0, .int .i64 0, .slice none 0 0, .int .i64 0, .int .i64 0, .int .i64 0, .int .i64 0, .nilFunc] := ⟨fun _ => ⟨.agg #[.int .i64 0, .int .i64 0, .int .i64 0, .int .i64 0, .int .i64 0, .int .i64 0, .int .i64 0, .int .i64 0, .int .i64 0, .int .i64 0, .int .i64 0, .int .i64 0, .int .i64 0, .int .i64 0, .int .i64 0, .slice none 0 0, .int .i64 0, .int .i64 0, .int .i64 0, .int .i64 0, .nilFunc], by kernel_rfl, rfl⟩⟩
instance : RowTy Try.prog 103 5 := ⟨⟨_, Try.underlying103, rfl⟩, by kernel_rfl⟩
instance : ZeroTy Try.prog 103 [.int .i64 0, .int .i64 0, .int .i64 0, .int .i64 0, .int .i64 0] := ⟨fun _ => ⟨.agg #[.int .i64 0, .int .i64 0, .int .i64 0, .int .i64 0, .int .i64 0], by kernel_rfl, rfl⟩⟩
instance : OneTy Try.prog 131 := ⟨⟨_, Try.underlying131, rfl⟩, by kernel_rfl⟩
instance : ZeroTy Try.prog 131 [.map none] := ⟨fun _ => ⟨.map none, by kernel_rfl, rfl⟩⟩

end Go.Proofs.Ythlpceoajhcliaa

/-
  Walks of functions, and plain laws (texts put together). No condition.
-/
import Derived.WalkKit
import Derived.LaidEql
import Derived.Stop.Asserts
import Derived.RowKitTokens
import Derived.LaidHandle
import Derived.LaidMore
import Derived.Stop.Joined
import Derived.Stop.LaidErr
import Derived.Lib.LaidTab
import Derived.Shelf.Vars
import Derived.HandedShaped
import Derived.Lay
import Derived.Test.YtaikhendogcflaaGreatDoorRows
import Derived.Deep.Slices
import Derived.Laws.BytesArg
import Derived.Test.YtaikhendogcflaaGreatDoorMSheetTexts1
import Derived.Test.YtaikhendogcflaaGreatDoorMSheetTexts2
import Derived.Test.YtaikhendogcflaaGreatDoorMSheetTexts3
import Derived.Test.YtaikhendogcflaaGreatDoorMSheetTexts4
import Derived.Test.YtaikhendogcflaaGreatDoorMSheetTexts5
set_option maxRecDepth 100000
set_option maxHeartbeats 1000000
set_option linter.unusedSimpArgs false
set_option linter.unusedVariables false
namespace Go.Proofs.YtaikhendogcflaaGreatDoor
open Go.RowKit
section
open Go.RowKit Go.Extern.Stop Go.Stop Go.Extern
theorem as_nil (t : Value) (w : World) : Calls Tryz.prog 73 #[.nilIface, t] w fun e w' => e = .returned (.bool false) ∧ w' = w := by
 go_enter Tryz.func73, Tryz.ntmps73
 go_wp2
 go_ret
 exact ⟨rfl, rfl⟩
theorem Tryz.valueOfP (t : Addr) (w : World) : (ReflectliteValue.unpack (.iface 139 (.pointer (some t)))).run Tryz.prog w
  = .ok (.agg #[.pointer (some ⟨9, 139, none⟩), .pointer (some ⟨w.heap.size, 0, none⟩), .int .u64 150]) (w.alloc (.cells #[.pointer (some t)] 139)) := by kernel_rfl
theorem Tryz.typeP (a : Addr) (w : World) : (ReflectliteValue.methodAny (ReflectliteValue.valueError "reflectlite.Value.Type" 0) (fun t _ _ _ => ReflectliteType.toType t) #[.agg #[.pointer (some ⟨9, 139, none⟩), .pointer (some a), .int .u64 150]]).run Tryz.prog w
  = .ok (.iface 283 (.agg #[.pointer (some ⟨9, 139, none⟩)])) w := by kernel_rfl
theorem Tryz.methodKind (h : Value) (w : World) : (Go.method 226 283 (.agg #[h]) "Kind").run Tryz.prog w = .ok (281, h) w := by kernel_rfl
theorem Tryz.kindP (w : World) : ((ReflectliteType.abiMethod fun t => (fun a : Nat => Value.int IntKind.u8 (a : Int)) <$> Rtype.kind t) #[.pointer (some ⟨9, 139, none⟩)]).run Tryz.prog w = .ok (.int .u8 22) w := by kernel_rfl
theorem Tryz.kindF (w : World) : ((ReflectliteType.abiMethod fun t => (fun a : Nat => Value.int IntKind.u8 (a : Int)) <$> Rtype.kind t) #[.pointer (some ⟨9, 137, none⟩)]).run Tryz.prog w = .ok (.int .u8 25) w := by kernel_rfl
theorem rlm (z : Sem Value) (f : TypeId → Addr → Nat → Nat → Sem Value) (v : Value) :
  ReflectliteValue.method z f #[v] = (do match ← ReflectliteValue.parts v with | none => z | some (t, a, fl) => f t a fl (fl % 32)) := rfl
theorem Tryz.partsP (a : Addr) (w : World) : (ReflectliteValue.parts (.agg #[.pointer (some ⟨9, 139, none⟩), .pointer (some a), .int .u64 150])).run Tryz.prog w = .ok (some (139, a, 150)) w := by kernel_rfl
theorem Tryz.isNilP (a p : Addr) (W : World) (ha : W.cell? a = some (.pointer (some p))) :
  (ReflectliteValue.method (ReflectliteValue.valueError "reflectlite.Value.IsNil" 0) ReflectliteValue.isNil #[.agg #[.pointer (some ⟨9, 139, none⟩), .pointer (some a), .int .u64 150]]).run Tryz.prog W = .ok (.bool false) W := by
 rw [rlm]
 simp only [Sem.run_bind, Tryz.partsP, Result.andThen]
 simp [ReflectliteValue.isNil, loadVar, isAgg, underlying, Tryz.underlying139, ha, Result.andThen]
theorem Tryz.methodElem (h : Value) (w : World) : (Go.method 226 283 (.agg #[h]) "Elem").run Tryz.prog w = .ok (295, .agg #[h]) w := by kernel_rfl
theorem Tryz.methodImplements (h : Value) (w : World) : (Go.method 226 283 (.agg #[h]) "Implements").run Tryz.prog w = .ok (296, .agg #[h]) w := by kernel_rfl
theorem Tryz.methodAssignableTo (h : Value) (w : World) : (Go.method 226 283 (.agg #[h]) "AssignableTo").run Tryz.prog w = .ok (293, .agg #[h]) w := by kernel_rfl
theorem Tryz.elemP (w : World) : (ReflectliteType.method ReflectliteType.elem #[.agg #[.pointer (some ⟨9, 139, none⟩)]]).run Tryz.prog w = .ok (.iface 283 (.agg #[.pointer (some ⟨9, 137, none⟩)])) w := by kernel_rfl
theorem Tryz.implementsF (w : World) : (ReflectliteType.relation "Implements" ReflectliteType.implements_ #[.agg #[.pointer (some ⟨9, 137, none⟩)], .iface 283 (.agg #[.pointer (some ⟨9, 133, none⟩)])]).run Tryz.prog w = .ok (.bool true) w := by kernel_rfl
theorem Tryz.typeOfF (v : Value) (w : World) : (ReflectliteType.typeOf #[.iface 137 v]).run Tryz.prog w = .ok (.iface 283 (.agg #[.pointer (some ⟨9, 137, none⟩)])) w := by kernel_rfl
theorem Tryz.assignableF (w : World) : (ReflectliteType.relation "AssignableTo" ReflectliteType.assignableTo #[.agg #[.pointer (some ⟨9, 137, none⟩)], .iface 283 (.agg #[.pointer (some ⟨9, 137, none⟩)])]).run Tryz.prog w = .ok (.bool true) w := by kernel_rfl
theorem Tryz.valueOfF (n : Int) (w : World) : (ReflectliteValue.unpack (.iface 137 (.agg #[.int .i64 n]))).run Tryz.prog w
  = .ok (.agg #[.pointer (some ⟨9, 137, none⟩), .pointer (some ⟨w.heap.size, 0, none⟩), .int .u64 153]) (w.alloc (.cells #[.int .i64 n] 137)) := by kernel_rfl
theorem Tryz.elemOfP (w : World) : (Rtype.elem? 139).run Tryz.prog w = .ok (some 137) w := by kernel_rfl
theorem Tryz.mkF (p : Addr) (w : World) : (ReflectliteValue.mk 137 p ReflectliteValue.flagAddr).run Tryz.prog w = .ok (.agg #[.pointer (some ⟨9, 137, none⟩), .pointer (some p), .int .u64 409]) w := by kernel_rfl
theorem Tryz.elemVP (a p : Addr) (W : World) (ha : W.cell? a = some (.pointer (some p))) :
  (ReflectliteValue.method (ReflectliteValue.valueError "reflectlite.Value.Elem" 0) ReflectliteValue.elem #[.agg #[.pointer (some ⟨9, 139, none⟩), .pointer (some a), .int .u64 150]]).run Tryz.prog W
   = .ok (.agg #[.pointer (some ⟨9, 137, none⟩), .pointer (some p), .int .u64 409]) W := by
 rw [rlm]
 simp only [Sem.run_bind, Tryz.partsP, Result.andThen]
 simp [ReflectliteValue.elem, loadVar, isAgg, underlying, Tryz.underlying139, ha, Result.andThen, Tryz.elemOfP, Tryz.mkF]
theorem Tryz.partsFa (a : Addr) (w : World) : (ReflectliteValue.parts (.agg #[.pointer (some ⟨9, 137, none⟩), .pointer (some a), .int .u64 409])).run Tryz.prog w = .ok (some (137, a, 409)) w := by kernel_rfl
theorem Tryz.partsF (a : Addr) (w : World) : (ReflectliteValue.parts (.agg #[.pointer (some ⟨9, 137, none⟩), .pointer (some a), .int .u64 153])).run Tryz.prog w = .ok (some (137, a, 153)) w := by kernel_rfl
theorem Tryz.directF (w : World) : (Rtype.directlyAssignable 137 137).run Tryz.prog w = .ok true w := by kernel_rfl
theorem rls (v x : Value) : ReflectliteValue.set #[v, x] = (do
  let (some (dst, a, fl), some (src, b, _)) := (← ReflectliteValue.parts v, ← ReflectliteValue.parts x)
   | unsupported (.noEntry "extern/(internal/reflectlite.Value).Set.zeroValue")
  if fl / ReflectliteValue.flagAddr % 2 == 0 then unsupported (.noEntry "extern/(internal/reflectlite.Value).Set.unaddressable")
  let val ← loadVar src b
  if ← Rtype.directlyAssignable dst src then storeVar dst a val
  else if ← Rtype.implements dst src then
   if (← Rtype.kind src) == 20 then
    match val with
    | .nilIface => unsupported (.noEntry "extern/reflectlite: a nil value of one interface type handed on as a value of another")
    | _ => storeVar dst a val
   else storeVar dst a (.iface src val)
  else panicString ("reflectlite.Set: value of type " ++ (← Rtype.spelt src) ++ " is not assignable to type " ++ (← Rtype.spelt dst))
  pure (.tuple #[])) := rfl
theorem Tryz.setF (ta b : Addr) (n : Int) (old : Value) (W : World) (hl : (loadVar 137 b).run Tryz.prog W = .ok (.agg #[.int .i64 n]) W) (ht : W.cell? ta = some old) (hf : W.frozen? ta = false) :
  (ReflectliteValue.set #[.agg #[.pointer (some ⟨9, 137, none⟩), .pointer (some ta), .int .u64 409], .agg #[.pointer (some ⟨9, 137, none⟩), .pointer (some b), .int .u64 153]]).run Tryz.prog W
   = .ok (.tuple #[]) (W.setCell ta (.int .i64 n)) := by
 rw [rls]
 simp only [Sem.run_bind, Tryz.partsFa, Tryz.partsF, Result.andThen]
 simp [ReflectliteValue.flagAddr, Sem.run_bind, hl, Result.andThen, Tryz.directF, storeVar, Value.cells, storeCells, Addr.add]
 rw [run_store Tryz.prog W ta _ _ (by rfl)]
 simp [ht, hf]
theorem load_new (W : World) (n : Int) {k : Nat} (hk : k = W.heap.size) : (loadVar 137 ⟨k, 0, none⟩).run Tryz.prog (W.alloc (.cells #[.int .i64 n] 137)) = .ok (.agg #[.int .i64 n]) (W.alloc (.cells #[.int .i64 n] 137)) := by
 subst hk
 have hB := Bk.new W 137 #[.int .i64 n]
 exact run_loadVar_mid _ _ 0 137 [.int .i64 n] _ hB.range Tryz.underlying137 (by rfl) (by kernel_rfl)
set_option maxHeartbeats 4000000 in
theorem as_hit (n : Int) (t : Addr) (old : Value) (w : World) (hg : w.cell? ⟨0, 0, none⟩ = some (.iface 283 (.agg #[.pointer (some ⟨9, 133, none⟩)]))) (ht0 : w.cell? t = some old) (hf0 : w.frozen? t = false) :
  Calls Tryz.prog 73 #[.iface 137 (.agg #[.int .i64 n]), .iface 139 (.pointer (some t))] w fun ev w' => ev = .returned (.bool true) ∧ w' = ((((w.alloc (.cells #[.pointer (some t)] 139)).alloc (.cells #[.pointer (some ⟨9, 139, none⟩), .pointer (some ⟨w.heap.size, 0, none⟩), .int .u64 150] 223)).alloc (.cells #[.pointer (some ⟨9, 139, none⟩), .pointer (some ⟨w.heap.size, 0, none⟩), .int .u64 150] 223)).alloc (.cells #[.int .i64 n] 137)).setCell t (.int .i64 n) := by
 have h6 := @run_callFunc_extern Tryz.prog 145 _ (fun args => ReflectliteValue.unpack (args.getD 0 (.tuple #[]))) Tryz.func145 (by kernel_rfl) (by kernel_rfl) (by kernel_rfl) (by kernel_rfl)
 have h7 := @run_callFunc_extern Tryz.prog 146 _ (ReflectliteValue.methodAny (ReflectliteValue.valueError "reflectlite.Value.Type" 0) (fun t _ _ _ => ReflectliteType.toType t)) Tryz.func146 (by kernel_rfl) (by kernel_rfl) (by kernel_rfl) (by kernel_rfl)
 have h8 := @run_callFunc_extern Tryz.prog 147 _ (ReflectliteValue.method (ReflectliteValue.valueError "reflectlite.Value.IsNil" 0) ReflectliteValue.isNil) Tryz.func147 (by kernel_rfl) (by kernel_rfl) (by kernel_rfl) (by kernel_rfl)
 have h27 := @run_callFunc_extern Tryz.prog 281 _ (ReflectliteType.abiMethod fun t => do pure (.int .u8 (← Rtype.kind t))) Tryz.func281 (by kernel_rfl) (by kernel_rfl) (by kernel_rfl) (by kernel_rfl)
 have h37 := @run_callFunc_extern Tryz.prog 295 _ (ReflectliteType.method ReflectliteType.elem) Tryz.func295 (by kernel_rfl) (by kernel_rfl) (by kernel_rfl) (by kernel_rfl)
 have h38 := @run_callFunc_extern Tryz.prog 296 _ (ReflectliteType.relation "Implements" ReflectliteType.implements_) Tryz.func296 (by kernel_rfl) (by kernel_rfl) (by kernel_rfl) (by kernel_rfl)
 have h10 := @run_callFunc_extern Tryz.prog 199 _ ReflectliteType.typeOf Tryz.func199 (by kernel_rfl) (by kernel_rfl) (by kernel_rfl) (by kernel_rfl)
 have h35 := @run_callFunc_extern Tryz.prog 293 _ (ReflectliteType.relation "AssignableTo" ReflectliteType.assignableTo) Tryz.func293 (by kernel_rfl) (by kernel_rfl) (by kernel_rfl) (by kernel_rfl)
 have h11 := @run_callFunc_extern Tryz.prog 200 _ (ReflectliteValue.method (ReflectliteValue.valueError "reflectlite.Value.Elem" 0) ReflectliteValue.elem) Tryz.func200 (by kernel_rfl) (by kernel_rfl) (by kernel_rfl) (by kernel_rfl)
 have h12 := @run_callFunc_extern Tryz.prog 201 _ ReflectliteValue.set Tryz.func201 (by kernel_rfl) (by kernel_rfl) (by kernel_rfl) (by kernel_rfl)
 have tO := Tryz.typeOfF
 have mA := Tryz.methodAssignableTo
 have a25 := Tryz.assignableF
 have v25 := Tryz.valueOfF
 have f6 := Tryz.valueOfP
 have f7 := Tryz.typeP
 have mK := Tryz.methodKind
 have mE := Tryz.methodElem
 have mI := Tryz.methodImplements
 have k27 := Tryz.kindP
 have k25 := Tryz.kindF
 have e27 := Tryz.elemP
 have i25 := Tryz.implementsF
 have n8 := Tryz.isNilP ⟨w.heap.size, 0, none⟩ t ((w.alloc (.cells #[.pointer (some t)] 139)).alloc (.cells #[.pointer (some ⟨9, 139, none⟩), .pointer (some ⟨w.heap.size, 0, none⟩), .int .u64 150] 223)) (by simp)
 have hlt : 0 < w.heap.size := by
  rcases Nat.lt_or_ge 0 w.heap.size with h | h
  ·exact h
  ·simp [World.cell?, Array.getElem?_eq_none h] at hg
 have hg2 : ((w.alloc (.cells #[.pointer (some t)] 139)).alloc (.cells #[.pointer (some ⟨9, 139, none⟩), .pointer (some ⟨w.heap.size, 0, none⟩), .int .u64 150] 223)).cell? ⟨0, 0, none⟩ = some (.iface 283 (.agg #[.pointer (some ⟨9, 133, none⟩)])) := by
  rw [World.cell?_alloc_lt _ _ ⟨0, 0, none⟩ (by first | (simp; done) | (simp; omega)), World.cell?_alloc_lt _ _ ⟨0, 0, none⟩ hlt]; exact hg
 have htl : t.block < w.heap.size := by
  rcases Nat.lt_or_ge t.block w.heap.size with h | h
  ·exact h
  ·simp [World.cell?, Array.getElem?_eq_none h] at ht0
 have el := Tryz.elemVP ⟨w.heap.size, 0, none⟩ t (((w.alloc (.cells #[.pointer (some t)] 139)).alloc (.cells #[.pointer (some ⟨9, 139, none⟩), .pointer (some ⟨w.heap.size, 0, none⟩), .int .u64 150] 223)).alloc (.cells #[.pointer (some ⟨9, 139, none⟩), .pointer (some ⟨w.heap.size, 0, none⟩), .int .u64 150] 223)) (by rw [World.cell?_alloc_lt _ _ ⟨w.heap.size, 0, none⟩ (by simp; omega)]; simp)
 have st := Tryz.setF t ⟨w.heap.size + 1 + 1 + 1, 0, none⟩ n old ((((w.alloc (.cells #[.pointer (some t)] 139)).alloc (.cells #[.pointer (some ⟨9, 139, none⟩), .pointer (some ⟨w.heap.size, 0, none⟩), .int .u64 150] 223)).alloc (.cells #[.pointer (some ⟨9, 139, none⟩), .pointer (some ⟨w.heap.size, 0, none⟩), .int .u64 150] 223)).alloc (.cells #[.int .i64 n] 137))
  (load_new _ n (by simp))
  (by rw [World.cell?_alloc_lt _ _ t (by simp; omega), World.cell?_alloc_lt _ _ t (by simp; omega), World.cell?_alloc_lt _ _ t (by simp; omega), World.cell?_alloc_lt _ _ t htl]; exact ht0)
  (by rw [World.frozen?_alloc_old _ _ t (by simp; omega), World.frozen?_alloc_old _ _ t (by simp; omega), World.frozen?_alloc_old _ _ t (by simp; omega), World.frozen?_alloc_old _ _ t (Nat.ne_of_lt htl)]; exact hf0)
 go_enter Tryz.func73, Tryz.ntmps73
 go_wp2
 refine wp_loop_rounds 1 ?_
 rw [rounds_succ]
 go_wp2
 go_ret
 exact ⟨rfl, rfl⟩
end
section
variable {P : Program} {op : Oper} {a : Act} {w : World} {v : Value}
theorem rn_mi {ty : TypeId} {x : Operand} (ho : op.op = .makeInterface ty x) (hc : P.concrete ty = true) (hx : a.eval x = v) : Runs P op a (.iface ty v) w := by
 unfold Runs execOp
 simp only [ho, hx]
 rw [Sem.run_bind, run_makeInterface w ty v hc]
 rfl
end
def AsW (w : World) : Prop := w.cell? ⟨0, 0, none⟩ = some (.iface 283 (.agg #[.pointer (some ⟨9, 133, none⟩)]))
theorem AsW.mem0 {w w' : World} {L : List (Nat × BA)} (h : AsW w) (M : Mem w noEx w' L) : AsW w' := by
 unfold AsW at *
 have hlt : 0 < w.heap.size := by
  rcases Nat.lt_or_ge 0 w.heap.size with h9 | h9
  ·exact h9
  ·simp [World.cell?, Array.getElem?_eq_none h9] at h
 rw [M.below.cell (p := ⟨0, 0, none⟩) hlt]
 exact h
theorem as_any (ev : Value) (bt : Nat) (w : World) (hA : AsW w) (hB : Bk w bt #[.int .i64 0]) (hev : ev = .nilIface ∨ ∃ r : Int, ev = .iface 137 (.agg #[.int .i64 r])) :
  Calls Tryz.prog 73 #[ev, .iface 139 (.pointer (some ⟨bt, 0, none⟩))] w fun e w' => ∃ (b : Bool) (r : Int), e = .returned (.bool b) ∧ ((b = false ∧ ev = .nilIface ∧ r = 0) ∨ (b = true ∧ ev = .iface 137 (.agg #[.int .i64 r]))) ∧ Mem w (fun x => x = bt) w' [(bt, .cells [.int .i64 r])] := by
 rcases hev with rfl | ⟨r, rfl⟩
 ·refine (as_nil _ w).mono fun e w' h => ?_
  obtain ⟨rfl, rfl⟩ := h
  exact ⟨false, 0, rfl, .inl ⟨rfl, rfl, rfl⟩, Mem.initEx (p := .cells [.int .i64 0]) hB⟩
 ·have hc : w.cell? ⟨bt, 0, none⟩ = some (.int .i64 0) := by have h := hB.range 0 (.int .i64 0) rfl; simpa using h
  refine (as_hit r ⟨bt, 0, none⟩ _ w hA hc (hB.frozen 0)).mono fun e w' h => ?_
  obtain ⟨rfl, rfl⟩ := h
  refine ⟨true, r, rfl, .inr ⟨rfl, rfl⟩, ?_⟩
  have M0 := Mem.initEx (p := .cells [.int .i64 0]) hB
  have key : ∀ W, Mem w (fun x => x = bt) W [(bt, .cells [.int .i64 0])] → Mem w (fun x => x = bt) (W.setCell ⟨bt, 0, none⟩ (.int .i64 r)) [(bt, .cells [.int .i64 r])] := fun W M => M.write Upd.head (Oth.setCell W ⟨bt, 0, none⟩ _) (Bk.setCells (M.get Zz2) #[.int .i64 r] rfl)
  exact key _ ((((M0.alloc _).alloc _).alloc _).alloc _)
section
open Go.ChangeShapes Go.WideShapes Go.ChangeAt Go.RowKit
def laidT : List (String × DataW Unit) := [("math/bits.deBruijn32tab", Rows.laid_math_bits_deBruijn32tab), ("math/bits.deBruijn64tab", Rows.laid_math_bits_deBruijn64tab), ("internal/strconv.uint64pow10", Rows.laid_internal_strconv_uint64pow10), ("unicode/utf8.acceptRanges", Rows.laid_unicode_utf8_acceptRanges), ("errors.errorType", Rows.laid_errors_errorType), ("strconv.ErrRange", Rows.laid_strconv_ErrRange), ("strconv.ErrSyntax", Rows.laid_strconv_ErrSyntax), ("unicode/utf8.first", Rows.laid_unicode_utf8_first)]
def laidP : List (String × DataW Unit) := [("math/bits.deBruijn32tab", Rows.laid_math_bits_deBruijn32tab), ("math/bits.deBruijn64tab", Rows.laid_math_bits_deBruijn64tab), ("internal/strconv.uint64pow10", Rows.laid_internal_strconv_uint64pow10), ("unicode/utf8.acceptRanges", Rows.laid_unicode_utf8_acceptRanges), ("strconv.ErrRange", Rows.laid_strconv_ErrRange), ("strconv.ErrSyntax", Rows.laid_strconv_ErrSyntax), ("unicode/utf8.first", Rows.laid_unicode_utf8_first)]
def laidH : List (String × DataW Unit) := [("errors.errorType", Rows.laid_errors_errorType)]
theorem laidSplit (W : World) : laidMetH Tryz.prog laidT W = (laidMet Tryz.prog laidP W ∧ handlesMet Tryz.prog laidH W) := by kernel_rfl
theorem gErr : Tryz.prog.globalNamed "errors.errorType" = some 0 := by kernel_rfl
theorem rtyp : (Tryz.prog.cutTypes.find? (·.1 == "internal/reflectlite.rtype")).map (·.2) = some 283 := by kernel_rfl
theorem oneRow : ((List.range 398).filter fun t => Tryz.prog.rowNamed t [101, 114, 114, 111, 114]) = [133] := by kernel_rfl
theorem typN : Tryz.prog.types.size = 398 := by kernel_rfl
theorem gPow : Tryz.prog.globalNamed "internal/strconv.uint64pow10" = some 1 := by kernel_rfl
theorem gSyn : Tryz.prog.globalNamed "strconv.ErrSyntax" = some 5 := by kernel_rfl
theorem gRng : Tryz.prog.globalNamed "strconv.ErrRange" = some 6 := by kernel_rfl
theorem g64 : Tryz.prog.globalNamed "math/bits.deBruijn64tab" = some 8 := by kernel_rfl
theorem iface_cell {n nm : String} {d : DataW Unit} {r : List (String × DataW Unit)} {W : World} {g : Nat} {ti : TypeId} {ms : Array (String × TypeId)} (h : laidMet Tryz.prog ((n, .iface nm d) :: r) W) (hg : Tryz.prog.globalNamed n = some g) (ht : (Tryz.prog.globals[g]?).map (·.type) = some ti) (hi : Tryz.prog.underlying ti = some (.interface ms)) :
   ∃ ev, W.cell? ⟨g, 0, none⟩ = some ev ∧ (ev = .nilIface ∨ ∃ te pe, ev = .iface te pe) := by
 obtain ⟨ps, ⟨g0, t0, cs0, f0, p0, q0, hg0, ht0, hv0, hd0, _, e0⟩, _, hrows⟩ := h
 obtain rfl := Option.some.inj (hg.symm.trans hg0)
 obtain rfl := Option.some.inj (ht.symm.trans ht0)
 obtain ⟨f1, u, v, hc, hn, h1⟩ := iface_of_trod hi hd0
 refine ⟨.iface u v, ?_, .inr ⟨u, v, rfl⟩⟩
 have := World.var?_cell hg0 hv0 0
 rw [this]
 have h2 := congrArg List.head? hc
 obtain ⟨l0⟩ := cs0
 rw [List.head?_eq_getElem?] at h2
 simpa using h2
theorem some_cell {n : String} {d : DataW Unit} {r : List (String × DataW Unit)} {W : World} {g : Nat} (h : laidMet Tryz.prog ((n, d) :: r) W) (hg : Tryz.prog.globalNamed n = some g) : g < W.heap.size := by
 obtain ⟨ps, ⟨g0, t0, cs0, f0, p0, q0, hg0, ht0, hv0, hd0, _, e0⟩, _, hrows⟩ := h
 obtain rfl := Option.some.inj (hg.symm.trans hg0)
 unfold World.var? at hv0
 rw [hg] at hv0
 simp only [Option.bind_some] at hv0
 rcases Nat.lt_or_ge g W.heap.size with h9 | h9
 ·exact h9
 ·rw [Array.getElem?_eq_none h9] at hv0
  cases hv0
theorem of_laidP {W : World} (h : laidMet Tryz.prog laidP W) (hs : W.ShapedOpen Tryz.prog) : StrW W := by
 have h1 : laidMet Tryz.prog (("math/bits.deBruijn64tab", Rows.laid_math_bits_deBruijn64tab) :: _) W := h.tail
 have h2 : laidMet Tryz.prog (("internal/strconv.uint64pow10", Lib.tabData .u64 Lib.pow10Tab) :: _) W := h1.tail
 have h3 := h2.tail.tail
 have h4 := h3.tail
 refine ⟨Lib.tabIs_of_head gPow (t := 334) (e := 84) (n := 20) (by kernel_rfl) (by kernel_rfl) (by kernel_rfl) (by kernel_rfl) (by kernel_rfl) h2, ?_, iface_cell h4 gSyn (ti := 133) (by kernel_rfl) Tryz.underlying133, iface_cell h3 gRng (ti := 133) (by kernel_rfl) Tryz.underlying133, some_cell h1 g64⟩
 exact cell_of_shapedOpen_int (t := 3) (zero := #[.int .i64 0]) hs (of_decide_eq_true (by kernel_rfl)) (by kernel_rfl) rfl (by kernel_rfl) (by kernel_rfl) Tryz.underlying3
theorem c8 : Tryz.prog.cellsOf 5 = 1 := by kernel_rfl
theorem data64 : (Rows.laid_math_bits_deBruijn64tab : DataW Unit) = .agg (tabL.map fun n => .lit (.int .u8 n)) := rfl
theorem of_laid {W : World} (h : laidMet Tryz.prog laidP W) : TabW W := by
 obtain ⟨ps, ⟨g0, t0, cs0, f0, p0, q0, hg0, ht0, hv0, hd0, ⟨g1, t1, cs1, f1, p1, q1, hg1, ht1, hv1, hd1, _, _⟩, _⟩, _, _⟩ := h
 obtain rfl := Option.some.inj (g64.symm.trans hg1)
 have hu : ∃ n, Tryz.prog.underlying t1 = some (.array n 5) ∧ n = 64 := by
   have h2 : ((Tryz.prog.globals[8]?).map (·.type)).bind (fun t => Tryz.prog.underlying t) = some (.array 64 5) := by kernel_rfl
   rw [ht1] at h2
   exact ⟨64, h2, rfl⟩
 obtain ⟨n, hu, rfl⟩ := hu
 obtain ⟨xs, m1, rfl, hx1, hlen, hn3, hel⟩ := DataW.trod_array hu hd1
 have hx2 : xs.map (·.1) = tabL.map fun n => .lit (.int .u8 n) := by
   have h3 := congrArg Prod.fst hx1
   have h4 : (Rows.laid_math_bits_deBruijn64tab : DataW Unit) = .agg (xs.map (·.1)) := h3
   rw [data64] at h4
   injection h4 with h4
   exact h4.symm
 have key : ∀ k, k < 64 → W.cell? ⟨8, k, none⟩ = some (.int .u8 (tabL.getD k 0)) := fun k hk => by
   have he := hel k hk
   rw [c8, Nat.mul_one] at he
   rw [List.getElem?_eq_getElem (by omega)] at he
   obtain ⟨v, e1, e2, -⟩ := DataW.trod_int Tryz.underlying5 he
   have h5 : (xs.map (·.1))[k]? = some (.lit (.int .u8 v)) := by rw [List.getElem?_map, List.getElem?_eq_getElem (by omega), Option.map_some, e2]
   have hkl : k < tabL.length := hk
   rw [hx2, List.getElem?_map, List.getElem?_eq_getElem hkl, Option.map_some, Option.some.injEq] at h5
   injection h5 with h5
   injection h5 with _ h5
   have h6 := World.var?_cell hg1 hv1 k
   have h7 : cs1[k]? = some (.int .u8 v) := by
     have h8 := congrArg List.head? e1
     simp only [List.head?_take, List.head?_drop, List.head?_cons] at h8
     simpa using h8
   rw [h6, h7, ← h5, List.getD_eq_getElem?_getD, List.getElem?_eq_getElem hkl]
   rfl
 refine ⟨?_, fun k hk => ?_⟩
 · have := key 0 (by omega)
   obtain ⟨ob, h1, -⟩ := cell_isC this
   exact (Array.getElem?_eq_some_iff.1 h1).1
 · rw [show ((⟨8, 0, none⟩ : Addr).add (k * 1)) = ⟨8, k, none⟩ by rw [Addr.add_mid]; simp]
   exact key k hk
theorem as_laid {W : World} (h : handlesMet Tryz.prog laidH W) : AsW W := by
 obtain ⟨name, u, ty, e1, e2, e3, e4, e5⟩ := h _ (List.mem_singleton.2 rfl)
 have en : name = [101, 114, 114, 111, 114] := (Option.some.inj e1).symm
 subst en
 obtain rfl := Option.some.inj (rtyp.symm.trans e2)
 have hm : ty ∈ (List.range 398).filter fun t => Tryz.prog.rowNamed t [101, 114, 114, 111, 114] := List.mem_filter.2 ⟨List.mem_range.2 (by rw [← typN]; exact e3), e4⟩
 rw [oneRow] at hm
 obtain rfl := List.mem_singleton.1 hm
 have hh : typeHandle Tryz.prog 133 = .pointer (some ⟨9, 133, none⟩) := by kernel_rfl
 rw [hh] at e5
 have h9 := World.var?_cell gErr e5 0
 unfold AsW
 rw [h9]
 rfl
theorem of_laidT {W : World} (h : laidMetH Tryz.prog laidT W) (hs : W.ShapedOpen Tryz.prog) : StrW W ∧ AsW W ∧ TabW W := by
 rw [laidSplit] at h
 exact ⟨of_laidP h.1 hs, as_laid h.2, of_laid h.1⟩
section
variable {H : Type} {enc : TypeId × Value → H} {W : World}
theorem read_str {v : Value} {d : DataW H} {ps : List MemPlace} {b0 : Nat} (hv : Value.okWide Tryz.prog W .any b0 9 v) (h : DataW.Trod enc Tryz.prog W 0 (fun _ => true) true 9 v d ps) : ∃ l : List UInt8, v = sv l := by
 obtain ⟨fuel, hf⟩ := h
 obtain ⟨s, hs, -, -⟩ := DataW.trod_string Tryz.underlying9 hf
 unfold Value.okWide at hv
 simp only [Tryz.underlying9] at hv
 unfold Cell.okWide at hv
 cases v <;> simp [Value.cells, Cell.ok, Tryz.underlying9] at hv hs
 rename_i a
 exact ⟨a.data.toList, rfl⟩
theorem read_byte {v : Value} {d : DataW H} {ps : List MemPlace} {b0 : Nat} (hv : Value.okWide Tryz.prog W .any b0 5 v) (h : DataW.Trod enc Tryz.prog W 0 (fun _ => true) true 5 v d ps) : ∃ b : UInt8, v = .int .u8 ((b.toNat : Nat) : Int) := by
 obtain ⟨n, rfl, _, _, hw⟩ := open_int Tryz.underlying5 hv h
 simp [Lit.wf, IntKind.min, IntKind.max, IntKind.bits, IntKind.signed] at hw
 refine ⟨UInt8.ofNat n.toNat, ?_⟩
 have : (UInt8.ofNat n.toNat).toNat = n.toNat := by
  rw [UInt8.toNat_ofNat']
  omega
 rw [this]
 congr 1
 omega
theorem returnsT {a : Assume} {C : Checked} {os : Os} {f : FuncId} {fn : Func} {s : ChangeSpec} {conds : List PathCond} {apart fresh handsOn again : Bool} {X : World → Array Value → Prop}
  (hX : ∀ (w w' : World) (args : Array Value), w.heap = w'.heap → X w args → X w' args)
  (own : ownKnob C.prog.godebug = none) (started : os.Started) (noInit : C.prog.inits.idxOf? f = none) (hfn : C.prog.funcs[f]? = some fn)
  (witness : ∃ (w : World) (tape : Tape) (i : Input), w.os = os ∧ (w.forCall tape i).Shaped C.prog ∧ i.vars = [] ∧ Input.okWide C.prog (w.forCall tape i) .any w.heap.size f i ∧
   ((s.pre enc C.prog fn conds apart (w.forCall tape i).memory i.args ∧ X (w.forCall tape i).memory i.args) ∧ sizedMet enc C.prog fn (OpenSpec.ofChange s) apart (w.forCall tape i).memory i.args) ∧ a.holds C.prog (lone (Frame.enter C.prog f i.args .normal) [] (w.forCall tape i)))
  (contract : ∀ (W : World) (base : Nat) (args : Array Value) (ds gs : List (DataW H)) (before : List MemPlace),
   (∀ (j : Nat) t v, fn.params[j]? = some t → args[j]? = some v → Value.okWide C.prog W .any base t v) →
   DataW.Whole enc C.prog fn.params.toList s.vars apart W args.toList ds gs before →
   X W args → W.ShapedOpen C.prog →
   Calls C.prog f args W fun e W' => ∃ v, e = .returned v ∧ s.post enc C.prog fn apart fresh handsOn again W args v W') :
  ReturnsInHanded a C os f .any (fun w args => (s.pre enc C.prog fn conds apart w args ∧ X w args) ∧ sizedMet enc C.prog fn (OpenSpec.ofChange s) apart w args) (s.post enc C.prog fn apart fresh handsOn again) := by
 refine returnsInHanded_of_calls own started noInit witness ?_
 intro w tape i _ hsh _ hok hpre hholds
 obtain ⟨_, _, _, fn', hfn', _, _, _, _, hval⟩ := hok
 have e : fn' = fn := Option.some.inj (hfn'.symm.trans hfn)
 subst e
 obtain ⟨⟨⟨ds, gs, before, hw, hc⟩, hx⟩, hz⟩ := hpre
 have hw' := DataW.Whole.of_heap (w' := w.forCall tape i) (by rfl) hw
 refine (contract (w.forCall tape i) w.heap.size i.args ds gs before hval hw' (hX _ _ _ (by rfl) hx) hsh).mono fun e W' ⟨v, he, hp⟩ => ?_
 subst he
 exact ChangeSpec.post_blind hp
end
noncomputable def baseW (os : Os) : World :=
 let w0 := World.holding Tryz.prog os ⟨#[], #[], []⟩
 { w0 with heap := w0.heap.modify 0 fun
   | .cells _ t frozen => .cells #[.iface 283 (.agg #[.pointer (some ⟨9, 133, none⟩)])] t frozen
   | o => o }
noncomputable def startW (os : Os) : World := (baseW os).layVars Tryz.prog laidP
theorem startW_os (os : Os) : (startW os).os = os := (World.layVars_os _ _ _).trans rfl
theorem start_shT (os : Os) (args : Array Value) : ((startW os).forCall (fun _ _ => 0) ⟨#[], args, []⟩).Shaped Tryz.prog := World.shaped_of_ZipB (by kernel_rfl) (by kernel_rfl)
theorem laidPF : (laidT.filter fun x => x.2.handleName?.isNone) = laidP := by kernel_rfl
theorem start_metP (os : Os) (args : Array Value) : laidMet Tryz.prog laidP ((startW os).forCall (fun _ _ => 0) ⟨#[], args, []⟩).memory := by
 have e1 : (laidP.filter fun x => (laidP.map (·.1)).contains x.1) = laidP := List.filter_eq_self.2 fun x hx => List.contains_iff_mem.2 (List.mem_map.2 ⟨x, hx, rfl⟩)
 have e2 : (laidP.filter fun x => !(laidP.map (·.1)).contains x.1) = [] := List.filter_eq_nil_iff.2 fun x hx => by rw [List.contains_iff_mem.2 (List.mem_map.2 ⟨x, hx, rfl⟩)]; simp
 have h : laidMet Tryz.prog laidP (startW os) := laidMet_layVars (w0 := baseW os) (laidP.map (·.1)) [] (by rw [e1]; rfl) (by rw [e1]; kernel_rfl) (by rw [e1]; kernel_rfl) (by rw [e2]; exact LaidIn.none)
 exact h.of_heap (by simp [World.memory, World.forCall, Input.heap])
theorem start_metT (os : Os) (args : Array Value) : laidMetH Tryz.prog laidT ((startW os).forCall (fun _ _ => 0) ⟨#[], args, []⟩).memory :=
 laidMetH_of_parts (by rw [laidPF]; exact start_metP os args) (by kernel_rfl)
end
section
open Go.ChangeShapes Go.WideShapes Go.ChangeAt Go.RowKit
theorem cBool : Tryz.prog.cellsOf 4 = 1 := by kernel_rfl
theorem cPart : Tryz.prog.cellsOf 119 = 4 := by kernel_rfl
theorem cRange8 : Tryz.prog.cellsOf 26 = 2 := by kernel_rfl
theorem cParts : Tryz.prog.cellsOf 47 = 1 := by kernel_rfl
theorem cSheet : Tryz.prog.cellsOf 49 = 7 := by kernel_rfl
section
variable {H : Type} {enc : TypeId × Value → H} {P : Program} {W : World} {base : Nat} {sp : Nat → Bool} {hd : Bool}
theorem fieldOf8 {t : TypeId} {fs : Array Field} {fuel : Nat} {cs : List Value} {x : DataW H × List MemPlace} (ht : P.underlying t = some (.struct fs)) (h : DataW.trod enc P W base sp hd fuel t cs = some x) (i : Nat) (f : Field) (hf : fs[i]? = some f) :
  ∃ n y, DataW.trod enc P W base sp hd n f.type ((cs.drop f.offset).take (P.cellsOf f.type)) = some y := by
 obtain ⟨xs, n, _, _, _, hlen, hx⟩ := DataW.trod_struct ht h
 have hi : i < fs.size := (Array.getElem?_eq_some_iff.1 hf).1
 refine ⟨n, xs[i]'(by omega), ?_⟩
 rw [hx i f hf, List.getElem?_eq_getElem (by omega)]
theorem cell_int8 {t : TypeId} {k : IntKind} {fuel : Nat} {cs : List Value} {x : DataW H × List MemPlace} (ht : P.underlying t = some (.int k)) (h : DataW.trod enc P W base sp hd fuel t cs = some x) : ∃ n, cs = [.int k n] := by
 obtain ⟨n, h1, _⟩ := DataW.trod_int ht h
 exact ⟨n, h1⟩
theorem cell_bool8 {t : TypeId} {fuel : Nat} {cs : List Value} {x : DataW H × List MemPlace} (ht : P.underlying t = some .bool) (h : DataW.trod enc P W base sp hd fuel t cs = some x) : ∃ b, cs = [.bool b] := by
 obtain ⟨b, h1, _⟩ := DataW.trod_bool ht h
 exact ⟨b, h1⟩
theorem cells_range8 {fuel : Nat} {cs : List Value} {x : DataW H × List MemPlace} (h : DataW.trod enc Tryz.prog W base sp hd fuel 26 cs = some x) : ∃ a b, cs = [.int .i64 a, .int .i64 b] := by
 have hl : cs.length = 2 := by
  obtain ⟨_, _, _, _, hl, _⟩ := DataW.trod_struct Tryz.underlying26 h
  rw [hl, cRange8]
 match cs, hl with
 | [c0, c1], _ =>
  obtain ⟨_, _, h0⟩ := fieldOf8 Tryz.underlying26 h 0 _ rfl
  obtain ⟨_, _, h1⟩ := fieldOf8 Tryz.underlying26 h 1 _ rfl
  obtain ⟨a, ha⟩ := cell_int8 Tryz.underlying3 h0
  obtain ⟨b, hb⟩ := cell_int8 Tryz.underlying3 h1
  simp [cInt] at ha hb
  exact ⟨a, b, by rw [ha, hb]⟩
theorem cells_part {fuel : Nat} {cs : List Value} {x : DataW H × List MemPlace} (h : DataW.trod enc Tryz.prog W base sp hd fuel 119 cs = some x) : ∃ p : Pt, cs = pcE p := by
 have hl : cs.length = 4 := by
  obtain ⟨_, _, _, _, hl, _⟩ := DataW.trod_struct Tryz.underlying119 h
  rw [hl, cPart]
 match cs, hl with
 | [c0, c1, c2, c3], _ =>
  obtain ⟨_, _, h0⟩ := fieldOf8 Tryz.underlying119 h 0 _ rfl
  obtain ⟨_, _, h1⟩ := fieldOf8 Tryz.underlying119 h 1 _ rfl
  obtain ⟨_, _, h2⟩ := fieldOf8 Tryz.underlying119 h 2 _ rfl
  obtain ⟨_, _, h3⟩ := fieldOf8 Tryz.underlying119 h 3 _ rfl
  obtain ⟨a, e0⟩ := cell_int8 Tryz.underlying3 h0
  obtain ⟨b, e1⟩ := cell_int8 Tryz.underlying3 h1
  obtain ⟨g, e2⟩ := cell_bool8 Tryz.underlying4 h2
  obtain ⟨d, e3⟩ := cell_int8 Tryz.underlying3 h3
  simp [cInt, cBool] at e0 e1 e2 e3
  exact ⟨⟨a, b, g, d⟩, by rw [e0, e1, e2, e3]; rfl⟩
theorem cells_listK {α : Type} [Inhabited α] (en : α → List Value) (z : Nat) (hz : ∀ x, (en x).length = z) (h0 : 0 < z) (get : ∀ (l : List α) (k : Nat) {x : α}, l[k]? = some x → ∀ (i : Nat) (v : Value), (en x)[i]? = some v → (l.flatMap en)[k * z + i]? = some v) {ts te : TypeId} (hts : Tryz.prog.underlying ts = some (.slice te)) (hc : Tryz.prog.cellsOf te = z)
  (hel : ∀ (fuel : Nat) (cs : List Value) (x : DataW H × List MemPlace), DataW.trod enc Tryz.prog W 0 (fun _ => true) true fuel te cs = some x → ∃ p : α, cs = en p) {fuel : Nat} {cs : List Value} {x : DataW H × List MemPlace} (h : DataW.trod enc Tryz.prog W 0 (fun _ => true) true fuel ts cs = some x) (hlt : ∀ y ∈ x.2, y.block < W.heap.size) :
  ∃ (A : Option Addr) (c : Nat) (l : List α), cs = [.slice A l.length c] ∧ Rd W W.heap.size z A l.length (l.flatMap en) ∧ l.length ≤ 9223372036854775807 ∧ l.length ≤ c := by
 rcases Go.Deep.open_slice hts h with ⟨rfl, _⟩ | ⟨a, len, cap, m, n, D, Pl, rfl, _, hl, hm, hmm, rfl, hx⟩
 ·exact ⟨none, 0, [], rfl, ⟨by simp, fun h => absurd h (by simp)⟩, by simp, Nat.le_refl _⟩
 simp only [if_true] at hmm
 subst hmm
 rw [hc] at hx hlt
 obtain ⟨V, hV⟩ := Go.Deep.choose_lt (α := α) (p := fun i v => W.cells? 0 (a.add (i * z)) z = some (en v)) (fun i hi => by
  obtain ⟨cs', h1, h2⟩ := hx i hi
  obtain ⟨v, rfl⟩ := hel _ _ _ h2
  exact ⟨v, h1⟩)
 have hlen : ((List.range len).map V).length = len := by simp
 refine ⟨some a, m, (List.range len).map V, by rw [hlen], ?_, by rw [hlen]; unfold maxLen at hm; omega, by rw [hlen]; exact hl⟩
 rw [hlen]
 have hfl : ∀ l : List α, (l.flatMap en).length = l.length * z := fun l => by
  induction l with
  | nil => simp
  | cons y l ih => rw [List.flatMap_cons, List.length_append, ih, hz, List.length_cons, Nat.add_mul]; omega
 refine ⟨by rw [hfl, hlen], fun hn => ?_⟩
 obtain ⟨b, off, spot⟩ := a
 have hcell : ∀ k, k < m → ∀ i, (hi : i < z) → W.cell? (((⟨b, off, spot⟩ : Addr).add (k * z)).add i) = some ((en (V k))[i]'(by rw [hz]; exact hi)) := fun k hk i hi => by
  obtain ⟨_, _, h3⟩ := World.cells?_some (hV k hk)
  have q0 := h3 i (by omega)
  rw [q0, List.getElem?_eq_getElem]
 have hspot : spot = none := by simpa [Addr.add] using World.cell?_spot (hcell 0 (by omega) 0 h0)
 subst hspot
 refine ⟨b, off, rfl, hlt (.cell b off) (List.mem_append_left _ (MemPlace.mem_row.2 ⟨0, Nat.mul_pos (by omega) h0, by simp⟩)), fun j u hu => ?_⟩
 have hj : j < len * z := by
  have := (List.getElem?_eq_some_iff.1 hu).1
  rwa [hfl, hlen] at this
 have hk : j / z < len := Nat.div_lt_of_lt_mul (by rw [Nat.mul_comm]; exact hj)
 have hi : j % z < z := Nat.mod_lt _ h0
 have e : j = j / z * z + j % z := by rw [Nat.mul_comm]; exact (Nat.div_add_mod j z).symm
 have hV0 : ((List.range len).map V)[j / z]? = some (V (j / z)) := by rw [List.getElem?_map, List.getElem?_range hk]; rfl
 have g0 := get _ _ hV0 (j % z) _ (List.getElem?_eq_getElem (by rw [hz]; exact hi))
 rw [← e, hu] at g0
 have g1 := Option.some.inj g0
 have c0 := hcell (j / z) (by omega) (j % z) hi
 rw [Addr.add_mid, Addr.add_mid, Nat.add_assoc, ← e] at c0
 rw [c0, g1]
theorem cells_sheet {fuel : Nat} {cs : List Value} {x : DataW H × List MemPlace} (h : DataW.trod enc Tryz.prog W 0 (fun _ => true) true fuel 49 cs = some x) (hlt : ∀ y ∈ x.2, y.block < W.heap.size) :
  ∃ (s : Sk) (A : Option Addr) (c : Nat), cs = [.int .i64 s.lo, .int .i64 s.wi, .int .i64 s.a0, .int .i64 s.a1, .int .i64 s.c0, .int .i64 s.c1, .slice A s.ps.length c] ∧ Rd W W.heap.size 4 A s.ps.length (pc s.ps) ∧ s.ps.length ≤ 9223372036854775807 ∧ s.ps.length ≤ c := by
 have h' := h
 obtain ⟨xs, n, _, rfl, hl, hlen, hx⟩ := DataW.trod_struct Tryz.underlying49 h
 rw [cSheet] at hl
 match cs, hl with
 | [c0, c1, c2, c3, c4, c5, c6], _ =>
  obtain ⟨_, _, h0⟩ := fieldOf8 Tryz.underlying49 h' 0 _ rfl
  obtain ⟨_, _, h1⟩ := fieldOf8 Tryz.underlying49 h' 1 _ rfl
  obtain ⟨_, _, h2⟩ := fieldOf8 Tryz.underlying49 h' 2 _ rfl
  obtain ⟨_, _, h3⟩ := fieldOf8 Tryz.underlying49 h' 3 _ rfl
  have h4 := hx 4 _ rfl
  rw [List.getElem?_eq_getElem (by simp at hlen; omega)] at h4
  obtain ⟨A, c, l, e4, hr, hn, hc⟩ := cells_listK pcE 4 (fun _ => rfl) (by omega) pc_get Tryz.underlying47 cPart (fun _ _ _ h9 => cells_part h9) h4 (fun y hy => hlt y (List.mem_flatMap.2 ⟨_, List.getElem_mem _, hy⟩))
  obtain ⟨lo, e0⟩ := cell_int8 Tryz.underlying3 h0
  obtain ⟨wi, e1⟩ := cell_int8 Tryz.underlying3 h1
  obtain ⟨a0, a1, e2⟩ := cells_range8 h2
  obtain ⟨k0, k1, e3⟩ := cells_range8 h3
  simp [cRange8, cInt, cParts] at e0 e1 e2 e3 e4
  obtain ⟨rfl, rfl⟩ := e2
  obtain ⟨rfl, rfl⟩ := e3
  subst e0
  subst e1
  subst e4
  exact ⟨⟨lo, wi, a0, a1, k0, k1, l⟩, A, c, rfl, hr, hn, hc⟩
theorem read_sheet {v : Value} {d : DataW H} {ps : List MemPlace} {b0 : Nat} (hv : Value.okWide Tryz.prog W .any b0 49 v) (h : DataW.Trod enc Tryz.prog W 0 (fun _ => true) true 49 v d ps) (hlt : ∀ x ∈ ps, x.block < W.heap.size) :
  ∃ (s : Sk) (A : Option Addr) (c : Nat), v = .agg #[.int .i64 s.lo, .int .i64 s.wi, .int .i64 s.a0, .int .i64 s.a1, .int .i64 s.c0, .int .i64 s.c1, .slice A s.ps.length c] ∧ Rd W W.heap.size 4 A s.ps.length (pc s.ps) ∧ s.ps.length ≤ 9223372036854775807 ∧ s.ps.length ≤ c := by
 obtain ⟨cs, rfl, _⟩ := okWide_struct Tryz.underlying49 hv
 obtain ⟨fuel, hf⟩ := h
 obtain ⟨s, A, c, e, hr, hn, hc⟩ := cells_sheet hf hlt
 refine ⟨s, A, c, ?_, hr, hn, hc⟩
 have e' : cs.toList = _ := e
 have e2 := congrArg List.toArray e'
 rw [Array.toArray_toList] at e2
 rw [e2]
end
end
def outS (t : List UInt8) : Sum Int Sk := match rowsS false 0 (spl 10 t).dropLast zeroS with
 | .inl r => .inl (r : Int)
 | .inr (en, s) => if en = false ∨ (spl 10 t).getLast? ≠ some [] then .inl ((spl 10 t).length : Int) else .inr s
theorem out_bad {t : List UInt8} {r : Nat} (h : rowsS false 0 (spl 10 t).dropLast zeroS = .inl r) : outS t = .inl (r : Int) := by unfold outS; rw [h]
theorem out_end {t : List UInt8} {en : Bool} {s : Sk} {zl : List UInt8} (h : rowsS false 0 (spl 10 t).dropLast zeroS = .inr (en, s)) (hz : (spl 10 t)[(spl 10 t).length - 1]? = some zl) (hc : ((!en) || (!decide (zl = []))) = true) : outS t = .inl ((spl 10 t).length : Int) := by
 unfold outS
 rw [h]
 dsimp only
 rw [if_pos]
 simp only [Bool.or_eq_true, Bool.not_eq_true', decide_eq_false_iff_not] at hc
 rcases hc with h1 | h1
 ·exact .inl h1
 ·refine .inr fun e => h1 ?_
  rw [List.getLast?_eq_getElem?, hz] at e
  injection e
theorem out_go {t : List UInt8} {en : Bool} {s : Sk} {zl : List UInt8} (h : rowsS false 0 (spl 10 t).dropLast zeroS = .inr (en, s)) (hz : (spl 10 t)[(spl 10 t).length - 1]? = some zl) (hc : ((!en) || (!decide (zl = []))) = false) : outS t = .inr s := by
 unfold outS
 rw [h]
 dsimp only
 simp only [Bool.or_eq_false_iff, Bool.not_eq_false', decide_eq_true_eq] at hc
 rw [if_neg]
 rintro (h1 | h1)
 ·rw [hc.1] at h1; cases h1
 ·rw [List.getLast?_eq_getElem?, hz, hc.2] at h1
  exact h1 rfl
theorem rd_out {t : List UInt8} : endS skErr (spl 10 t) (rowsS false 0 (spl 10 t).dropLast zeroS) = match outS t with
  | .inl r => (zeroS, r, 2)
  | .inr s => if skErr s ≠ 0 then (zeroS, 0, skErr s) else (s, 0, 0) := by
 unfold endS outS
 cases rowsS false 0 (spl 10 t).dropLast zeroS with
 | inl r => rfl
 | inr y =>
  obtain ⟨en, s⟩ := y
  dsimp only
  split <;> rfl
section
variable {en : Bool} {i : Nat} {ls ws : List (List UInt8)} {r : List UInt8} {s t : Sk} {x : Sum Nat (Bool × Sk)}
theorem rt_sawn (h : ls[i]? = some r) (H : x = rowsS en i (ls.drop i) s) (he : en = false) (hc : (decide (0 < (i : Int)) && decide (r = [115, 97, 119, 110])) = true) : x = rowsS true (i + 1) (ls.drop (i + 1)) s := by
 simp only [Bool.and_eq_true, decide_eq_true_eq] at hc
 exact rw_sawn h H he (by omega) hc.2
theorem rt_go (h : ls[i]? = some r) (H : x = rowsS en i (ls.drop i) s) (he : en = false) (hc : (decide (0 < (i : Int)) && decide (r = [115, 97, 119, 110])) = false) (hw : ws = spl 32 r) (ht : (if decide ((i : Int) = 0) = true then headS ws s else partS ws s) = some t) : x = rowsS en (i + 1) (ls.drop (i + 1)) t := by
 subst hw
 by_cases h0 : i = 0
 ·rw [if_pos (Zdt (by omega))] at ht
  exact rw_head h H he h0 ht
 ·rw [if_neg (by simp; omega)] at ht
  refine rw_part h H he h0 (fun e => ?_) ht
  rw [Zdt (show (0 : Int) < (i : Int) by omega), Zdt (show r = [115, 97, 119, 110] from e)] at hc
  cases hc
theorem rt_no (h : ls[i]? = some r) (H : x = rowsS en i (ls.drop i) s) (he : en = false) (hc : (decide (0 < (i : Int)) && decide (r = [115, 97, 119, 110])) = false) (hw : ws = spl 32 r) (ht : (if decide ((i : Int) = 0) = true then headS ws s else partS ws s) = none) : x = .inl (i + 1) := by
 subst hw
 by_cases h0 : i = 0
 ·rw [if_pos (Zdt (by omega))] at ht
  exact rw_headN h H he h0 ht
 ·rw [if_neg (by simp; omega)] at ht
  refine rw_partN h H he h0 (fun e => ?_) ht
  rw [Zdt (show (0 : Int) < (i : Int) by omega), Zdt (show r = [115, 97, 119, 110] from e)] at hc
  cases hc
end
def ReadE (t : List UInt8) (w : World) (e : Ending) (w' : World) : Prop := ∃ (s' : Sk) (A : Option Addr) (c : Nat) (I : List (Nat × BA)) (ev : Value), e = .returned (.tuple #[.agg #[.int .i64 s'.lo, .int .i64 s'.wi, .int .i64 s'.a0, .int .i64 s'.a1, .int .i64 s'.c0, .int .i64 s'.c1, .slice A s'.ps.length c], ev]) ∧ Sl 119 4 (.slice A s'.ps.length c) s'.ps.length (pc s'.ps) I ∧ Mem w noEx w' I ∧ s'.ps.length ≤ 1000 ∧ ((ev = .nilIface ∧ outS t = .inr s') ∨ ∃ r : Int, ev = .iface 137 (.agg #[.int .i64 r]) ∧ outS t = .inl r)
theorem sread_any (text : List UInt8) (w : World) (hx3 : text.length ≤ 300) (hT : StrW w)  :
   Calls Tryz.prog 72 #[sv text] w (ReadE text w) := by
 refine Zpx noEx Tryz.func72 rfl 66 rfl [sv text] rfl rfl (Mem.init w _) ?_
 intro ac wc T M
 refine Zsr ?_
 refine Zl2 ?_
 refine Zoa M T rfl rfl rfl rfl ?_; clear M T; intro g1 wc ac M T
 refine lq T (Zra rfl evc) ?_; clear T ac; intro ac T
 replace T := T.pick [1, 2] rfl
 refine Zln ?_
 refine Zsr ?_
 refine lq T (Zrm rfl (T.e 1 rfl)) ?_; clear T ac; intro ac T
 refine Zl2 ?_
 refine Zoc (first := []) (cap := []) T rfl rfl rfl rfl evf (.cons (T.e 0 rfl) (.cons evc .nil)) Tryz.func46 rfl rfl ?_
 refine Calls.mono (Split2_any text 10 _ (by omega) (hT.mem0 M)) ?_
 clear T; rintro e wc ⟨Au1, cu1, bu1, ou1, Iu1, rfl, hc9u1, SVu1, N⟩ ac T
 obtain ⟨lsu1, hlsu1⟩ : ∃ q, q = spl 10 text := ⟨_, rfl⟩
 rw [← hlsu1] at hc9u1 SVu1 T
 have Su1 := SVu1 w noEx
 replace M := (M.join N).swapI
 clear N
 replace M : Mem w noEx wc ((g1, .cells [.int .i64 0, .int .i64 0, .int .i64 0, .int .i64 0, .int .i64 0, .int .i64 0, .slice none 0 0]) :: Iu1) := (Mem.permS (L' := ((g1, .cells [.int .i64 0, .int .i64 0, .int .i64 0, .int .i64 0, .int .i64 0, .int .i64 0, .slice none 0 0]) :: Iu1)) M (fun f => by simp only [sumF_app, sumF_cons, sumF_nil, List.cons_append, List.nil_append, List.append_nil, Nat.add_zero, Nat.zero_add] <;> omega))
 have hlenu1 : lsu1.length ≤ text.length + 1 := by rw [hlsu1]; exact spl_len _ _
 have hposu1 : 0 < lsu1.length := by rw [hlsu1]; exact spl_pos _ _
 refine lq T (Zra rfl (T.e 0 rfl)) ?_; clear T ac; intro ac T
 replace T := T.pick [0, 3] rfl
 refine Zln ?_
 refine Zsr ?_
 refine Zg4 T (Zq (Zrm rfl (T.e 0 rfl))) rfl (Zl Tryz.underlying37 0 rfl rfl) rfl (fun _ T => Zq (rn_sub rfl (T.e 0 rfl) evc (by omega))) rfl (Za 0 rfl rfl) rfl ?_; clear T ac; intro ac T
 replace T := T.pick [0, 4, 5] rfl
 refine Zln ?_
 refine Zsr ?_
 refine Zl2 ?_
 refine Zoa M T rfl rfl rfl rfl ?_; clear M T; intro g2 wc ac M T
 refine Zln ?_
 refine Zsr ?_
 refine lq T (Zra rfl evc) ?_; clear T ac; intro ac T
 refine Zln ?_
 refine wp_seq ?_
 refine Zsr ?_
 refine Zg3 T (Zq (Zrm rfl (T.e 3 rfl))) rfl (Zm 3 rfl rfl) rfl (fun _ T => Zq (rn_slice (size := 1) (l := 0) (h := (lsu1.length - 1)) rfl Tryz.underlying37 (by kernel_rfl) (T.e 1 rfl) rfl ((T.e 0 rfl).trans (congrArg (Value.int .i64) (by omega))) (by omega) (by omega))) rfl ?_; clear T ac; intro ac T
 obtain ⟨Aq1, hAq1⟩ : ∃ q : Option Addr, q = (if cu1 = 0 then Au1 else Option.map (fun x : Addr => x.add (0 * 1)) Au1) := ⟨_, rfl⟩
 rw [← hAq1] at T
 obtain ⟨lq1, hlq1⟩ : ∃ q, q = (lsu1.drop 0).take ((lsu1.length - 1) - 0) := ⟨_, rfl⟩
 have nlq1 : lq1.length = (lsu1.length - 1) - 0 := by rw [hlq1, List.length_take, List.length_drop]; (try simp only [List.length_cons, List.length_append, List.length_nil]); omega
 rw [← nlq1] at T
 have SAq1 : Sp w noEx Iu1 Aq1 lq1.length 1 bu1 (ou1 + 0 * 1) (st lq1) := by rw [nlq1, hAq1, hlq1, ← st_part]; exact Su1.sub (by omega) (by omega) (by omega)
 refine Zg2 T (Zq (Zrl rfl Tryz.underlying37 (T.e 0 rfl))) rfl (fun _ T => Zq (Zrm rfl evc)) rfl ?_; clear T ac; intro ac T
 replace T := T.pick [0, 1, 2, 5, 6, 7, 8, 9] rfl
 refine Zln ?_
 refine wp_block ?_
 have hdl : lq1 = lsu1.dropLast := by rw [hlq1, List.dropLast_eq_take]; rfl
 refine wp_loop_n (fun mz ac wc => ∃ (i : Nat) (en : Bool) (s : Sk) (A : Option Addr) (c : Nat) (Ia : List (Nat × BA)), mz = lq1.length - i ∧ (i ≤ lq1.length) ∧ (rowsS false 0 lq1 zeroS = rowsS en i (lq1.drop i) s) ∧ (Sl 119 4 (.slice A s.ps.length c) s.ps.length (pc s.ps) Ia) ∧ (s.ps.length ≤ i) ∧ Tm ac 66 [(2, .pointer (some ⟨g1, 0, none⟩)), (4, .slice Au1 lsu1.length cu1), (5, .int .i64 (((lsu1.length : Nat) : Int) - 1)), (6, .pointer (some ⟨g2, 0, none⟩)), (7, .bool en), (17, .slice Aq1 lq1.length (cu1 - 0)), (18, .int .i64 ((lq1.length : Nat) : Int)), (19, .int .i64 (i : Int))] ∧ Mem w noEx wc ((g2, .cells [.int .i64 s.lo, .int .i64 s.wi, .int .i64 s.a0, .int .i64 s.a1, .int .i64 s.c0, .int .i64 s.c1, .slice A s.ps.length c]) :: (g1, .cells [.int .i64 0, .int .i64 0, .int .i64 0, .int .i64 0, .int .i64 0, .int .i64 0, .slice none 0 0]) :: (Iu1 ++ Ia))) ?_ ?_
 ·exact ⟨_, 0, false, zeroS, none, 0, [], rfl, (Nat.zero_le _), rfl, (Sl.nil _ _), (Nat.zero_le _), T.pick [7, 6, 5, 4, 3, 2, 1, 0] rfl, (by simp only [List.append_nil]; exact M)⟩
 clear T M
 rintro mz ac wc ⟨i, en, s, A, c, Ia, hmm1, hi, H, hsA, hn, T, M⟩
 refine Zsr ?_
 refine lq T (rn_lss rfl (T.e 7 rfl) (T.e 6 rfl)) ?_; clear T ac; intro ac T
 refine Zln ?_
 refine wp_seq ?_
 refine wp_if (T.e 0 rfl) ?_ ?_
 ·intro h1
  obtain ⟨s9, hks⟩ : ∃ q, lq1[i]? = some q := ⟨_, List.getElem?_eq_getElem (by omega)⟩
  have hsm : s9 ∈ lsu1 := by have h9 := List.mem_of_getElem? hks; rw [hdl] at h9; exact (List.dropLast_sublist _).subset h9
  have hsl8 : s9.length ≤ text.length := spl_mem_len (c := 10) (by rw [← hlsu1]; exact hsm)
  refine Zsk ?_
  refine wp_seq ?_
  refine wp_block ?_
  refine Zsr ?_
  refine Zg5 T (Zq (Zrm rfl (T.e 8 rfl))) rfl (fun _ T => Zq (Zri (size := 1) i rfl (T.e 7 rfl) (T.e 9 rfl) ⟨_, Tryz.underlying37, by kernel_rfl⟩ rfl (by omega) (SAq1.at0 (by omega)))) rfl (fun _ T => Zq (rn_cell (Sp.stC0 SAq1 M (.cons _ (.cons _ (subL (List.Sublist.refl _)))) hks) rfl (T.e 0 rfl))) rfl (Za 2 rfl rfl) rfl (Za 1 rfl rfl) rfl ?_; clear T ac; intro ac T
  replace T := T.pick [0, 1, 6, 7, 8, 9, 10, 11, 12, 13] rfl
  refine Zln ?_
  refine wp_block ?_
  refine Zsr ?_
  refine Zg2 T (Zq (Zrm rfl (T.e 6 rfl))) rfl (Za 0 rfl rfl) rfl ?_; clear T ac; intro ac T
  replace T := T.pick [0, 2, 3, 4, 5, 6, 7, 8, 9, 10, 11] rfl
  refine Zln ?_
  refine wp_cond_split (T.e 0 rfl) ?_ ?_
  ·intro h2
   refine Zsr ?_
   refine Zg5 (v4 := (.agg #[.int .i64 ((i : Int) + 1)])) T (Zq (Zrr (Mem.nth M 0 rfl) rfl (T.e 6 rfl) rfl)) rfl (Zm 3 rfl rfl) rfl (fun _ T => Zq (rn_add rfl (T.e 0 rfl) evc (by omega))) rfl (fun _ T => Zq (rn_build rfl (.cons (T.e 0 rfl) .nil) (fun _ => by kernel_rfl))) rfl (fun _ T => Zq (rn_mi rfl (by kernel_rfl) (T.e 0 rfl))) rfl ?_; clear T ac; intro ac T
   refine Zl2 ?_
   refine Zos M T rfl rfl (T.e 8 rfl) (T.e 4 rfl) rfl (.tail .head) rfl (by simp) rfl (by kernel_rfl) ?_; clear M T; intro wc ac M T
   refine lq T (Zra rfl (T.e 0 rfl)) ?_; clear T ac; intro ac T
   refine wpList_nil ?_
   replace T := T.pick [0, 9] rfl
   replace M := M.mask [false, true] rfl
   refine Znr ?_
   refine Zrb ?_
   refine Zrb ?_
   refine Zrt ?_
   refine Zrt ?_
   refine Zrb ?_
   refine Zrt ?_
   refine rt_ct M T rfl (T.e 1 rfl) (T.e 0 rfl) (Zne (i := 0) rfl) rfl ?_
   have hb9 := rw_en hks H (by assumption)
   rw [hdl, hlsu1] at hb9
   exact ⟨s, A, c, Ia, _, rfl, hsA, (Mem.subS (L' := (Ia)) ((g1, .cells [.int .i64 s.lo, .int .i64 s.wi, .int .i64 s.a0, .int .i64 s.a1, .int .i64 s.c0, .int .i64 s.c1, .slice A s.ps.length c]) :: Iu1) M (fun f => by simp only [sumF_app, sumF_cons, sumF_nil, List.cons_append, List.nil_append, List.append_nil, Nat.add_zero, Nat.zero_add] <;> omega)), by omega, .inr ⟨_, rfl, (by rw [out_bad hb9]; push_cast; rfl)⟩⟩
  intro h2
  refine cut_seq (fun ac wc => Tm ac 66 [(2, .pointer (some ⟨g1, 0, none⟩)), (4, .slice Au1 lsu1.length cu1), (5, .int .i64 (((lsu1.length : Nat) : Int) - 1)), (6, .pointer (some ⟨g2, 0, none⟩)), (7, .bool en), (8, .int .i64 (i : Int)), (9, sv s9), (17, .slice Aq1 lq1.length (cu1 - 0)), (18, .int .i64 ((lq1.length : Nat) : Int)), (19, .int .i64 (i : Int)), (31, .bool ((decide (0 < (i : Int))) && (decide (s9 = ([115, 97, 119, 110])))))] ∧ Mem w noEx wc ((g2, .cells [.int .i64 s.lo, .int .i64 s.wi, .int .i64 s.a0, .int .i64 s.a1, .int .i64 s.c0, .int .i64 s.c1, .slice A s.ps.length c]) :: (g1, .cells [.int .i64 0, .int .i64 0, .int .i64 0, .int .i64 0, .int .i64 0, .int .i64 0, .slice none 0 0]) :: (Iu1 ++ Ia))) ?_ ?_
  ·refine wp_region_lit ?_
   refine Zg3 T (Zq (Zrm rfl (T.e 2 rfl))) rfl (fun _ T => Zq (rn_gtr rfl (T.e 0 rfl) evc)) rfl (Zm 0 rfl rfl) rfl ?_; clear T ac; intro ac T
   rcases Bool.eq_false_or_eq_true (decide (0 < (i : Int))) with h3 | h3
   ·replace h3 := of_decide_eq_true h3
    refine Zg4 T (Zw (Zwy rfl rfl (T.e 0 rfl) (Zdt h3)) (Zrm rfl (T.e 4 rfl))) rfl (fun _ T => Zw (Zwy rfl rfl (T.e 1 rfl) (Zdt h3)) (rn_seql rfl (T.e 0 rfl) evc)) rfl (fun _ T => Zq (Zr1 rfl (T.e 2 rfl) (Zdt h3) (T.e 0 rfl))) rfl (Za 0 rfl rfl) rfl ?_; clear T ac; intro ac T
    refine wpList_nil ?_
    replace T := T.pick [0, 2, 3, 8, 9, 10, 11, 12, 13, 14, 15, 16, 17] rfl
    exact ⟨(T.pick (E' := [(2, .pointer (some ⟨g1, 0, none⟩)), (4, .slice Au1 lsu1.length cu1), (5, .int .i64 (((lsu1.length : Nat) : Int) - 1)), (6, .pointer (some ⟨g2, 0, none⟩)), (7, .bool en), (8, .int .i64 (i : Int)), (9, sv s9), (17, .slice Aq1 lq1.length (cu1 - 0)), (18, .int .i64 ((lq1.length : Nat) : Int)), (19, .int .i64 (i : Int)), (31, .bool (decide (s9 = ([115, 97, 119, 110]))))]) [5, 6, 7, 8, 9, 4, 3, 10, 11, 12, 0] rfl).as (by (try rw [show (decide (0 < (i : Int))) = true from (Zdt h3)]); (try rfl)), M.mask [true, true] rfl⟩
   replace h3 := of_decide_eq_false h3
   refine Zg4 T (Zp (Zwn rfl rfl (T.e 0 rfl) (Zdf h3))) rfl (fun _ T => Zp (Zwn rfl rfl (T.e 1 rfl) (Zdf h3))) rfl (fun _ T => Zq (Zr0 rfl (T.e 2 rfl) (Zdf h3) evc)) rfl (Za 0 rfl rfl) rfl ?_; clear T ac; intro ac T
   refine wpList_nil ?_
   replace T := T.pick [0, 2, 3, 8, 9, 10, 11, 12, 13, 14, 15, 16, 17] rfl
   exact ⟨(T.pick (E' := [(2, .pointer (some ⟨g1, 0, none⟩)), (4, .slice Au1 lsu1.length cu1), (5, .int .i64 (((lsu1.length : Nat) : Int) - 1)), (6, .pointer (some ⟨g2, 0, none⟩)), (7, .bool en), (8, .int .i64 (i : Int)), (9, sv s9), (17, .slice Aq1 lq1.length (cu1 - 0)), (18, .int .i64 ((lq1.length : Nat) : Int)), (19, .int .i64 (i : Int)), (31, .bool false)]) [5, 6, 7, 8, 9, 4, 3, 10, 11, 12, 0] rfl).as (by (try rw [show (decide (0 < (i : Int))) = false from (Zdf h3)]); (try rfl)), M.mask [true, true] rfl⟩
  clear T M
  rintro ac wc ⟨T, M⟩
  refine wp_cond_split (T.e 10 rfl) ?_ ?_
  ·intro h4
   (have h4' := h4; try simp only [Zb1, Zb2, Zb3, Zb4, Zb5, Zb6, Zb7] at h4')
   refine wp_region_lit ?_
   refine l_q (v := (.bool true)) (T.pick [0, 1, 2, 3, 5, 6, 7, 8, 9, 10] rfl) rfl rfl rfl rfl (Zra rfl evc) ?_; clear T ac; intro ac T
   refine wpList_nil ?_
   replace T := T.pick [0, 1, 2, 3, 4, 7, 8, 9] rfl
   refine Znb ?_
   refine Znb ?_
   refine nm_then ?_
   refine wp_region_lit ?_
   refine lq T (rn_add rfl (T.e 7 rfl) evc (by omega)) ?_; clear T ac; intro ac T
   refine l_q (v := (.int .i64 ((i : Int) + 1))) (T.pick [0, 1, 2, 3, 4, 5, 6, 7] rfl) rfl rfl rfl rfl (Zrm rfl (T.e 0 rfl)) ?_; clear T ac; intro ac T
   replace T := T.pick [0, 2, 3, 4, 5, 6, 7, 8] rfl
   refine Zln ?_
   have hH := rt_sawn hks H (by assumption) (by assumption)
   exact ⟨_, by omega, i + 1, true, s, A, c, Ia, rfl, (by omega), hH, hsA, (by omega), T.pick [2, 3, 4, 5, 1, 6, 7, 0] rfl, (Mem.subS ([]) M (fun f => by simp only [sumF_app, sumF_cons, sumF_nil, List.cons_append, List.nil_append, List.append_nil, Nat.add_zero, Nat.zero_add] <;> omega))⟩
  intro h4
  (have h4' := h4; try simp only [Zb1, Zb2, Zb3, Zb4, Zb5, Zb6, Zb7] at h4')
  refine Zsr ?_
  refine lq T (Zrm rfl (T.e 6 rfl)) ?_; clear T ac; intro ac T
  refine Zl2 ?_
  refine Zoc (first := []) (cap := []) T rfl rfl rfl rfl evf (.cons (T.e 0 rfl) (.cons evc .nil)) Tryz.func46 rfl rfl ?_
  refine Calls.mono (Split2_any s9 32 _ (by omega) (hT.mem0 M)) ?_
  clear T; rintro e wc ⟨Au2, cu2, bu2, ou2, Iu2, rfl, hc9u2, SVu2, N⟩ ac T
  obtain ⟨lsu2, hlsu2⟩ : ∃ q, q = spl 32 s9 := ⟨_, rfl⟩
  rw [← hlsu2] at hc9u2 SVu2 T
  have Su2 := SVu2 w noEx
  replace M := (M.join N).swapI
  clear N
  replace M : Mem w noEx wc ((g2, .cells [.int .i64 s.lo, .int .i64 s.wi, .int .i64 s.a0, .int .i64 s.a1, .int .i64 s.c0, .int .i64 s.c1, .slice A s.ps.length c]) :: (g1, .cells [.int .i64 0, .int .i64 0, .int .i64 0, .int .i64 0, .int .i64 0, .int .i64 0, .slice none 0 0]) :: (Iu1 ++ Ia ++ Iu2)) := (Mem.permS (L' := ((g2, .cells [.int .i64 s.lo, .int .i64 s.wi, .int .i64 s.a0, .int .i64 s.a1, .int .i64 s.c0, .int .i64 s.c1, .slice A s.ps.length c]) :: (g1, .cells [.int .i64 0, .int .i64 0, .int .i64 0, .int .i64 0, .int .i64 0, .int .i64 0, .slice none 0 0]) :: (Iu1 ++ Ia ++ Iu2))) M (fun f => by simp only [sumF_app, sumF_cons, sumF_nil, List.cons_append, List.nil_append, List.append_nil, Nat.add_zero, Nat.zero_add] <;> omega))
  have hlenu2 : lsu2.length ≤ s9.length + 1 := by rw [hlsu2]; exact spl_len _ _
  have hposu2 : 0 < lsu2.length := by rw [hlsu2]; exact spl_pos _ _
  refine Zg2 T (Zq (Zrm rfl (T.e 7 rfl))) rfl (fun _ T => Zq (rn_eql rfl (T.e 0 rfl) evc)) rfl ?_; clear T ac; intro ac T
  refine Zl2 ?_
  have Mq : Mem w noEx wc (((g2, .cells [.int .i64 s.lo, .int .i64 s.wi, .int .i64 s.a0, .int .i64 s.a1, .int .i64 s.c0, .int .i64 s.c1, .slice A s.ps.length c]) :: Ia) ++ ((g1, .cells [.int .i64 0, .int .i64 0, .int .i64 0, .int .i64 0, .int .i64 0, .int .i64 0, .slice none 0 0]) :: (Iu1 ++ Iu2))) := M.permS (fun f => by simp only [sumF_app, sumF_cons, sumF_nil, List.cons_append, List.nil_append, List.append_nil, Nat.add_zero, Nat.zero_add] <;> omega)
  have My : Mem w noEx wc ((g2, .cells [.int .i64 s.lo, .int .i64 s.wi, .int .i64 s.a0, .int .i64 s.a1, .int .i64 s.c0, .int .i64 s.c1, .slice A s.ps.length c]) :: Ia) := Mq.sub (Zsl _ _)
  have Sx := Sp.of (ex' := inL ((g2, .cells [.int .i64 s.lo, .int .i64 s.wi, .int .i64 s.a0, .int .i64 s.a1, .int .i64 s.c0, .int .i64 s.c1, .slice A s.ps.length c]) :: Ia)) Mq (fun _ h => h) (SVu2 w noEx) (.cons _ (Zsq _ _))
  refine Zoc (first := []) (cap := []) T rfl rfl rfl rfl evf (.cons (T.e 7 rfl) (.cons (T.e 2 rfl) (.cons (T.e 0 rfl) .nil))) Tryz.func144 rfl rfl ?_
  refine Calls.mono (stake_any g2 s A c Ia (inL ((g2, .cells [.int .i64 s.lo, .int .i64 s.wi, .int .i64 s.a0, .int .i64 s.a1, .int .i64 s.c0, .int .i64 s.c1, .slice A s.ps.length c]) :: Ia)) Au2 cu2 bu2 ou2 lsu2 (decide ((i : Int) = 0)) _ (fun wq Lq Mx => hT.mem0 (Mem.joinX (X := ((g2, .cells [.int .i64 s.lo, .int .i64 s.wi, .int .i64 s.a0, .int .i64 s.a1, .int .i64 s.c0, .int .i64 s.c1, .slice A s.ps.length c]) :: Ia)) (F := ((g1, .cells [.int .i64 0, .int .i64 0, .int .i64 0, .int .i64 0, .int .i64 0, .int .i64 0, .slice none 0 0]) :: (Iu1 ++ Iu2))) Mq Mx (fun b h => h))) Sx hposu2 (by omega) (fun p hp => by rw [hlsu2] at hp; have := spl_mem_len (c := 32) (s := s9) hp; omega) (by omega) hsA My.rebase) ?_
  clear T; rintro e wc ⟨rfl, squ3, Lqu3, N9, ⟨Acu3, ccu3, Iqu3, rfl, hsqu3⟩, hnqu3, hvqu3⟩ ac T
  replace M := Mem.joinX (X := ((g2, .cells [.int .i64 s.lo, .int .i64 s.wi, .int .i64 s.a0, .int .i64 s.a1, .int .i64 s.c0, .int .i64 s.c1, .slice A s.ps.length c]) :: Ia)) (X' := ((g2, .cells [.int .i64 squ3.lo, .int .i64 squ3.wi, .int .i64 squ3.a0, .int .i64 squ3.a1, .int .i64 squ3.c0, .int .i64 squ3.c1, .slice Acu3 squ3.ps.length ccu3]) :: Iqu3)) (F := ((g1, .cells [.int .i64 0, .int .i64 0, .int .i64 0, .int .i64 0, .int .i64 0, .int .i64 0, .slice none 0 0]) :: (Iu1 ++ Iu2))) Mq N9 (fun b h => h)
  clear N9 Mq My Sx
  replace M : Mem w noEx wc ((g2, .cells [.int .i64 squ3.lo, .int .i64 squ3.wi, .int .i64 squ3.a0, .int .i64 squ3.a1, .int .i64 squ3.c0, .int .i64 squ3.c1, .slice Acu3 squ3.ps.length ccu3]) :: (g1, .cells [.int .i64 0, .int .i64 0, .int .i64 0, .int .i64 0, .int .i64 0, .int .i64 0, .slice none 0 0]) :: (Iqu3 ++ Iu1 ++ Iu2)) := (Mem.permS (L' := ((g2, .cells [.int .i64 squ3.lo, .int .i64 squ3.wi, .int .i64 squ3.a0, .int .i64 squ3.a1, .int .i64 squ3.c0, .int .i64 squ3.c1, .slice Acu3 squ3.ps.length ccu3]) :: (g1, .cells [.int .i64 0, .int .i64 0, .int .i64 0, .int .i64 0, .int .i64 0, .int .i64 0, .slice none 0 0]) :: (Iqu3 ++ Iu1 ++ Iu2))) M (fun f => by simp only [sumF_app, sumF_cons, sumF_nil, List.cons_append, List.nil_append, List.append_nil, Nat.add_zero, Nat.zero_add] <;> omega))
  obtain ⟨oku3, hoku3⟩ : ∃ q, q = (if (decide ((i : Int) = 0)) = true then headS lsu2 s else partS lsu2 s).isSome := ⟨_, rfl⟩
  rw [← hoku3] at T
  refine Zg2 T (Zq (rn_not rfl (T.e 0 rfl))) rfl (Za 0 rfl rfl) rfl ?_; clear T ac; intro ac T
  replace T := T.pick [0, 7, 8, 9, 10, 11, 12, 14, 15, 16] rfl
  refine Zln ?_
  refine wp_cond_split (T.e 0 rfl) ?_ ?_
  ·intro h5
   (have h5' := h5; try simp only [Zb1, Zb2, Zb3, Zb4, Zb5, Zb6, Zb7] at h5')
   refine Zsr ?_
   refine Zg5 (v4 := (.agg #[.int .i64 ((i : Int) + 1)])) T (Zq (Zrr (Mem.nth M 0 rfl) rfl (T.e 4 rfl) rfl)) rfl (Zm 7 rfl rfl) rfl (fun _ T => Zq (rn_add rfl (T.e 0 rfl) evc (by omega))) rfl (fun _ T => Zq (rn_build rfl (.cons (T.e 0 rfl) .nil) (fun _ => by kernel_rfl))) rfl (fun _ T => Zq (rn_mi rfl (by kernel_rfl) (T.e 0 rfl))) rfl ?_; clear T ac; intro ac T
   refine Zl2 ?_
   refine Zos M T rfl rfl (T.e 6 rfl) (T.e 4 rfl) rfl (.tail .head) rfl (by simp) rfl (by kernel_rfl) ?_; clear M T; intro wc ac M T
   refine lq T (Zra rfl (T.e 0 rfl)) ?_; clear T ac; intro ac T
   refine wpList_nil ?_
   replace T := T.pick [0, 7] rfl
   replace M := M.mask [false, true] rfl
   replace M : Mem w noEx wc ((g1, .cells [.int .i64 squ3.lo, .int .i64 squ3.wi, .int .i64 squ3.a0, .int .i64 squ3.a1, .int .i64 squ3.c0, .int .i64 squ3.c1, .slice Acu3 squ3.ps.length ccu3]) :: (Iqu3 ++ Iu1 ++ Iu2)) := M
   refine Znr ?_
   refine Zrb ?_
   refine Zrb ?_
   refine Zrt ?_
   refine Zrt ?_
   refine Zrb ?_
   refine Zrt ?_
   refine rt_ct M T rfl (T.e 1 rfl) (T.e 0 rfl) (Zne (i := 0) rfl) rfl ?_
   have hn9 : (if (decide ((i : Int) = 0)) = true then headS lsu2 s else partS lsu2 s) = none := no_some (by rw [← hoku3]; simp_all)
   have hb9 := rt_no hks H (by assumption) (by assumption) hlsu2 hn9
   rw [hdl, hlsu1] at hb9
   exact ⟨squ3, Acu3, ccu3, Iqu3, _, rfl, hsqu3, (Mem.subS (L' := (Iqu3)) ((g1, .cells [.int .i64 squ3.lo, .int .i64 squ3.wi, .int .i64 squ3.a0, .int .i64 squ3.a1, .int .i64 squ3.c0, .int .i64 squ3.c1, .slice Acu3 squ3.ps.length ccu3]) :: (Iu1 ++ Iu2)) M (fun f => by simp only [sumF_app, sumF_cons, sumF_nil, List.cons_append, List.nil_append, List.append_nil, Nat.add_zero, Nat.zero_add] <;> omega)), by omega, .inr ⟨_, rfl, (by rw [out_bad hb9]; push_cast; rfl)⟩⟩
  intro h5
  (have h5' := h5; try simp only [Zb1, Zb2, Zb3, Zb4, Zb5, Zb6, Zb7] at h5')
  refine wp_skip ?_
  refine Znb ?_
  refine Znb ?_
  refine nm_then ?_
  refine wp_region_lit ?_
  refine lq T (rn_add rfl (T.e 9 rfl) evc (by omega)) ?_; clear T ac; intro ac T
  refine l_q (v := (.int .i64 ((i : Int) + 1))) (T.pick [0, 1, 2, 3, 4, 5, 6, 7, 8, 9] rfl) rfl rfl rfl rfl (Zrm rfl (T.e 0 rfl)) ?_; clear T ac; intro ac T
  replace T := T.pick [0, 3, 4, 5, 6, 7, 9, 10] rfl
  refine Zln ?_
  obtain ⟨t9, ht9⟩ := Option.isSome_iff_exists.1 (show (if (decide ((i : Int) = 0)) = true then headS lsu2 s else partS lsu2 s).isSome = true by rw [← hoku3]; simp_all)
  have hsq := hvqu3 t9 ht9
  subst hsq
  have hH := rt_go hks H (by assumption) (by assumption) hlsu2 ht9
  exact ⟨_, by omega, i + 1, en, squ3, Acu3, ccu3, Iqu3, rfl, (by omega), hH, hsqu3, (by omega), T.pick [1, 2, 3, 4, 5, 6, 7, 0] rfl, (Mem.subS (Iu2) M (fun f => by simp only [sumF_app, sumF_cons, sumF_nil, List.cons_append, List.nil_append, List.append_nil, Nat.add_zero, Nat.zero_add] <;> omega))⟩
 intro h1
 obtain ⟨zl, hzl⟩ : ∃ q, lsu1[lsu1.length - 1]? = some q := ⟨_, List.getElem?_eq_getElem (by omega)⟩
 rw [List.drop_of_length_le (by omega)] at H
 replace H : rowsS false 0 lq1 zeroS = .inr (en, s) := H
 refine wp_exit ?_
 refine Zet ?_
 refine Zet ?_
 refine ex_hit ?_
 refine Zns ?_
 refine cut_seq (fun ac wc => Tm ac 66 [(2, .pointer (some ⟨g1, 0, none⟩)), (5, .int .i64 (((lsu1.length : Nat) : Int) - 1)), (6, .pointer (some ⟨g2, 0, none⟩)), (59, .bool ((!en) || (!(decide (zl = ([]))))))] ∧ Mem w noEx wc ((g2, .cells [.int .i64 s.lo, .int .i64 s.wi, .int .i64 s.a0, .int .i64 s.a1, .int .i64 s.c0, .int .i64 s.c1, .slice A s.ps.length c]) :: (g1, .cells [.int .i64 0, .int .i64 0, .int .i64 0, .int .i64 0, .int .i64 0, .int .i64 0, .slice none 0 0]) :: (Iu1 ++ Ia))) ?_ ?_
 ·refine wp_region_lit ?_
  refine Zg3 T (Zq (Zrm rfl (T.e 5 rfl))) rfl (fun _ T => Zq (rn_not rfl (T.e 0 rfl))) rfl (Zm 0 rfl rfl) rfl ?_; clear T ac; intro ac T
  rcases Bool.eq_false_or_eq_true (!en) with h6 | h6
  ·refine Zg6 T (Zp (Zwn rfl rfl (T.e 0 rfl) h6)) rfl (fun _ T => Zp (Zwn rfl rfl (T.e 1 rfl) h6)) rfl (fun _ T => Zp (Zwn rfl rfl (T.e 2 rfl) h6)) rfl (fun _ T => Zp (Zwn rfl rfl (T.e 3 rfl) h6)) rfl (fun _ T => Zp (Zwn rfl rfl (T.e 4 rfl) h6)) rfl (fun _ T => Zq (Zr1 rfl (T.e 5 rfl) h6 evc)) rfl ?_; clear T ac; intro ac T
   refine wpList_nil ?_
   replace T := T.pick [0, 10, 12, 13] rfl
   exact ⟨(T.pick (E' := [(2, .pointer (some ⟨g1, 0, none⟩)), (5, .int .i64 (((lsu1.length : Nat) : Int) - 1)), (6, .pointer (some ⟨g2, 0, none⟩)), (59, .bool true)]) [1, 2, 3, 0] rfl).as (by (try rw [show (!en) = true from h6]); (try rfl)), M.mask [true, true] rfl⟩
  refine Zg6 T (Zw (Zwy rfl rfl (T.e 0 rfl) h6) (Zrm rfl (T.e 5 rfl))) rfl (fun _ T => Zw (Zwy rfl rfl (T.e 1 rfl) h6) (Zrm rfl (T.e 7 rfl))) rfl (fun _ T => Zw (Zwy rfl rfl (T.e 2 rfl) h6) (Zri (size := 1) (lsu1.length - 1) rfl (T.e 1 rfl) (T.e 0 rfl) ⟨_, Tryz.underlying37, by kernel_rfl⟩ (by omega) (by omega) (Su1.at0 (by omega)))) rfl (fun _ T => Zw (Zwy rfl rfl (T.e 3 rfl) h6) (rn_cell (Sp.stC0 Su1 M (.cons _ (.cons _ (subL (List.Sublist.refl _)))) hzl) rfl (T.e 0 rfl))) rfl (fun _ T => Zw (Zwy rfl rfl (T.e 4 rfl) h6) (rn_sneq rfl (T.e 0 rfl) evc)) rfl (fun _ T => Zq (Zr0 rfl (T.e 5 rfl) h6 (T.e 0 rfl))) rfl ?_; clear T ac; intro ac T
  refine wpList_nil ?_
  replace T := T.pick [0, 10, 12, 13] rfl
  exact ⟨(T.pick (E' := [(2, .pointer (some ⟨g1, 0, none⟩)), (5, .int .i64 (((lsu1.length : Nat) : Int) - 1)), (6, .pointer (some ⟨g2, 0, none⟩)), (59, .bool (!(decide (zl = ([])))))]) [1, 2, 3, 0] rfl).as (by (try rw [show (!en) = false from h6]); (try rfl)), M.mask [true, true] rfl⟩
 clear T M
 rintro ac wc ⟨T, M⟩
 refine wp_cond_split (T.e 3 rfl) ?_ ?_
 ·intro h7
  (have h7' := h7; try simp only [Zb1, Zb2, Zb3, Zb4, Zb5, Zb6, Zb7] at h7')
  refine Zsr ?_
  refine Zg5 (v4 := (.agg #[.int .i64 ((((lsu1.length : Nat) : Int) - 1) + 1)])) T (Zq (Zrr (Mem.nth M 0 rfl) rfl (T.e 2 rfl) rfl)) rfl (Zm 2 rfl rfl) rfl (fun _ T => Zq (rn_add rfl (T.e 0 rfl) evc (by omega))) rfl (fun _ T => Zq (rn_build rfl (.cons (T.e 0 rfl) .nil) (fun _ => by kernel_rfl))) rfl (fun _ T => Zq (rn_mi rfl (by kernel_rfl) (T.e 0 rfl))) rfl ?_; clear T ac; intro ac T
  refine Zl2 ?_
  refine Zos M T rfl rfl (T.e 5 rfl) (T.e 4 rfl) rfl (.tail .head) rfl (by simp) rfl (by kernel_rfl) ?_; clear M T; intro wc ac M T
  refine lq T (Zra rfl (T.e 0 rfl)) ?_; clear T ac; intro ac T
  refine wpList_nil ?_
  replace T := T.pick [0, 6] rfl
  replace M := M.mask [false, true] rfl
  refine Znr ?_
  refine Zrt ?_
  refine rt_ct M T rfl (T.e 1 rfl) (T.e 0 rfl) (Zne (i := 0) rfl) rfl ?_
  rw [hdl, hlsu1] at H
  rw [hlsu1] at hzl
  have hb9 := out_end H hzl (by assumption)
  exact ⟨s, A, c, Ia, _, rfl, hsA, (Mem.subS (L' := (Ia)) ((g1, .cells [.int .i64 s.lo, .int .i64 s.wi, .int .i64 s.a0, .int .i64 s.a1, .int .i64 s.c0, .int .i64 s.c1, .slice A s.ps.length c]) :: Iu1) M (fun f => by simp only [sumF_app, sumF_cons, sumF_nil, List.cons_append, List.nil_append, List.append_nil, Nat.add_zero, Nat.zero_add] <;> omega)), by omega, .inr ⟨_, rfl, (by rw [hb9, ← hlsu1]; congr 1; omega)⟩⟩
 intro h7
 (have h7' := h7; try simp only [Zb1, Zb2, Zb3, Zb4, Zb5, Zb6, Zb7] at h7')
 refine Zsk ?_
 refine Zsr ?_
 refine lq T (Zrr (Mem.nth M 0 rfl) rfl (T.e 2 rfl) rfl) ?_; clear T ac; intro ac T
 refine Zl2 ?_
 refine Zos M T rfl rfl (T.e 1 rfl) (T.e 0 rfl) rfl (.tail .head) rfl (by simp) rfl (by kernel_rfl) ?_; clear M T; intro wc ac M T
 refine lq T (Zra rfl evc) ?_; clear T ac; intro ac T
 refine wpList_nil ?_
 replace T := T.pick [0, 2] rfl
 replace M := M.mask [false, true] rfl
 refine Znr ?_
 refine rt_ct M T rfl (T.e 1 rfl) (T.e 0 rfl) (Zne (i := 0) rfl) rfl ?_
 rw [hdl, hlsu1] at H
 rw [hlsu1] at hzl
 have hb9 := out_go H hzl (by assumption)
 exact ⟨s, A, c, Ia, _, rfl, hsA, (Mem.subS (L' := (Ia)) ((g1, .cells [.int .i64 s.lo, .int .i64 s.wi, .int .i64 s.a0, .int .i64 s.a1, .int .i64 s.c0, .int .i64 s.c1, .slice A s.ps.length c]) :: Iu1) M (fun f => by simp only [sumF_app, sumF_cons, sumF_nil, List.cons_append, List.nil_append, List.append_nil, Nat.add_zero, Nat.zero_add] <;> omega)), by omega, .inl ⟨rfl, hb9⟩⟩
theorem rd_bad {t : List UInt8} {ev : Value} {r : Int} {s' : Sk} (hs : ¬ 300 < t.length) (hv : (ev = .nilIface ∧ outS t = .inr s') ∨ ∃ r : Int, ev = .iface 137 (.agg #[.int .i64 r]) ∧ outS t = .inl r) {b : Bool} (hb : (b = false ∧ ev = .nilIface ∧ r = 0) ∨ (b = true ∧ ev = .iface 137 (.agg #[.int .i64 r]))) (h : b = true) : readT t = (zeroS, r, 2) := by
 rw [readT_short hs, rd_out]
 rcases hb with ⟨h1, -, -⟩ | ⟨-, h1⟩
 ·rw [h] at h1; cases h1
 ·rcases hv with ⟨h2, -⟩ | ⟨r2, h2, h3⟩
  ·rw [h1] at h2; cases h2
  ·rw [h1] at h2
   injection h2 with _ h2
   injection h2 with h2
   have h4 : r = r2 := by simpa using h2
   rw [h3, h4]
theorem rd_go {t : List UInt8} {ev : Value} {r : Int} {s' : Sk} (hs : ¬ 300 < t.length) (hv : (ev = .nilIface ∧ outS t = .inr s') ∨ ∃ r : Int, ev = .iface 137 (.agg #[.int .i64 r]) ∧ outS t = .inl r) {b : Bool} (hb : (b = false ∧ ev = .nilIface ∧ r = 0) ∨ (b = true ∧ ev = .iface 137 (.agg #[.int .i64 r]))) (h : b = false) : readT t = if skErr s' ≠ 0 then (zeroS, 0, skErr s') else (s', 0, 0) := by
 rw [readT_short hs, rd_out]
 rcases hb with ⟨-, h1, -⟩ | ⟨h1, -⟩
 ·rcases hv with ⟨-, h2⟩ | ⟨r2, h2, -⟩
  ·rw [h2]
  ·rw [h1] at h2; cases h2
 ·rw [h] at h1; cases h1
theorem take_sn {α : Type} {l : List α} {k : Nat} {x : α} (h : l[k]? = some x) : l.take (k + 1) = l.take k ++ [x] := by rw [List.take_add_one, h]; rfl
theorem read_any (text : List UInt8) (w : World) (hT : StrW w)  (hA : AsW w) :
   Calls Tryz.prog 20 #[sv text] w (ReadK (readT text) w) := by
 refine Zpx noEx Tryz.func20 rfl 30 rfl [sv text] rfl rfl (Mem.init w _) ?_
 intro ac wc T M
 refine Zsr ?_
 refine Zl2 ?_
 refine Zoa M T rfl rfl rfl rfl ?_; clear M T; intro g1 wc ac M T
 refine Zg2 T (Zq (Zra rfl evc)) rfl (Zc rfl) rfl ?_; clear T ac; intro ac T
 replace T := T.pick [2, 3] rfl
 refine Zln ?_
 refine wp_seq ?_
 refine Zsr ?_
 refine Zg3 T (Zq (Zrm rfl (T.e 1 rfl))) rfl (fun _ T => Zq (rn_slen rfl Tryz.underlying9 (T.e 0 rfl))) rfl (fun _ T => Zq (rn_gtr rfl (T.e 0 rfl) evc)) rfl ?_; clear T ac; intro ac T
 replace T := T.pick [0, 3, 4] rfl
 refine Zln ?_
 refine wp_if (T.e 0 rfl) ?_ ?_
 ·intro h1
  refine Zsr ?_
  refine lq (v := (.agg #[.int .i64 0, .int .i64 0, .int .i64 0, .int .i64 0, .int .i64 0, .int .i64 0, .slice none 0 0])) T (rn_build rfl .nil (fun _ => by kernel_rfl)) ?_; clear T ac; intro ac T
  refine Zl2 ?_
  refine Zos M T rfl rfl (T.e 2 rfl) (T.e 0 rfl) rfl .head rfl (by simp) rfl (by kernel_rfl) ?_; clear M T; intro wc ac M T
  refine Zg2 T (Zq (Zra rfl evc)) rfl (Zc rfl) rfl ?_; clear T ac; intro ac T
  replace T := T.pick [0, 1, 4] rfl
  refine Zln ?_
  refine wp_ret ?_
  refine Zrt ?_
  refine rt_ctt M T rfl (T.e 2 rfl) (T.e 1 rfl) (T.e 0 rfl) (Zne (i := 0) rfl) rfl ?_
  exact ReadK.zero (readT_long (by omega)) M
 intro h1
 refine Zsk ?_
 refine Zsr ?_
 refine lq T (Zrm rfl (T.e 2 rfl)) ?_; clear T ac; intro ac T
 refine Zl2 ?_
 refine Zoc (first := []) (cap := []) T rfl rfl rfl rfl evf (.cons (T.e 0 rfl) .nil) Tryz.func72 rfl rfl ?_
 refine Calls.mono (sread_any text _ (by omega) (hT.mem0 M)) ?_
 clear T; rintro e wc ⟨squ1, Acu1, ccu1, Iqu1, evu1, rfl, hsqu1, N, hnqu1, hevu1⟩ ac T
 obtain ⟨bAu1, oAu1, SVu1⟩ := Sl.spW hsqu1 (pc_length _)
 have SAu1 := SVu1 w noEx
 replace M := (M.join N).swapI
 clear N
 replace M : Mem w noEx wc ((g1, .cells [.int .i64 0, .int .i64 0, .int .i64 0, .int .i64 0, .int .i64 0, .int .i64 0, .slice none 0 0]) :: Iqu1) := (Mem.permS (L' := ((g1, .cells [.int .i64 0, .int .i64 0, .int .i64 0, .int .i64 0, .int .i64 0, .int .i64 0, .slice none 0 0]) :: Iqu1)) M (fun f => by simp only [sumF_app, sumF_cons, sumF_nil, List.cons_append, List.nil_append, List.append_nil, Nat.add_zero, Nat.zero_add] <;> omega))
 refine Zg3 T (Zq (Zrm rfl (T.e 0 rfl))) rfl (Ze 0 rfl rfl rfl) rfl (Ze 1 rfl rfl rfl) rfl ?_; clear T ac; intro ac T
 refine Zl2 ?_
 refine Zos M T rfl rfl (T.e 6 rfl) (T.e 1 rfl) rfl .head rfl (by simp) rfl (by kernel_rfl) ?_; clear M T; intro wc ac M T
 refine lq T (Zra rfl (T.e 0 rfl)) ?_; clear T ac; intro ac T
 replace T := T.pick [0, 7] rfl
 refine Zln ?_
 refine Zsr ?_
 refine Zl2 ?_
 refine Zoa M T rfl rfl rfl rfl ?_; clear M T; intro g2 wc ac M T
 refine Zln ?_
 refine wp_seq ?_
 refine Zsr ?_
 refine Zg2 T (Zq (Zrm rfl (T.e 1 rfl))) rfl (fun _ T => Zq (rn_mi rfl (by kernel_rfl) (T.e 1 rfl))) rfl ?_; clear T ac; intro ac T
 refine Zl2 ?_
 refine Zoc (first := []) (cap := []) T rfl rfl rfl rfl evf (.cons (T.e 1 rfl) (.cons (T.e 0 rfl) .nil)) Tryz.func73 rfl rfl ?_
 refine Calls.mono (as_any evu1 g2 _ (hA.mem0 M) (M.nth 0 rfl) (hevu1.elim (fun h => .inl h.1) (fun h => .inr (h.elim fun r h => ⟨r, h.1⟩)))) ?_
 clear T; rintro e wc ⟨bu2, ru2, rfl, hb9u2, N⟩ ac T
 replace M := Mem.joinX (X := [(g2, .cells [.int .i64 0])]) (F := ((g1, .cells [.int .i64 squ1.lo, .int .i64 squ1.wi, .int .i64 squ1.a0, .int .i64 squ1.a1, .int .i64 squ1.c0, .int .i64 squ1.c1, .slice Acu1 squ1.ps.length ccu1]) :: Iqu1)) (Mem.permS (L' := [(g2, .cells [.int .i64 0])] ++ ((g1, .cells [.int .i64 squ1.lo, .int .i64 squ1.wi, .int .i64 squ1.a0, .int .i64 squ1.a1, .int .i64 squ1.c0, .int .i64 squ1.c1, .slice Acu1 squ1.ps.length ccu1]) :: Iqu1)) M (fun f => by simp only [sumF_app, sumF_cons, sumF_nil, List.cons_append, List.nil_append, List.append_nil, Nat.add_zero, Nat.zero_add] <;> omega)) N (fun b h => by subst h; exact Zz2)
 clear N
 replace M : Mem w noEx wc ((g2, .cells [.int .i64 ru2]) :: (g1, .cells [.int .i64 squ1.lo, .int .i64 squ1.wi, .int .i64 squ1.a0, .int .i64 squ1.a1, .int .i64 squ1.c0, .int .i64 squ1.c1, .slice Acu1 squ1.ps.length ccu1]) :: Iqu1) := M
 replace T := T.pick [0, 3, 5] rfl
 refine Zln ?_
 refine wp_cond_split (T.e 0 rfl) ?_ ?_
 ·intro h2
  refine wp_seq ?_
  refine Zgs M (M.mask [true, false] rfl) 6 (by kernel_rfl) rfl (by kernel_rfl) ?_
  clear M; intro wc M
  refine g_addG 3 M ?_
  refine gq (v := (.agg #[.int .i64 0, .int .i64 0, .int .i64 0, .int .i64 0, .int .i64 0, .int .i64 0, .slice none 0 0])) T 0 1 rfl (fun _ _ _ _ _ => (rn_build rfl .nil (fun _ => by kernel_rfl))) ?_; clear T ac; intro ac T
  refine gq (v := (.pointer (some ⟨g2, 0, none⟩))) T 1 3 rfl (fun _ _ _ _ _ => (Zrf (off := 0) rfl (T.e 2 rfl) (fun _ _ _ => by kernel_rfl))) ?_; clear T ac; intro ac T
  refine gq T 2 7 rfl (fun B w' hD hl hS => (Zro (Mem.nth (show Mem w noEx w' _ from (MA.rgt hS)) 0 rfl) rfl (T.e 0 rfl) rfl)) ?_; clear T ac; intro ac T
  refine gw 3 15 ?_; intro K hK
  refine Zos M T rfl rfl (T.e 5 rfl) (T.e 2 rfl) rfl (.tail .head) rfl (by simp) rfl (by kernel_rfl) ?_; clear M T; intro wc ac M T
  refine Zso hK _ _ (MA.mk (fun h => (no_of (by kernel_rfl) h).elim) (M.mask [true, false] rfl)) ?_; clear hK K
  refine gq T 4 31 rfl (fun _ _ _ _ _ => (Zra rfl (T.e 0 rfl))) ?_; clear T ac; intro ac T
  refine gq T 5 63 rfl (fun _ _ _ _ _ => (Zra rfl evc)) ?_; clear T ac; intro ac T
  refine Zgd (by kernel_rfl) ?_
  replace T := T.pick [0, 1, 7] rfl
  replace M := M.mask [false, true] rfl
  refine Znr ?_
  refine Zrt ?_
  refine rt_ctt M T rfl (T.e 2 rfl) (T.e 1 rfl) (T.e 0 rfl) (Zne (i := 0) rfl) rfl ?_
  exact ReadK.zero (rd_bad (by omega) hevu1 hb9u2 (by assumption)) M
 intro h2
 refine Zsk ?_
 refine wp_seq ?_
 refine Zsr ?_
 refine lq T (Zrr (Mem.nth M 1 rfl) rfl (T.e 2 rfl) rfl) ?_; clear T ac; intro ac T
 refine Zl2 ?_
 refine Zoc (first := []) (cap := []) T rfl rfl rfl rfl evf (.cons (T.e 0 rfl) .nil) Tryz.func66 rfl rfl ?_
 refine Calls.mono (skCheck_any squ1 Acu1 ccu1 _ (SAu1.rd M (.cons _ (.cons _ (List.Sublist.refl _)))) (by omega)) ?_
 clear T; rintro e wc ⟨rfl, hb⟩ ac T
 replace M := M.call hb; clear hb
 refine lq T (Zra rfl (T.e 0 rfl)) ?_; clear T ac; intro ac T
 refine wpList_nil ?_
 replace T := T.pick [0, 5] rfl
 replace M := M.mask [false, true] rfl
 refine nm_then ?_
 refine Zsr ?_
 refine Zg2 T (Zq (Zrm rfl (T.e 0 rfl))) rfl (fun _ T => Zq (rn_neq rfl (T.e 0 rfl) evc)) rfl ?_; clear T ac; intro ac T
 replace T := T.pick [0, 2, 3] rfl
 refine Zln ?_
 refine wp_ifn (T.e 0 rfl) ?_ ?_
 ·intro h3
  refine Zsr ?_
  refine Zg2 (v1 := (.agg #[.int .i64 0, .int .i64 0, .int .i64 0, .int .i64 0, .int .i64 0, .int .i64 0, .slice none 0 0])) T (Zq (rn_build rfl .nil (fun _ => by kernel_rfl))) rfl (Zm 2 rfl rfl) rfl ?_; clear T ac; intro ac T
  refine Zl2 ?_
  refine Zos M T rfl rfl (T.e 4 rfl) (T.e 1 rfl) rfl .head rfl (by simp) rfl (by kernel_rfl) ?_; clear M T; intro wc ac M T
  refine Zg2 T (Zq (Zra rfl evc)) rfl (Za 1 rfl rfl) rfl ?_; clear T ac; intro ac T
  replace T := T.pick [0, 1, 6] rfl
  refine Zln ?_
  refine wp_ret ?_
  refine Zrt ?_
  refine rt_ctt M T rfl (T.e 2 rfl) (T.e 1 rfl) (T.e 0 rfl) (Zne (i := 0) rfl) rfl ?_
  have hr9 := rd_go (by omega) hevu1 hb9u2 (by first | assumption | simp_all)
  rw [if_pos (by assumption)] at hr9
  exact ReadK.zero hr9 M
 intro h3
 refine Zsk ?_
 refine Zsr ?_
 refine lq T (Zrr (Mem.nth M 0 rfl) rfl (T.e 2 rfl) rfl) ?_; clear T ac; intro ac T
 refine Zl2 ?_
 refine Zos M T rfl rfl (T.e 3 rfl) (T.e 0 rfl) rfl .head rfl (by simp) rfl (by kernel_rfl) ?_; clear M T; intro wc ac M T
 refine Zg2 T (Zq (Zra rfl evc)) rfl (Zc rfl) rfl ?_; clear T ac; intro ac T
 replace T := T.pick [0, 1, 5] rfl
 refine Zln ?_
 refine wp_ret ?_
 refine rt_ctt M T rfl (T.e 2 rfl) (T.e 1 rfl) (T.e 0 rfl) (Zne (i := 0) rfl) rfl ?_
 have hr9 := rd_go (by omega) hevu1 hb9u2 (by first | assumption | simp_all)
 rw [if_neg (fun h => h (by assumption))] at hr9
 rw [hr9]
 exact ⟨Acu1, ccu1, Iqu1, rfl, hsqu1, (Mem.subS (L' := (Iqu1)) ([(g1, .cells [.int .i64 squ1.lo, .int .i64 squ1.wi, .int .i64 squ1.a0, .int .i64 squ1.a1, .int .i64 squ1.c0, .int .i64 squ1.c1, .slice Acu1 squ1.ps.length ccu1])]) M (fun f => by simp only [sumF_app, sumF_cons, sumF_nil, List.cons_append, List.nil_append, List.append_nil, Nat.add_zero, Nat.zero_add] <;> omega))⟩
theorem sides8_any (a b : Int) (w : World) (ha : sm a) (hb : sm b) (hT : StrW w)  :
  Calls Tryz.prog 70 #[.int .i64 a, .int .i64 b] w fun e w' => e = .returned (sv (Lib.itoa a ++ [120] ++ Lib.itoa b)) ∧ Below w.heap.size w w' := by
 obtain ⟨h2, h3⟩ := ha
 obtain ⟨h4, h5⟩ := hb
 refine Zpx noEx Tryz.func70 rfl 11 rfl [.int .i64 a, .int .i64 b] rfl rfl (Mem.init w _) ?_
 intro ac wc T M
 refine Zsr ?_
 refine lq T (Zra rfl evc) ?_; clear T ac; intro ac T
 replace T := T.pick [1, 2] rfl
 refine Zln ?_
 refine Zsr ?_
 refine lq T (Zrm rfl (T.e 0 rfl)) ?_; clear T ac; intro ac T
 refine Zl2 ?_
 refine Zoc (first := []) (cap := []) T rfl rfl rfl rfl evf (.cons (T.e 0 rfl) .nil) Tryz.func43 rfl rfl ?_
 refine Calls.mono (Itoa_any a _ (by (try dsimp only); omega) (hT.mem0 M)) ?_
 clear T; rintro e wc ⟨rfl, hb⟩ ac T
 replace M := M.call hb; clear hb
 have hiu1 := itoa_len (v := a) ⟨by (try dsimp only); omega, by (try dsimp only); omega⟩
 refine Zg2 T (Zq (rn_sadd rfl (T.e 0 rfl) evc (by (try simp only [List.length_append, List.length_cons, List.length_nil]); omega))) rfl (Zm 4 rfl rfl) rfl ?_; clear T ac; intro ac T
 refine Zl2 ?_
 refine Zoc (first := []) (cap := []) T rfl rfl rfl rfl evf (.cons (T.e 0 rfl) .nil) Tryz.func43 rfl rfl ?_
 refine Calls.mono (Itoa_any b _ (by (try dsimp only); omega) (hT.mem0 M)) ?_
 clear T; rintro e wc ⟨rfl, hb⟩ ac T
 replace M := M.call hb; clear hb
 have hiu2 := itoa_len (v := b) ⟨by (try dsimp only); omega, by (try dsimp only); omega⟩
 refine Zg2 T (Zq (rn_sadd rfl (T.e 2 rfl) (T.e 0 rfl) (by (try simp only [List.length_append, List.length_cons, List.length_nil]); omega))) rfl (Za 0 rfl rfl) rfl ?_; clear T ac; intro ac T
 replace T := T.pick [0] rfl
 refine Zln ?_
 refine wp_ret ?_
 refine rt_1 T rfl (T.e 0 rfl) ?_
 exact ⟨rfl, M.below⟩
theorem shrinks8_any (a b : Int) (w : World) (ha : sm a) (hb : sm b) (hT : StrW w)  :
  Calls Tryz.prog 71 #[.agg #[.int .i64 a, .int .i64 b]] w fun e w' => e = .returned (sv (Lib.itoa a ++ [126] ++ Lib.itoa b)) ∧ Below w.heap.size w w' := by
 obtain ⟨h2, h3⟩ := ha
 obtain ⟨h4, h5⟩ := hb
 refine Zpx noEx Tryz.func71 rfl 11 rfl [.agg #[.int .i64 a, .int .i64 b]] rfl rfl (Mem.init w _) ?_
 intro ac wc T M
 refine Zsr ?_
 refine Zl2 ?_
 refine Zob M T rfl rfl rfl rfl (T.e 0 rfl) rfl ?_; clear M T; intro g1 wc ac M T
 refine lq T (Zra rfl evc) ?_; clear T ac; intro ac T
 replace T := T.pick [1] rfl
 refine Zln ?_
 refine wp_seq ?_
 refine Zgs M (M.mask [true] rfl) 9 (by kernel_rfl) rfl (by kernel_rfl) ?_
 clear M; intro wc M
 refine gq (v := (.pointer (some ⟨g1, 0, none⟩))) T 0 1 rfl (fun _ _ _ _ _ => (Zrf (off := 0) rfl (T.e 0 rfl) (fun _ _ _ => by kernel_rfl))) ?_; clear T ac; intro ac T
 refine gq T 1 3 rfl (fun B w' hD hl hS => (Zro (Mem.nth (show Mem w noEx w' _ from hS) 0 rfl) rfl (T.e 0 rfl) rfl)) ?_; clear T ac; intro ac T
 refine gq (v := (.pointer (some ⟨g1, 1, none⟩))) T 4 19 rfl (fun _ _ _ _ _ => (Zrf (off := 1) rfl (T.e 2 rfl) (fun _ _ _ => by kernel_rfl))) ?_; clear T ac; intro ac T
 refine gq T 5 51 rfl (fun B w' hD hl hS => (Zro (Mem.nth (show Mem w noEx w' _ from hS) 0 rfl) rfl (T.e 0 rfl) rfl)) ?_; clear T ac; intro ac T
 refine gw 2 55 ?_; intro K hK
 refine Zoc (first := []) (cap := []) T rfl rfl rfl rfl evf (.cons (T.e 2 rfl) .nil) Tryz.func43 rfl rfl ?_
 refine Calls.mono (Itoa_any a _ (by (try dsimp only); omega) (hT.mem0 M)) ?_
 clear T; rintro e wc ⟨rfl, hb⟩ ac T
 replace M := M.call hb; clear hb
 have hiu1 := itoa_len (v := a) ⟨by (try dsimp only); omega, by (try dsimp only); omega⟩
 refine Zso hK _ _ (M.mask [true] rfl) ?_; clear hK K
 refine gq T 3 63 rfl (fun _ _ _ _ _ => (rn_sadd rfl (T.e 0 rfl) evc (by (try simp only [List.length_append, List.length_cons, List.length_nil]); omega))) ?_; clear T ac; intro ac T
 refine gw 6 127 ?_; intro K hK
 refine Zoc (first := []) (cap := []) T rfl rfl rfl rfl evf (.cons (T.e 2 rfl) .nil) Tryz.func43 rfl rfl ?_
 refine Calls.mono (Itoa_any b _ (by (try dsimp only); omega) (hT.mem0 M)) ?_
 clear T; rintro e wc ⟨rfl, hb⟩ ac T
 replace M := M.call hb; clear hb
 have hiu2 := itoa_len (v := b) ⟨by (try dsimp only); omega, by (try dsimp only); omega⟩
 refine Zso hK _ _ (M.mask [true] rfl) ?_; clear hK K
 refine gq T 7 255 rfl (fun _ _ _ _ _ => (rn_sadd rfl (T.e 1 rfl) (T.e 0 rfl) (by (try simp only [List.length_append, List.length_cons, List.length_nil]); omega))) ?_; clear T ac; intro ac T
 refine gq T 8 511 rfl (fun _ _ _ _ _ => (Zra rfl (T.e 0 rfl))) ?_; clear T ac; intro ac T
 refine Zgd (by kernel_rfl) ?_
 replace T := T.pick [0] rfl
 replace M := M.mask [false] rfl
 refine Znr ?_
 refine rt_1 T rfl (T.e 0 rfl) ?_
 exact ⟨rfl, M.below⟩
theorem write8_any (s : Sk) (A : Option Addr) (c : Nat)  (w : World) (hA : Rd w w.heap.size 4 A s.ps.length (pc s.ps)) (nA : s.ps.length ≤ 1000000) (hT : StrW w)  :
   Calls Tryz.prog 19 #[.agg #[.int .i64 s.lo, .int .i64 s.wi, .int .i64 s.a0, .int .i64 s.a1, .int .i64 s.c0, .int .i64 s.c1, .slice A s.ps.length c]] w fun e w' => e = .returned (.tuple #[sv (wrS s), .int .i64 (skErr s)]) ∧ Below w.heap.size w w' := by
 obtain ⟨bA, oA, SA⟩ := Sp.old hA
 refine Zpx noEx Tryz.func19 rfl 62 rfl [.agg #[.int .i64 s.lo, .int .i64 s.wi, .int .i64 s.a0, .int .i64 s.a1, .int .i64 s.c0, .int .i64 s.c1, .slice A s.ps.length c]] rfl rfl (Mem.init w _) ?_
 intro ac wc T M
 refine Zsr ?_
 refine Zl2 ?_
 refine Zob M T rfl rfl rfl rfl (T.e 0 rfl) rfl ?_; clear M T; intro g1 wc ac M T
 refine Zg2 T (Zq (Zra rfl evc)) rfl (Zc rfl) rfl ?_; clear T ac; intro ac T
 replace T := T.pick [2] rfl
 refine Zln ?_
 refine wp_seq ?_
 refine Zsr ?_
 refine lq T (Zrr (Mem.nth M 0 rfl) rfl (T.e 0 rfl) rfl) ?_; clear T ac; intro ac T
 refine Zl2 ?_
 refine Zoc (first := []) (cap := []) T rfl rfl rfl rfl evf (.cons (T.e 0 rfl) .nil) Tryz.func69 rfl rfl ?_
 refine Calls.mono (skCheck8_any s A c _ (SA.rd M (Zz9 _)) (by omega)) ?_
 clear T; rintro e wc ⟨rfl, hb⟩ ac T
 replace M := M.call hb; clear hb
 refine lq T (Zra rfl (T.e 0 rfl)) ?_; clear T ac; intro ac T
 replace T := T.pick [0, 3] rfl
 refine Zln ?_
 refine Zsr ?_
 refine Zg2 T (Zq (Zrm rfl (T.e 0 rfl))) rfl (fun _ T => Zq (rn_neq rfl (T.e 0 rfl) evc)) rfl ?_; clear T ac; intro ac T
 replace T := T.pick [0, 2, 3] rfl
 refine Zln ?_
 refine wp_ifn (T.e 0 rfl) ?_ ?_
 ·intro h1
  refine Zsr ?_
  refine Zg3 T (Zq (Zrm rfl (T.e 1 rfl))) rfl (Zc rfl) rfl (Za 1 rfl rfl) rfl ?_; clear T ac; intro ac T
  refine wpList_nil ?_
  replace T := T.pick [0, 1] rfl
  replace M := M.mask [false] rfl
  refine Znr ?_
  refine Zrt ?_
  refine rt_2 T rfl (T.e 1 rfl) (T.e 0 rfl) ?_
  have e9 : wrS s = [] := by unfold wrS; rw [if_neg (by assumption)]
  rw [e9]
  exact ⟨rfl, M.below⟩
 intro h1
 have hsg := skErr_iff.1 (show skErr s = 0 by omega)
 have hsn := good_n3 hsg
 have hs5 := hsg.len
 obtain ⟨⟨hq1, hq2⟩, ⟨hq3, hq4⟩, ⟨hq5, hq6⟩, ⟨hq7, hq8⟩, ⟨hq9, hq10⟩, ⟨hq11, hq12⟩, -⟩ := hsn
 have hsn := good_n3 hsg
 refine Zsk ?_
 refine wp_seq ?_
 refine Zgs M (M.mask [true] rfl) 18 (by kernel_rfl) rfl (by kernel_rfl) ?_
 clear M; intro wc M
 refine gq (v := (.pointer (some ⟨g1, 0, none⟩))) T 0 1 rfl (fun _ _ _ _ _ => (Zrf (off := 0) rfl (T.e 2 rfl) (fun _ _ _ => by kernel_rfl))) ?_; clear T ac; intro ac T
 refine gq T 1 3 rfl (fun B w' hD hl hS => (Zro (Mem.nth (show Mem w noEx w' _ from hS) 0 rfl) rfl (T.e 0 rfl) rfl)) ?_; clear T ac; intro ac T
 refine gq (v := (.pointer (some ⟨g1, 1, none⟩))) T 2 7 rfl (fun _ _ _ _ _ => (Zrf (off := 1) rfl (T.e 4 rfl) (fun _ _ _ => by kernel_rfl))) ?_; clear T ac; intro ac T
 refine gq T 3 15 rfl (fun B w' hD hl hS => (Zro (Mem.nth (show Mem w noEx w' _ from hS) 0 rfl) rfl (T.e 0 rfl) rfl)) ?_; clear T ac; intro ac T
 refine gq (v := (.pointer (some ⟨g1, 2, none⟩))) T 7 143 rfl (fun _ _ _ _ _ => (Zrf (off := 2) rfl (T.e 6 rfl) (fun _ _ _ => by kernel_rfl))) ?_; clear T ac; intro ac T
 refine gq T 8 399 rfl (fun B w' hD hl hS => (Zrr (Mem.nth (show Mem w noEx w' _ from hS) 0 rfl) rfl (T.e 0 rfl) rfl)) ?_; clear T ac; intro ac T
 refine gq (v := (.pointer (some ⟨g1, 4, none⟩))) T 12 4495 rfl (fun _ _ _ _ _ => (Zrf (off := 4) rfl (T.e 8 rfl) (fun _ _ _ => by kernel_rfl))) ?_; clear T ac; intro ac T
 refine gq T 13 12687 rfl (fun B w' hD hl hS => (Zrr (Mem.nth (show Mem w noEx w' _ from hS) 0 rfl) rfl (T.e 0 rfl) rfl)) ?_; clear T ac; intro ac T
 refine gw 4 12703 ?_; intro K hK
 refine Zoc (first := []) (cap := []) T rfl rfl rfl rfl evf (.cons (T.e 6 rfl) (.cons (T.e 4 rfl) .nil)) Tryz.func70 rfl rfl ?_
 refine Calls.mono (sides8_any s.lo s.wi _ ⟨by (try dsimp only); omega, by (try dsimp only); omega⟩ ⟨by (try dsimp only); omega, by (try dsimp only); omega⟩ (hT.mem0 M)) ?_
 clear T; rintro e wc ⟨rfl, hb⟩ ac T
 replace M := M.call hb; clear hb
 have hiu2 := itoa_len (v := s.lo) ⟨by (try dsimp only); omega, by (try dsimp only); omega⟩
 have hju2 := itoa_len (v := s.wi) ⟨by (try dsimp only); omega, by (try dsimp only); omega⟩
 refine Zso hK _ _ (M.mask [true] rfl) ?_; clear hK K
 refine gq T 5 12735 rfl (fun _ _ _ _ _ => (rn_sadd rfl evc (T.e 0 rfl) (by (try simp only [List.length_append, List.length_cons, List.length_nil]); omega))) ?_; clear T ac; intro ac T
 refine gq T 6 12799 rfl (fun _ _ _ _ _ => (rn_sadd rfl (T.e 0 rfl) evc (by (try simp only [List.length_append, List.length_cons, List.length_nil]); omega))) ?_; clear T ac; intro ac T
 refine gw 9 13311 ?_; intro K hK
 refine Zoc (first := []) (cap := []) T rfl rfl rfl rfl evf (.cons (T.e 5 rfl) .nil) Tryz.func71 rfl rfl ?_
 refine Calls.mono (shrinks8_any s.a0 s.a1 _ ⟨by (try dsimp only); omega, by (try dsimp only); omega⟩ ⟨by (try dsimp only); omega, by (try dsimp only); omega⟩ (hT.mem0 M)) ?_
 clear T; rintro e wc ⟨rfl, hb⟩ ac T
 replace M := M.call hb; clear hb
 have hiu3 := itoa_len (v := s.a0) ⟨by (try dsimp only); omega, by (try dsimp only); omega⟩
 have hju3 := itoa_len (v := s.a1) ⟨by (try dsimp only); omega, by (try dsimp only); omega⟩
 refine Zso hK _ _ (M.mask [true] rfl) ?_; clear hK K
 refine gq T 10 14335 rfl (fun _ _ _ _ _ => (rn_sadd rfl (T.e 1 rfl) (T.e 0 rfl) (by (try simp only [List.length_append, List.length_cons, List.length_nil]); omega))) ?_; clear T ac; intro ac T
 refine gq T 11 16383 rfl (fun _ _ _ _ _ => (rn_sadd rfl (T.e 0 rfl) evc (by (try simp only [List.length_append, List.length_cons, List.length_nil]); omega))) ?_; clear T ac; intro ac T
 refine gw 14 32767 ?_; intro K hK
 refine Zoc (first := []) (cap := []) T rfl rfl rfl rfl evf (.cons (T.e 6 rfl) .nil) Tryz.func71 rfl rfl ?_
 refine Calls.mono (shrinks8_any s.c0 s.c1 _ ⟨by (try dsimp only); omega, by (try dsimp only); omega⟩ ⟨by (try dsimp only); omega, by (try dsimp only); omega⟩ (hT.mem0 M)) ?_
 clear T; rintro e wc ⟨rfl, hb⟩ ac T
 replace M := M.call hb; clear hb
 have hiu4 := itoa_len (v := s.c0) ⟨by (try dsimp only); omega, by (try dsimp only); omega⟩
 have hju4 := itoa_len (v := s.c1) ⟨by (try dsimp only); omega, by (try dsimp only); omega⟩
 refine Zso hK _ _ (M.mask [true] rfl) ?_; clear hK K
 refine gq T 15 65535 rfl (fun _ _ _ _ _ => (rn_sadd rfl (T.e 1 rfl) (T.e 0 rfl) (by (try simp only [List.length_append, List.length_cons, List.length_nil]); omega))) ?_; clear T ac; intro ac T
 refine gq T 16 131071 rfl (fun _ _ _ _ _ => (rn_sadd rfl (T.e 0 rfl) evc (by (try simp only [List.length_append, List.length_cons, List.length_nil]); omega))) ?_; clear T ac; intro ac T
 refine gq T 17 262143 rfl (fun _ _ _ _ _ => (Zra rfl (T.e 0 rfl))) ?_; clear T ac; intro ac T
 refine Zgd (by kernel_rfl) ?_
 replace T := T.pick [0, 20] rfl
 refine Zns ?_
 refine Zsr ?_
 refine lq T (Zra rfl evc) ?_; clear T ac; intro ac T
 refine Zln ?_
 refine wp_block ?_
 obtain ⟨pre9, hpre9⟩ : ∃ q : List UInt8, q = ((((((([115, 104, 101, 101, 116, 32]) ++ (Lib.itoa s.lo ++ [120] ++ Lib.itoa s.wi)) ++ ([32])) ++ (Lib.itoa s.a0 ++ [126] ++ Lib.itoa s.a1)) ++ ([32])) ++ (Lib.itoa s.c0 ++ [126] ++ Lib.itoa s.c1)) ++ ([10])) := ⟨_, rfl⟩
 rw [← hpre9] at T
 have lpre9 := congrArg List.length hpre9
 simp only [List.length_append, List.length_cons, List.length_nil] at lpre9
 refine wp_loop_n (fun mz ac wc => ∃ (k : Nat), mz = s.ps.length - k ∧ (k ≤ s.ps.length) ∧ (((s.ps.take k).flatMap (fun p => partT p ++ [10])).length ≤ k * 40) ∧ Tm ac 62 [(1, .pointer (some ⟨g1, 0, none⟩)), (5, sv (pre9 ++ (s.ps.take k).flatMap (fun p => partT p ++ [10]))), (6, .int .i64 (k : Int))] ∧ Mem w noEx wc [(g1, .cells [.int .i64 s.lo, .int .i64 s.wi, .int .i64 s.a0, .int .i64 s.a1, .int .i64 s.c0, .int .i64 s.c1, .slice A s.ps.length c])]) ?_ ?_
 ·have e0 : pre9 = pre9 ++ (s.ps.take 0).flatMap (fun p => partT p ++ [10]) := by simp
  rw [e0] at T
  exact ⟨_, 0, rfl, (Nat.zero_le _), (Nat.le_refl _), T.pick [2, 1, 0] rfl, M.mask [true] rfl⟩
 clear T M
 rintro mz ac wc ⟨k, hmm1, hk, hf9, T, M⟩
 refine wp_seq ?_
 refine Zsr ?_
 refine Zg5 (v2 := (.pointer (some ⟨g1, 6, none⟩))) T (Zq (Zrm rfl (T.e 2 rfl))) rfl (Zf 6 1 rfl rfl) rfl (Zo M 0 0 rfl rfl rfl rfl) rfl (Zl Tryz.underlying47 0 rfl rfl) rfl (fun _ T => Zq (rn_lss rfl (T.e 3 rfl) (T.e 0 rfl))) rfl ?_; clear T ac; intro ac T
 replace T := T.pick [0, 5, 6, 7] rfl
 refine Zln ?_
 refine wp_if (T.e 0 rfl) ?_ ?_
 ·intro h2
  obtain ⟨p, hkp, -⟩ := pc_next (l := s.ps) (k := k) (by omega)
  have hpg := hsn.ps p (List.mem_of_getElem? hkp)
  obtain ⟨⟨hp1, hp2⟩, ⟨hp3, hp4⟩, hp5, hp6⟩ := hpg
  refine Zsk ?_
  refine wp_seq ?_
  refine wp_block ?_
  refine Zsr ?_
  refine Zg5 (v1 := (.pointer (some ⟨g1, 6, none⟩))) (v5 := (.agg #[.int .i64 p.l, .int .i64 p.w, .bool p.gr, .int .i64 p.pa])) T (Zq (Zrf (off := 6) rfl (T.e 1 rfl) (fun _ _ _ => by kernel_rfl))) rfl (Zo M 0 0 rfl rfl rfl rfl) rfl (Zm 5 rfl rfl) rfl (fun _ T => Zq (Zri (size := 4) k rfl (T.e 1 rfl) (T.e 0 rfl) ⟨_, Tryz.underlying47, by kernel_rfl⟩ rfl (by omega) (SA.at0 (by omega)))) rfl (fun _ T => Zq (rn_rowat (Sp.pcR SA M (Zz9 _) hkp) rfl (T.e 0 rfl) rfl)) rfl ?_; clear T ac; intro ac T
  refine Zl2 ?_
  refine Zoa M T rfl rfl rfl rfl ?_; clear M T; intro g2 wc ac M T
  refine Zl2 ?_
  refine Zos M T rfl rfl (T.e 0 rfl) (T.e 1 rfl) rfl .head rfl (by simp) rfl (by kernel_rfl) ?_; clear M T; intro wc ac M T
  replace T := T.pick [0, 7, 8, 9] rfl
  refine Zln ?_
  refine Zsr ?_
  refine lq T (Zra rfl evc) ?_; clear T ac; intro ac T
  refine Zln ?_
  refine wp_seq ?_
  refine Zsr ?_
  refine Zg2 (v1 := (.pointer (some ⟨g2, 2, none⟩))) T (Zq (Zrf (off := 2) rfl (T.e 1 rfl) (fun _ _ _ => by kernel_rfl))) rfl (Zo M 0 0 rfl rfl rfl rfl) rfl ?_; clear T ac; intro ac T
  replace T := T.pick [0, 2, 3, 4, 5, 6] rfl
  refine Zln ?_
  refine wp_cond_split (T.e 0 rfl) ?_ ?_
  ·intro h3
   refine wp_region_lit ?_
   refine l_q (v := (sv ([32, 103, 114, 97, 105, 110, 32]))) (T.pick [0, 2, 3, 4, 5] rfl) rfl rfl rfl rfl (Zra rfl evc) ?_; clear T ac; intro ac T
   replace T := T.pick [0, 2, 3, 4, 5] rfl
   refine Zln ?_
   refine Zgs M (M.mask [true, true] rfl) 16 (by kernel_rfl) rfl (by kernel_rfl) ?_
   clear M; intro wc M
   refine gq T 0 1 rfl (fun _ _ _ _ _ => (Zrm rfl (T.e 3 rfl))) ?_; clear T ac; intro ac T
   refine gq T 1 3 rfl (fun _ _ _ _ _ => (rn_sadd rfl (T.e 0 rfl) evc (by (try simp only [List.length_append, List.length_cons, List.length_nil]); omega))) ?_; clear T ac; intro ac T
   refine gq (v := (.pointer (some ⟨g2, 0, none⟩))) T 2 7 rfl (fun _ _ _ _ _ => (Zrf (off := 0) rfl (T.e 3 rfl) (fun _ _ _ => by kernel_rfl))) ?_; clear T ac; intro ac T
   refine gq T 3 15 rfl (fun B w' hD hl hS => (Zro (Mem.nth (show Mem w noEx w' _ from hS) 0 rfl) rfl (T.e 0 rfl) rfl)) ?_; clear T ac; intro ac T
   refine gq (v := (.pointer (some ⟨g2, 1, none⟩))) T 4 31 rfl (fun _ _ _ _ _ => (Zrf (off := 1) rfl (T.e 5 rfl) (fun _ _ _ => by kernel_rfl))) ?_; clear T ac; intro ac T
   refine gq T 5 63 rfl (fun B w' hD hl hS => (Zro (Mem.nth (show Mem w noEx w' _ from hS) 0 rfl) rfl (T.e 0 rfl) rfl)) ?_; clear T ac; intro ac T
   refine gq T 8 319 rfl (fun _ _ _ _ _ => (Zrm rfl (T.e 6 rfl))) ?_; clear T ac; intro ac T
   refine gq (v := (.pointer (some ⟨g2, 3, none⟩))) T 10 1343 rfl (fun _ _ _ _ _ => (Zrf (off := 3) rfl (T.e 8 rfl) (fun _ _ _ => by kernel_rfl))) ?_; clear T ac; intro ac T
   refine gq T 11 3391 rfl (fun B w' hD hl hS => (Zro (Mem.nth (show Mem w noEx w' _ from hS) 0 rfl) rfl (T.e 0 rfl) rfl)) ?_; clear T ac; intro ac T
   refine gw 6 3455 ?_; intro K hK
   refine Zoc (first := []) (cap := []) T rfl rfl rfl rfl evf (.cons (T.e 5 rfl) (.cons (T.e 3 rfl) .nil)) Tryz.func70 rfl rfl ?_
   refine Calls.mono (sides8_any p.l p.w _ ⟨by (try dsimp only); omega, by (try dsimp only); omega⟩ ⟨by (try dsimp only); omega, by (try dsimp only); omega⟩ (hT.mem0 M)) ?_
   clear T; rintro e wc ⟨rfl, hb⟩ ac T
   replace M := M.call hb; clear hb
   have hiu5 := itoa_len (v := p.l) ⟨by (try dsimp only); omega, by (try dsimp only); omega⟩
   have hju5 := itoa_len (v := p.w) ⟨by (try dsimp only); omega, by (try dsimp only); omega⟩
   refine Zso hK _ _ (M.mask [true, true] rfl) ?_; clear hK K
   refine gq T 7 3583 rfl (fun _ _ _ _ _ => (rn_sadd rfl (T.e 8 rfl) (T.e 0 rfl) (by (try simp only [List.length_append, List.length_cons, List.length_nil]); omega))) ?_; clear T ac; intro ac T
   refine gq T 9 4095 rfl (fun _ _ _ _ _ => (rn_sadd rfl (T.e 0 rfl) (T.e 4 rfl) (by (try simp only [List.length_append, List.length_cons, List.length_nil]); omega))) ?_; clear T ac; intro ac T
   refine gw 12 8191 ?_; intro K hK
   refine Zoc (first := []) (cap := []) T rfl rfl rfl rfl evf (.cons (T.e 3 rfl) .nil) Tryz.func43 rfl rfl ?_
   refine Calls.mono (Itoa_any p.pa _ (by (try dsimp only); omega) (hT.mem0 M)) ?_
   clear T; rintro e wc ⟨rfl, hb⟩ ac T
   replace M := M.call hb; clear hb
   have hiu6 := itoa_len (v := p.pa) ⟨by (try dsimp only); omega, by (try dsimp only); omega⟩
   refine Zso hK _ _ (M.mask [true, true] rfl) ?_; clear hK K
   refine gq T 13 16383 rfl (fun _ _ _ _ _ => (rn_sadd rfl (T.e 1 rfl) (T.e 0 rfl) (by (try simp only [List.length_append, List.length_cons, List.length_nil]); omega))) ?_; clear T ac; intro ac T
   refine gq T 14 32767 rfl (fun _ _ _ _ _ => (rn_sadd rfl (T.e 0 rfl) evc (by (try simp only [List.length_append, List.length_cons, List.length_nil]); omega))) ?_; clear T ac; intro ac T
   refine g_q (v := (sv ((((((pre9 ++ (s.ps.take k).flatMap (fun p => partT p ++ [10])) ++ ([98, 108, 97, 110, 107, 32])) ++ (Lib.itoa p.l ++ [120] ++ Lib.itoa p.w)) ++ ([32, 103, 114, 97, 105, 110, 32])) ++ (Lib.itoa p.pa)) ++ ([10])))) (T := T.pick [0, 1, 2, 3, 4, 5, 6, 7, 8, 9, 10, 11, 12, 13, 14, 15, 16, 17, 19] rfl) (i := 15) rfl (by kernel_rfl) (by kernel_rfl : (Zpb 16 32767).setIfInBounds 15 true = Zpb 16 65535) si_U (fun _ _ _ h => h) rfl rfl rfl rfl (fun _ _ _ _ _ => (Zra rfl (T.e 0 rfl))) ?_; clear T ac; intro ac T
   refine Zgd (by kernel_rfl) ?_
   replace T := T.pick [0, 18, 19] rfl
   replace M := M.mask [false, true] rfl
   refine Znb ?_
   refine nm_then ?_
   refine wp_region_lit ?_
   refine Zg2 T (Zq (Zrm rfl (T.e 2 rfl))) rfl (fun _ T => Zq (rn_add rfl (T.e 0 rfl) evc (by omega))) rfl ?_; clear T ac; intro ac T
   refine l_q (v := (.int .i64 ((k : Int) + 1))) (T.pick [0, 1, 2, 3] rfl) rfl rfl rfl rfl (Zra rfl (T.e 0 rfl)) ?_; clear T ac; intro ac T
   replace T := T.pick [0, 3, 4] rfl
   refine Zln ?_
   have e9 : ((((((pre9 ++ (s.ps.take k).flatMap (fun p => partT p ++ [10])) ++ ([98, 108, 97, 110, 107, 32])) ++ (Lib.itoa p.l ++ [120] ++ Lib.itoa p.w)) ++ ([32, 103, 114, 97, 105, 110, 32])) ++ (Lib.itoa p.pa)) ++ ([10])) = pre9 ++ (s.ps.take (k + 1)).flatMap (fun p => partT p ++ [10]) := by rw [take_sn hkp, List.flatMap_append]; simp_all [partT, wordT, blankW, anyW, grainW]
   rw [e9] at T
   have l9 := congrArg List.length e9
   simp only [List.length_append, List.length_cons, List.length_nil] at l9
   exact ⟨_, by omega, k + 1, rfl, (by omega), (by omega), T.pick [2, 1, 0] rfl, M.mask [true] rfl⟩
  intro h3
  refine Zsk ?_
  refine Zgs M (M.mask [true, true] rfl) 16 (by kernel_rfl) rfl (by kernel_rfl) ?_
  clear M; intro wc M
  refine gq T 0 1 rfl (fun _ _ _ _ _ => (Zrm rfl (T.e 4 rfl))) ?_; clear T ac; intro ac T
  refine gq T 1 3 rfl (fun _ _ _ _ _ => (rn_sadd rfl (T.e 0 rfl) evc (by (try simp only [List.length_append, List.length_cons, List.length_nil]); omega))) ?_; clear T ac; intro ac T
  refine gq (v := (.pointer (some ⟨g2, 0, none⟩))) T 2 7 rfl (fun _ _ _ _ _ => (Zrf (off := 0) rfl (T.e 4 rfl) (fun _ _ _ => by kernel_rfl))) ?_; clear T ac; intro ac T
  refine gq T 3 15 rfl (fun B w' hD hl hS => (Zro (Mem.nth (show Mem w noEx w' _ from hS) 0 rfl) rfl (T.e 0 rfl) rfl)) ?_; clear T ac; intro ac T
  refine gq (v := (.pointer (some ⟨g2, 1, none⟩))) T 4 31 rfl (fun _ _ _ _ _ => (Zrf (off := 1) rfl (T.e 6 rfl) (fun _ _ _ => by kernel_rfl))) ?_; clear T ac; intro ac T
  refine gq T 5 63 rfl (fun B w' hD hl hS => (Zro (Mem.nth (show Mem w noEx w' _ from hS) 0 rfl) rfl (T.e 0 rfl) rfl)) ?_; clear T ac; intro ac T
  refine gq T 8 319 rfl (fun _ _ _ _ _ => (Zrm rfl (T.e 7 rfl))) ?_; clear T ac; intro ac T
  refine gq (v := (.pointer (some ⟨g2, 3, none⟩))) T 10 1343 rfl (fun _ _ _ _ _ => (Zrf (off := 3) rfl (T.e 9 rfl) (fun _ _ _ => by kernel_rfl))) ?_; clear T ac; intro ac T
  refine gq T 11 3391 rfl (fun B w' hD hl hS => (Zro (Mem.nth (show Mem w noEx w' _ from hS) 0 rfl) rfl (T.e 0 rfl) rfl)) ?_; clear T ac; intro ac T
  refine gw 6 3455 ?_; intro K hK
  refine Zoc (first := []) (cap := []) T rfl rfl rfl rfl evf (.cons (T.e 5 rfl) (.cons (T.e 3 rfl) .nil)) Tryz.func70 rfl rfl ?_
  refine Calls.mono (sides8_any p.l p.w _ ⟨by (try dsimp only); omega, by (try dsimp only); omega⟩ ⟨by (try dsimp only); omega, by (try dsimp only); omega⟩ (hT.mem0 M)) ?_
  clear T; rintro e wc ⟨rfl, hb⟩ ac T
  replace M := M.call hb; clear hb
  have hiu7 := itoa_len (v := p.l) ⟨by (try dsimp only); omega, by (try dsimp only); omega⟩
  have hju7 := itoa_len (v := p.w) ⟨by (try dsimp only); omega, by (try dsimp only); omega⟩
  refine Zso hK _ _ (M.mask [true, true] rfl) ?_; clear hK K
  refine gq T 7 3583 rfl (fun _ _ _ _ _ => (rn_sadd rfl (T.e 8 rfl) (T.e 0 rfl) (by (try simp only [List.length_append, List.length_cons, List.length_nil]); omega))) ?_; clear T ac; intro ac T
  refine gq T 9 4095 rfl (fun _ _ _ _ _ => (rn_sadd rfl (T.e 0 rfl) (T.e 4 rfl) (by (try simp only [List.length_append, List.length_cons, List.length_nil]); omega))) ?_; clear T ac; intro ac T
  refine gw 12 8191 ?_; intro K hK
  refine Zoc (first := []) (cap := []) T rfl rfl rfl rfl evf (.cons (T.e 3 rfl) .nil) Tryz.func43 rfl rfl ?_
  refine Calls.mono (Itoa_any p.pa _ (by (try dsimp only); omega) (hT.mem0 M)) ?_
  clear T; rintro e wc ⟨rfl, hb⟩ ac T
  replace M := M.call hb; clear hb
  have hiu8 := itoa_len (v := p.pa) ⟨by (try dsimp only); omega, by (try dsimp only); omega⟩
  refine Zso hK _ _ (M.mask [true, true] rfl) ?_; clear hK K
  refine gq T 13 16383 rfl (fun _ _ _ _ _ => (rn_sadd rfl (T.e 1 rfl) (T.e 0 rfl) (by (try simp only [List.length_append, List.length_cons, List.length_nil]); omega))) ?_; clear T ac; intro ac T
  refine gq T 14 32767 rfl (fun _ _ _ _ _ => (rn_sadd rfl (T.e 0 rfl) evc (by (try simp only [List.length_append, List.length_cons, List.length_nil]); omega))) ?_; clear T ac; intro ac T
  refine g_q (v := (sv ((((((pre9 ++ (s.ps.take k).flatMap (fun p => partT p ++ [10])) ++ ([98, 108, 97, 110, 107, 32])) ++ (Lib.itoa p.l ++ [120] ++ Lib.itoa p.w)) ++ ([32, 97, 110, 121, 32])) ++ (Lib.itoa p.pa)) ++ ([10])))) (T := T.pick [0, 1, 2, 3, 4, 5, 6, 7, 8, 9, 10, 11, 12, 13, 14, 15, 16, 17, 18, 20] rfl) (i := 15) rfl (by kernel_rfl) (by kernel_rfl : (Zpb 16 32767).setIfInBounds 15 true = Zpb 16 65535) si_U (fun _ _ _ h => h) rfl rfl rfl rfl (fun _ _ _ _ _ => (Zra rfl (T.e 0 rfl))) ?_; clear T ac; intro ac T
  refine Zgd (by kernel_rfl) ?_
  replace T := T.pick [0, 19, 20] rfl
  replace M := M.mask [false, true] rfl
  refine Znb ?_
  refine nm_then ?_
  refine wp_region_lit ?_
  refine Zg2 T (Zq (Zrm rfl (T.e 2 rfl))) rfl (fun _ T => Zq (rn_add rfl (T.e 0 rfl) evc (by omega))) rfl ?_; clear T ac; intro ac T
  refine l_q (v := (.int .i64 ((k : Int) + 1))) (T.pick [0, 1, 2, 3] rfl) rfl rfl rfl rfl (Zra rfl (T.e 0 rfl)) ?_; clear T ac; intro ac T
  replace T := T.pick [0, 3, 4] rfl
  refine Zln ?_
  have e9 : ((((((pre9 ++ (s.ps.take k).flatMap (fun p => partT p ++ [10])) ++ ([98, 108, 97, 110, 107, 32])) ++ (Lib.itoa p.l ++ [120] ++ Lib.itoa p.w)) ++ ([32, 97, 110, 121, 32])) ++ (Lib.itoa p.pa)) ++ ([10])) = pre9 ++ (s.ps.take (k + 1)).flatMap (fun p => partT p ++ [10]) := by rw [take_sn hkp, List.flatMap_append]; simp_all [partT, wordT, blankW, anyW, grainW]
  rw [e9] at T
  have l9 := congrArg List.length e9
  simp only [List.length_append, List.length_cons, List.length_nil] at l9
  exact ⟨_, by omega, k + 1, rfl, (by omega), (by omega), T.pick [2, 1, 0] rfl, M.mask [true] rfl⟩
 intro h2
 have ek9 : s.ps.take k = s.ps := List.take_of_length_le (by omega)
 refine wp_exit ?_
 refine Zet ?_
 refine Zet ?_
 refine ex_hit ?_
 refine nm_then ?_
 refine Zsr ?_
 refine Zg4 T (Zq (Zrm rfl (T.e 2 rfl))) rfl (fun _ T => Zq (rn_sadd rfl (T.e 0 rfl) evc (by (try simp only [List.length_append, List.length_cons, List.length_nil]); omega))) rfl (Za 0 rfl rfl) rfl (Zc rfl) rfl ?_; clear T ac; intro ac T
 refine wpList_nil ?_
 replace T := T.pick [0, 1] rfl
 replace M := M.mask [false] rfl
 refine Znr ?_
 refine rt_2 T rfl (T.e 1 rfl) (T.e 0 rfl) ?_
 have e9 : ((pre9 ++ (s.ps.take k).flatMap (fun p => partT p ++ [10])) ++ ([115, 97, 119, 110, 10])) = wrS s := by unfold wrS; rw [if_pos (by omega), ek9, hpre9]; simp [writeS, headT, sheetW, sawnW]
 have e8 : skErr s = 0 := by omega
 rw [e9, e8]
 exact ⟨rfl, M.below⟩
theorem rows_len9 {s : Sk} (h : s.n3) (h5 : s.ps.length ≤ 5) : (joinC 10 (rowsT s s.ps.length ++ [sawnW])).length ≤ 299 := by
 have h1 := joinC_len (c := 10) (m := 40) (l := rowsT s s.ps.length ++ [sawnW]) (fun x hx => by
  rcases List.mem_append.1 hx with hx | hx
  ·rcases List.mem_cons.1 hx with rfl | hx
   ·exact head_len h
   ·obtain ⟨p, hp, rfl⟩ := List.mem_map.1 hx
    exact part_len (h.ps p ((List.take_sublist _ _).subset hp))
  ·rcases List.mem_singleton.1 hx with rfl
   decide)
 rw [List.length_append, rowsT_len (Nat.le_refl _), List.length_singleton] at h1
 omega
theorem write_len9 {s : Sk} (h : s.n3) (h5 : s.ps.length ≤ 5) : (writeS s).length ≤ 300 := by
 rw [← write_is, List.length_append, List.length_singleton]
 have := rows_len9 h h5
 omega
theorem readT_sh (s : List UInt8) : (readT s).1.ps.length ≤ 5 := by
 have key : ∀ rows r, (endS skErr rows r).1.ps.length ≤ 5 := by
  intro rows r
  unfold endS
  split
  ·exact Nat.zero_le _
  ·split
   ·exact Nat.zero_le _
   ·split
    ·exact Nat.zero_le _
    ·rename_i h
     exact (skErr_iff.1 (by simpa using h)).len
 show (readS skErr 300 s).1.ps.length ≤ 5
 unfold readS
 split
 ·exact Nat.zero_le _
 ·exact key _ _
def ReadZ (s : Sk) (l err : Int) (w : World) (e : Ending) (w' : World) : Prop := ∃ (A : Option Addr) (c : Nat) (I : List (Nat × BA)), e = .returned (.tuple #[.agg #[.int .i64 s.lo, .int .i64 s.wi, .int .i64 s.a0, .int .i64 s.a1, .int .i64 s.c0, .int .i64 s.c1, .slice A s.ps.length c], .int .i64 l, .int .i64 err]) ∧ Sl 119 4 (.slice A s.ps.length c) s.ps.length (pc s.ps) I ∧ Mem w noEx w' I
theorem readZ_any {t : List UInt8} {s : Sk} {l err : Int} (h : readT t = (s, l, err)) (w : World) (hS : StrW w) (hA : AsW w) : Calls Tryz.prog 20 #[sv t] w (ReadZ s l err w) := by
 have h2 := read_any t w hS hA
 rw [h] at h2
 exact h2
theorem rreadZ_any {t : List UInt8} {s : Sk} {l err : Int} (h : readT t = (s, l, err)) (w : World) (hS : StrW w) : Calls Tryz.prog 21 #[sv t] w (ReadZ s l err w) := by
 have h2 := rread_any t w hS
 rw [h] at h2
 exact h2
theorem wrS_len (s : Sk) : (wrS s).length ≤ 300 := by
 unfold wrS
 split
 ·rename_i h
  have g := skErr_iff.1 h
  exact write_len9 (good_n3 g) g.len
 ·exact Nat.zero_le _
section
variable {P : Program} {op : Oper} {a : Act} {w w0 : World} {ex : Nat → Prop} {L : List (Nat × BA)} {df : List Deferred} {nn : Nat} {E : List (Nat × Value)} {t : Tmp} {K : Act → World → Prop} {Q : Exit → Act → World → Prop}
theorem ow_b2s {src dst e : TypeId} {x : Operand} {g c : Nat} {b : UInt8} (M : Mem w0 ex w L) (T : TmD df a nn E) (hm : (g, BA.cells [.int .u8 ((b.toNat : Nat) : Int)]) ∈ L) (ho : op.op = .convert src dst x) (hd : op.dst = some t) (hf : freshE E t = true) (hn : Nat.blt t nn = true) (hx : a.eval x = .slice (some ⟨g, 0, none⟩) 1 c)
  (hs : P.underlying src = some (.slice e)) (he : P.underlying e = some (.int .u8)) (ht : P.underlying dst = some .string) (h : ∀ a', TmD df a' nn ((t, sv [b]) :: E) → K a' w) : op.wp P a w K Q := by
 have hr := (M.get hm).range
 have hcv := run_convert_bytes_arg (P := P) w src e hs he g 0 1 c [((b.toNat : Nat) : Int)] rfl (fun i hi => by
  obtain rfl : i = 0 := by omega
  exact hr 0 _ rfl) dst ht
 have hv : Value.string (strOfNums [((b.toNat : Nat) : Int)]) = sv [b] := by
  show Value.string ⟨([((b.toNat : Nat) : Int)].map fun n => UInt8.ofNat n.toNat).toArray⟩ = Value.string ⟨[b].toArray⟩
  simp
 unfold Oper.wp execOp
 simp only [ho, hx, hcv, Sem.run_bind, Result.andThen_ok, Sem.run_pure]
 rw [Oper.upon_value, hd, hv]
 exact h _ (T.put hn hf _)
end
theorem cutS_len {l : List UInt8} {p q : Nat} (h : p ≤ q) (h2 : q ≤ l.length) : (cutS l p q).length = q - p := by
 unfold cutS
 rw [List.length_take, List.length_drop]
 omega
def HarmP (s : List UInt8) (w : World) (e : Ending) (w' : World) : Prop := ∃ h : List UInt8, h.length ≤ s.length + 1 ∧ e = .returned (sv h) ∧ Below w.heap.size w w'
theorem harmed_any (s : List UInt8) (x y : Int) (b : UInt8) (w : World) (hs : s.length ≤ 1000) :
   Calls Tryz.prog 12 #[sv s, .int .i64 x, .int .i64 y, .int .u8 ((b.toNat : Nat) : Int)] w (HarmP s w) := by
 refine Zpx noEx Tryz.func12 rfl 53 rfl [sv s, .int .i64 x, .int .i64 y, .int .u8 ((b.toNat : Nat) : Int)] rfl rfl (Mem.init w _) ?_
 intro ac wc T M
 refine Zsr ?_
 refine lq T (Zra rfl evc) ?_; clear T ac; intro ac T
 replace T := T.pick [1, 2, 3, 4] rfl
 refine Zln ?_
 refine wp_seq ?_
 refine Zsr ?_
 refine Zg2 T (Zq (Zrm rfl (T.e 0 rfl))) rfl (fun _ T => Zq (rn_seql rfl (T.e 0 rfl) evc)) rfl ?_; clear T ac; intro ac T
 replace T := T.pick [0, 2, 3, 4, 5] rfl
 refine Zln ?_
 refine wp_if (T.e 0 rfl) ?_ ?_
 ·intro h1
  refine Zsr ?_
  refine Zg2 T (Zq (Zrm rfl (T.e 1 rfl))) rfl (Za 0 rfl rfl) rfl ?_; clear T ac; intro ac T
  replace T := T.pick [0] rfl
  refine Zln ?_
  refine wp_ret ?_
  refine Zrt ?_
  refine rt_1 T rfl (T.e 0 rfl) ?_
  exact ⟨s, (by omega), rfl, M.below⟩
 intro h1
 have hpos : 0 < s.length := List.length_pos_iff.2 (by assumption)
 refine Zsk ?_
 refine Zsr ?_
 refine Zg3 T (Zq (Zrm rfl (T.e 2 rfl))) rfl (Zm 2 rfl rfl) rfl (fun _ T => Zq (rn_slen rfl Tryz.underlying9 (T.e 0 rfl))) rfl ?_; clear T ac; intro ac T
 refine Zl2 ?_
 refine Zoc (first := []) (cap := []) T rfl rfl rfl rfl evf (.cons (T.e 2 rfl) (.cons (T.e 0 rfl) .nil)) Tryz.func45 rfl rfl ?_
 refine Calls.mono (turn_any x s.length _ (by omega) (by omega)) ?_
 clear T; rintro e wc ⟨ku1, rfl, hku1, hb⟩ ac T
 replace M := M.call hb; clear hb
 have hc1 := cutS_len (l := s) (p := 0) (q := ku1) (by omega) (by omega)
 have hc2 := cutS_len (l := s) (p := ku1 + 1) (q := s.length) (by omega) (by omega)
 have hc3 := cutS_len (l := s) (p := ku1) (q := s.length) (by omega) (by omega)
 refine lq T (Zra rfl (T.e 0 rfl)) ?_; clear T ac; intro ac T
 replace T := T.pick [0, 6, 8, 9] rfl
 refine Zln ?_
 refine wp_seq ?_
 refine Zsr ?_
 refine lq T (Zrm rfl (T.e 2 rfl)) ?_; clear T ac; intro ac T
 replace T := T.pick [0, 1, 2, 4] rfl
 refine Zln ?_
 refine wp_block ?_
 refine Zsr ?_
 refine Zg2 T (Zq (rn_eql rfl (T.e 0 rfl) evc)) rfl (Za 0 rfl rfl) rfl ?_; clear T ac; intro ac T
 replace T := T.pick [0, 2, 3, 4, 5] rfl
 refine Zln ?_
 refine wp_if (T.e 0 rfl) ?_ ?_
 ·intro h2
  refine wp_seq ?_
  refine Zgs M (M.mask [] rfl) 13 (by kernel_rfl) rfl (by kernel_rfl) ?_
  clear M; intro wc M
  refine gq T 0 1 rfl (fun _ _ _ _ _ => (Zrm rfl (T.e 3 rfl))) ?_; clear T ac; intro ac T
  refine gq T 1 3 rfl (fun _ _ _ _ _ => (Zrm rfl (T.e 3 rfl))) ?_; clear T ac; intro ac T
  refine gq T 2 7 rfl (fun _ _ _ _ _ => (rn_sslice (p := 0) (q := ku1) rfl Tryz.underlying9 (T.e 1 rfl) rfl (T.e 0 rfl) (by omega) (by omega))) ?_; clear T ac; intro ac T
  refine gq T 3 15 rfl (fun _ _ _ _ _ => (Zrm rfl (T.e 7 rfl))) ?_; clear T ac; intro ac T
  refine gq T 7 143 rfl (fun _ _ _ _ _ => (Zrm rfl (T.e 7 rfl))) ?_; clear T ac; intro ac T
  refine gq T 8 399 rfl (fun _ _ _ _ _ => (Zrm rfl (T.e 7 rfl))) ?_; clear T ac; intro ac T
  refine gq T 9 911 rfl (fun _ _ _ _ _ => (rn_add rfl (T.e 0 rfl) evc (by omega))) ?_; clear T ac; intro ac T
  refine gq T 10 1935 rfl (fun _ _ _ _ _ => (rn_sslice (p := (ku1 + 1)) (q := s.length) rfl Tryz.underlying9 (T.e 2 rfl) ((T.e 0 rfl).trans (congrArg (Value.int .i64) (by omega))) rfl (by omega) (by omega))) ?_; clear T ac; intro ac T
  refine gw 4 1951 ?_; intro K hK
  refine ow_bs (e := 5) [.int .u8 ((b.toNat : Nat) : Int)] M T rfl rfl rfl rfl (.cons (T.e 4 rfl) .nil) (fun _ => by kernel_rfl) ?_; clear M T; intro g1 wc ac M T
  refine Zso hK _ _ (M.mask [false] rfl) ?_; clear hK K
  refine gw 5 1983 ?_; intro K hK
  refine ow_b2s (b := b) (c := 1) M T (Zne (i := 0) rfl) rfl rfl rfl rfl (T.e 0 rfl) Tryz.underlying93 Tryz.underlying5 Tryz.underlying9 ?_; clear T; intro ac T
  refine Zso hK _ _ (M.mask [false] rfl) ?_; clear hK K
  refine gq T 6 2047 rfl (fun _ _ _ _ _ => (rn_sadd rfl (T.e 7 rfl) (T.e 0 rfl) (by (try simp only [List.length_append, List.length_cons, List.length_nil]); omega))) ?_; clear T ac; intro ac T
  refine gq T 11 4095 rfl (fun _ _ _ _ _ => (rn_sadd rfl (T.e 0 rfl) (T.e 3 rfl) (by (try simp only [List.length_append, List.length_cons, List.length_nil]); omega))) ?_; clear T ac; intro ac T
  refine gq T 12 8191 rfl (fun _ _ _ _ _ => (Zra rfl (T.e 0 rfl))) ?_; clear T ac; intro ac T
  refine Zgd (by kernel_rfl) ?_
  replace T := T.pick [0] rfl
  replace M := M.mask [false] rfl
  refine Znr ?_
  refine Zrb ?_
  refine Zrt ?_
  refine rt_1 T rfl (T.e 0 rfl) ?_
  exact ⟨(((cutS s 0 ku1) ++ ([b])) ++ (cutS s (ku1 + 1) s.length)), (by simp only [List.length_append, List.length_cons, List.length_nil]; omega), rfl, M.below⟩
 intro h2
 refine Zsr ?_
 refine Zg2 T (Zq (rn_eql rfl (T.e 1 rfl) evc)) rfl (Za 0 rfl rfl) rfl ?_; clear T ac; intro ac T
 replace T := T.pick [0, 4, 5, 6] rfl
 refine Zln ?_
 refine wp_if (T.e 0 rfl) ?_ ?_
 ·intro h3
  refine wp_seq ?_
  refine Zgs M (M.mask [] rfl) 9 (by kernel_rfl) rfl (by kernel_rfl) ?_
  clear M; intro wc M
  refine gq T 0 1 rfl (fun _ _ _ _ _ => (Zrm rfl (T.e 2 rfl))) ?_; clear T ac; intro ac T
  refine gq T 1 3 rfl (fun _ _ _ _ _ => (Zrm rfl (T.e 2 rfl))) ?_; clear T ac; intro ac T
  refine gq T 2 7 rfl (fun _ _ _ _ _ => (rn_sslice (p := 0) (q := ku1) rfl Tryz.underlying9 (T.e 1 rfl) rfl (T.e 0 rfl) (by omega) (by omega))) ?_; clear T ac; intro ac T
  refine gq T 3 15 rfl (fun _ _ _ _ _ => (Zrm rfl (T.e 5 rfl))) ?_; clear T ac; intro ac T
  refine gq T 4 31 rfl (fun _ _ _ _ _ => (Zrm rfl (T.e 5 rfl))) ?_; clear T ac; intro ac T
  refine gq T 5 63 rfl (fun _ _ _ _ _ => (rn_add rfl (T.e 0 rfl) evc (by omega))) ?_; clear T ac; intro ac T
  refine gq T 6 127 rfl (fun _ _ _ _ _ => (rn_sslice (p := (ku1 + 1)) (q := s.length) rfl Tryz.underlying9 (T.e 2 rfl) ((T.e 0 rfl).trans (congrArg (Value.int .i64) (by omega))) rfl (by omega) (by omega))) ?_; clear T ac; intro ac T
  refine gq T 7 255 rfl (fun _ _ _ _ _ => (rn_sadd rfl (T.e 4 rfl) (T.e 0 rfl) (by (try simp only [List.length_append, List.length_cons, List.length_nil]); omega))) ?_; clear T ac; intro ac T
  refine gq T 8 511 rfl (fun _ _ _ _ _ => (Zra rfl (T.e 0 rfl))) ?_; clear T ac; intro ac T
  refine Zgd (by kernel_rfl) ?_
  replace T := T.pick [0] rfl
  refine Znr ?_
  refine Zrb ?_
  refine Zrt ?_
  refine rt_1 T rfl (T.e 0 rfl) ?_
  exact ⟨((cutS s 0 ku1) ++ (cutS s (ku1 + 1) s.length)), (by simp only [List.length_append, List.length_cons, List.length_nil]; omega), rfl, M.below⟩
 intro h3
 refine wp_skip ?_
 refine Znb ?_
 refine Zns ?_
 refine Zgs M (M.mask [] rfl) 12 (by kernel_rfl) rfl (by kernel_rfl) ?_
 clear M; intro wc M
 refine gq T 0 1 rfl (fun _ _ _ _ _ => (Zrm rfl (T.e 2 rfl))) ?_; clear T ac; intro ac T
 refine gq T 1 3 rfl (fun _ _ _ _ _ => (Zrm rfl (T.e 2 rfl))) ?_; clear T ac; intro ac T
 refine gq T 2 7 rfl (fun _ _ _ _ _ => (rn_sslice (p := 0) (q := ku1) rfl Tryz.underlying9 (T.e 1 rfl) rfl (T.e 0 rfl) (by omega) (by omega))) ?_; clear T ac; intro ac T
 refine gq T 3 15 rfl (fun _ _ _ _ _ => (Zrm rfl (T.e 6 rfl))) ?_; clear T ac; intro ac T
 refine gq T 7 143 rfl (fun _ _ _ _ _ => (Zrm rfl (T.e 6 rfl))) ?_; clear T ac; intro ac T
 refine gq T 8 399 rfl (fun _ _ _ _ _ => (Zrm rfl (T.e 6 rfl))) ?_; clear T ac; intro ac T
 refine gq T 9 911 rfl (fun _ _ _ _ _ => (rn_sslice (p := ku1) (q := s.length) rfl Tryz.underlying9 (T.e 1 rfl) (T.e 0 rfl) rfl (by omega) (by omega))) ?_; clear T ac; intro ac T
 refine gw 4 927 ?_; intro K hK
 refine ow_bs (e := 5) [.int .u8 ((b.toNat : Nat) : Int)] M T rfl rfl rfl rfl (.cons (T.e 3 rfl) .nil) (fun _ => by kernel_rfl) ?_; clear M T; intro g2 wc ac M T
 refine Zso hK _ _ (M.mask [false] rfl) ?_; clear hK K
 refine gw 5 959 ?_; intro K hK
 refine ow_b2s (b := b) (c := 1) M T (Zne (i := 0) rfl) rfl rfl rfl rfl (T.e 0 rfl) Tryz.underlying93 Tryz.underlying5 Tryz.underlying9 ?_; clear T; intro ac T
 refine Zso hK _ _ (M.mask [false] rfl) ?_; clear hK K
 refine gq T 6 1023 rfl (fun _ _ _ _ _ => (rn_sadd rfl (T.e 6 rfl) (T.e 0 rfl) (by (try simp only [List.length_append, List.length_cons, List.length_nil]); omega))) ?_; clear T ac; intro ac T
 refine gq T 10 2047 rfl (fun _ _ _ _ _ => (rn_sadd rfl (T.e 0 rfl) (T.e 3 rfl) (by (try simp only [List.length_append, List.length_cons, List.length_nil]); omega))) ?_; clear T ac; intro ac T
 refine gq T 11 4095 rfl (fun _ _ _ _ _ => (Zra rfl (T.e 0 rfl))) ?_; clear T ac; intro ac T
 refine Zgd (by kernel_rfl) ?_
 replace T := T.pick [0] rfl
 replace M := M.mask [false] rfl
 refine Znr ?_
 refine rt_1 T rfl (T.e 0 rfl) ?_
 exact ⟨(((cutS s 0 ku1) ++ ([b])) ++ (cutS s ku1 s.length)), (by simp only [List.length_append, List.length_cons, List.length_nil]; omega), rfl, M.below⟩
theorem SheetTexts_any (s : Sk) (A : Option Addr) (c : Nat) (text : List UInt8) (D : Option Addr) (e n : Nat) (l : List Int) (x y : Int) (bb : UInt8) (w : World) (hA9 : Rd w w.heap.size 4 A s.ps.length (pc s.ps)) (nA : s.ps.length ≤ 9223372036854775807) (hl : Rd w w.heap.size 1 D n (ic l)) (hm : n ≤ 9223372036854775807) (hT : TabW w) (hS : StrW w) (hA : AsW w) :
   Calls Tryz.prog 5 #[.agg #[.int .i64 s.lo, .int .i64 s.wi, .int .i64 s.a0, .int .i64 s.a1, .int .i64 s.c0, .int .i64 s.c1, .slice A s.ps.length c], sv text, .slice D n e, .int .i64 x, .int .i64 y, .int .u8 ((bb.toNat : Nat) : Int)] w fun e w' => e = .returned (.bool true) ∧ Below w.heap.size w w' := by
 obtain ⟨bA, oA, SA⟩ := Sp.old hA9
 have hll := hl.len1
 obtain ⟨bI, oI, SI⟩ := Sp.old hl
 refine Zpx noEx Tryz.func5 rfl 132 rfl [.agg #[.int .i64 s.lo, .int .i64 s.wi, .int .i64 s.a0, .int .i64 s.a1, .int .i64 s.c0, .int .i64 s.c1, .slice A s.ps.length c], sv text, .slice D n e, .int .i64 x, .int .i64 y, .int .u8 ((bb.toNat : Nat) : Int)] rfl rfl (Mem.init w _) ?_
 intro ac wc T M
 refine Zsr ?_
 refine Zl2 ?_
 refine Zob M T rfl rfl rfl rfl (T.e 0 rfl) rfl ?_; clear M T; intro g1 wc ac M T
 refine lq T (Zra rfl evc) ?_; clear T ac; intro ac T
 replace T := T.pick [1, 3, 4, 5, 6, 7] rfl
 refine Zln ?_
 refine wp_seq ?_
 refine cut_seq (fun ac wc => Tm ac 132 [(1, sv text), (2, .slice D n e), (3, .int .i64 x), (4, .int .i64 y), (5, .int .u8 ((bb.toNat : Nat) : Int)), (6, .pointer (some ⟨g1, 0, none⟩)), (40, .bool ((decide (20 < ((s.ps.length : Nat) : Int))) || ((decide (250 < ((text.length : Nat) : Int))) && (decide (((text.length : Nat) : Int) ≤ 300)))))] ∧ Mem w noEx wc [(g1, .cells [.int .i64 s.lo, .int .i64 s.wi, .int .i64 s.a0, .int .i64 s.a1, .int .i64 s.c0, .int .i64 s.c1, .slice A s.ps.length c])]) ?_ ?_
 ·refine wp_region_lit ?_
  refine Zg5 (v1 := (.pointer (some ⟨g1, 6, none⟩))) T (Zq (Zrf (off := 6) rfl (T.e 0 rfl) (fun _ _ _ => by kernel_rfl))) rfl (Zo M 0 0 rfl rfl rfl rfl) rfl (Zl Tryz.underlying47 0 rfl rfl) rfl (fun _ T => Zq (rn_gtr rfl (T.e 0 rfl) evc)) rfl (Zm 0 rfl rfl) rfl ?_; clear T ac; intro ac T
  rcases Bool.eq_false_or_eq_true (decide (20 < ((s.ps.length : Nat) : Int))) with h1 | h1
  ·replace h1 := of_decide_eq_true h1
   refine Zg8 T (Zp (Zwn rfl rfl (T.e 0 rfl) (Zdt h1))) rfl (fun _ T => Zp (Zwn rfl rfl (T.e 1 rfl) (Zdt h1))) rfl (fun _ T => Zp (Zwn rfl rfl (T.e 2 rfl) (Zdt h1))) rfl (fun _ T => Zp (Zwn rfl rfl (T.e 3 rfl) (Zdt h1))) rfl (fun _ T => Zp (Zwu rfl rfl (T.e 0 rfl))) rfl (fun _ T => Zp (Zwu rfl rfl (T.e 1 rfl))) rfl (fun _ T => Zp (Zwu rfl rfl (T.e 2 rfl))) rfl (fun _ T => Zp (Zwn rfl rfl (T.e 7 rfl) (Zdt h1))) rfl ?_; clear T ac; intro ac T
   refine lq T (Zr1 rfl (T.e 8 rfl) (Zdt h1) evc) ?_; clear T ac; intro ac T
   refine wpList_nil ?_
   replace T := T.pick [0, 14, 15, 16, 17, 18, 19] rfl
   exact ⟨(T.pick (E' := [(1, sv text), (2, .slice D n e), (3, .int .i64 x), (4, .int .i64 y), (5, .int .u8 ((bb.toNat : Nat) : Int)), (6, .pointer (some ⟨g1, 0, none⟩)), (40, .bool true)]) [2, 3, 4, 5, 6, 1, 0] rfl).as (by (try rw [show (decide (20 < ((s.ps.length : Nat) : Int))) = true from (Zdt h1)]); (try rfl)), M.mask [true] rfl⟩
  replace h1 := of_decide_eq_false h1
  refine Zg4 T (Zw (Zwy rfl rfl (T.e 0 rfl) (Zdf h1)) (Zrm rfl (T.e 6 rfl))) rfl (fun _ T => Zw (Zwy rfl rfl (T.e 1 rfl) (Zdf h1)) (rn_slen rfl Tryz.underlying9 (T.e 0 rfl))) rfl (fun _ T => Zw (Zwy rfl rfl (T.e 2 rfl) (Zdf h1)) (rn_gtr rfl (T.e 0 rfl) evc)) rfl (fun _ T => Zw (Zwy rfl rfl (T.e 3 rfl) (Zdf h1)) (Zrm rfl (T.e 0 rfl))) rfl ?_; clear T ac; intro ac T
  rcases Bool.eq_false_or_eq_true (decide (250 < ((text.length : Nat) : Int))) with h2 | h2
  ·replace h2 := of_decide_eq_true h2
   refine Zg5 T (Zw (Zwy rfl rfl (T.e 0 rfl) (Zdt h2)) (Zrm rfl (T.e 10 rfl))) rfl (fun _ T => Zw (Zwy rfl rfl (T.e 1 rfl) (Zdt h2)) (rn_slen rfl Tryz.underlying9 (T.e 0 rfl))) rfl (fun _ T => Zw (Zwy rfl rfl (T.e 2 rfl) (Zdt h2)) (rn_leq rfl (T.e 0 rfl) evc)) rfl (fun _ T => Zw (Zwy rfl rfl (T.e 7 rfl) (Zdf h1)) (Zr1 rfl (T.e 3 rfl) (Zdt h2) (T.e 0 rfl))) rfl (fun _ T => Zq (Zr0 rfl (T.e 8 rfl) (Zdf h1) (T.e 0 rfl))) rfl ?_; clear T ac; intro ac T
   refine wpList_nil ?_
   replace T := T.pick [0, 14, 15, 16, 17, 18, 19] rfl
   exact ⟨(T.pick (E' := [(1, sv text), (2, .slice D n e), (3, .int .i64 x), (4, .int .i64 y), (5, .int .u8 ((bb.toNat : Nat) : Int)), (6, .pointer (some ⟨g1, 0, none⟩)), (40, .bool (decide (((text.length : Nat) : Int) ≤ 300)))]) [2, 3, 4, 5, 6, 1, 0] rfl).as (by (try rw [show (decide (20 < ((s.ps.length : Nat) : Int))) = false from (Zdf h1)]); (try rw [show (decide (250 < ((text.length : Nat) : Int))) = true from (Zdt h2)]); (try rfl)), M.mask [true] rfl⟩
  replace h2 := of_decide_eq_false h2
  refine Zg5 T (Zp (Zwn rfl rfl (T.e 0 rfl) (Zdf h2))) rfl (fun _ T => Zp (Zwn rfl rfl (T.e 1 rfl) (Zdf h2))) rfl (fun _ T => Zp (Zwn rfl rfl (T.e 2 rfl) (Zdf h2))) rfl (fun _ T => Zw (Zwy rfl rfl (T.e 7 rfl) (Zdf h1)) (Zr0 rfl (T.e 3 rfl) (Zdf h2) evc)) rfl (fun _ T => Zq (Zr0 rfl (T.e 8 rfl) (Zdf h1) (T.e 0 rfl))) rfl ?_; clear T ac; intro ac T
  refine wpList_nil ?_
  replace T := T.pick [0, 14, 15, 16, 17, 18, 19] rfl
  exact ⟨(T.pick (E' := [(1, sv text), (2, .slice D n e), (3, .int .i64 x), (4, .int .i64 y), (5, .int .u8 ((bb.toNat : Nat) : Int)), (6, .pointer (some ⟨g1, 0, none⟩)), (40, .bool false)]) [2, 3, 4, 5, 6, 1, 0] rfl).as (by (try rw [show (decide (20 < ((s.ps.length : Nat) : Int))) = false from (Zdf h1)]); (try rw [show (decide (250 < ((text.length : Nat) : Int))) = false from (Zdf h2)]); (try rfl)), M.mask [true] rfl⟩
 clear T M
 rintro ac wc ⟨T, M⟩
 refine wp_cond_split (T.e 6 rfl) ?_ ?_
 ·intro h3
  (have h3' := h3; try simp only [Zb1, Zb2, Zb3, Zb4, Zb5, Zb6, Zb7] at h3')
  refine Zsr ?_
  refine Zl2 ?_
  refine Zoc (first := []) (cap := []) T rfl rfl rfl rfl evf .nil Tryz.func16 rfl rfl ?_
  refine Calls.mono (sawn8_any _ (hT.mem M (fun h => h))) ?_
  clear T; rintro e wc ⟨rfl, hb⟩ ac T
  replace M := M.call hb; clear hb
  refine lq T (Zra rfl (T.e 0 rfl)) ?_; clear T ac; intro ac T
  refine wpList_nil ?_
  replace T := T.pick [0] rfl
  replace M := M.mask [false] rfl
  refine Znr ?_
  refine Zrt ?_
  refine rt_1 T rfl (T.e 0 rfl) ?_
  exact ⟨rfl, M.below⟩
 intro h3
 (have h3' := h3; try simp only [Zb1, Zb2, Zb3, Zb4, Zb5, Zb6, Zb7] at h3')
 refine Zsk ?_
 refine wp_seq ?_
 refine Zgs M (M.mask [true] rfl) 9 (by kernel_rfl) rfl (by kernel_rfl) ?_
 clear M; intro wc M
 refine g_have (fun ac wc => ∃ (sur3_2 : Int), ∃ (s2 : Sk), ∃ (AKur3_3 : Option Addr), ∃ (cKur3_3 : Nat), ∃ (sdur3_3 : Int), ∃ (IKur3_3 : List (Nat × BA)), ∃ (bAKur3_3 : Nat), ∃ (oAKur3_3 : Nat), (u64ok sur3_2) ∧ (u64ok sdur3_3) ∧ (Sp w noEx IKur3_3 AKur3_3 s2.ps.length 4 bAKur3_3 oAKur3_3 (pc s2.ps)) ∧ s2.good ∧ (s2.ps.length ≤ 5) ∧ ∃ (gr3_6 gr3_4 bpur3_2 : Nat), Tm ac 132 [(48, .slice (some ⟨gr3_6, 0, none⟩) 1 1), (13, .slice (some ⟨gr3_4, 0, none⟩) 2 2), (46, .slice (some ⟨gr3_4, 0, none⟩) 2 2), (45, .agg #[.int .i64 s2.lo, .int .i64 s2.wi, .int .i64 s2.a0, .int .i64 s2.a1, .int .i64 s2.c0, .int .i64 s2.c1, .slice AKur3_3 s2.ps.length cKur3_3]), (44, .pointer (some ⟨bpur3_2, 0, none⟩)), (47, sv text), (43, .slice D n e), (42, .agg #[.int .i64 s.lo, .int .i64 s.wi, .int .i64 s.a0, .int .i64 s.a1, .int .i64 s.c0, .int .i64 s.c1, .slice A s.ps.length c]), (1, sv text), (2, .slice D n e), (3, .int .i64 x), (4, .int .i64 y), (5, .int .u8 ((bb.toNat : Nat) : Int)), (6, .pointer (some ⟨g1, 0, none⟩)), (40, .bool ((decide (20 < ((s.ps.length : Nat) : Int))) || ((decide (250 < ((text.length : Nat) : Int))) && (decide (((text.length : Nat) : Int) ≤ 300)))))] ∧ Mem w noEx wc ((gr3_6, .row 9 1 1 [sv text] 1) :: (gr3_4, .cells [.int .i64 s.lo, .int .i64 s.wi, .int .i64 s.a0, .int .i64 s.a1, .int .i64 s.c0, .int .i64 s.c1, .slice A s.ps.length c, .int .i64 s2.lo, .int .i64 s2.wi, .int .i64 s2.a0, .int .i64 s2.a1, .int .i64 s2.c0, .int .i64 s2.c1, .slice AKur3_3 s2.ps.length cKur3_3]) :: (bpur3_2, .cells [.int .u64 sdur3_3]) :: (g1, .cells [.int .i64 s.lo, .int .i64 s.wi, .int .i64 s.a0, .int .i64 s.a1, .int .i64 s.c0, .int .i64 s.c1, .slice A s.ps.length c]) :: IKur3_3)) (Zpb 9 255) 1 ?_ ?_
 ·clear T M
  rintro ac wc ⟨sur3_2, s2, AKur3_3, cKur3_3, sdur3_3, IKur3_3, bAKur3_3, oAKur3_3, hsur3_2, hsur3_3, SAKur3_3, hsgs2, hlns2, gr3_6, gr3_4, bpur3_2, T, M⟩
  refine gq T 8 511 rfl (fun _ _ _ _ _ => (Zra rfl (T.e 0 rfl))) ?_; clear T ac; intro ac T
  refine Zgd (by kernel_rfl) ?_
  replace T := T.pick [0, 2, 11, 12, 13] rfl
  replace M := M.mask [true, true, false, false] rfl
  refine Zns ?_
  refine Zsr ?_
  refine lq T (Zra rfl evc) ?_; clear T ac; intro ac T
  refine Zln ?_
  refine wp_block ?_
  refine wp_loop_rounds 3 ?_
  refine rounds_S ?_
  refine wp_seq ?_
  refine Zsr ?_
  refine Zg4 (v3 := (.int .i64 2)) (v4 := (.bool true)) T (Zq (Zrm rfl (T.e 0 rfl))) rfl (Zm 3 rfl rfl) rfl (Zl Tryz.underlying51 0 rfl rfl) rfl (fun _ T => Zq (Zrq (rn_lss rfl (T.e 2 rfl) (T.e 0 rfl)) (by simp))) rfl ?_; clear T ac; intro ac T
  replace T := T.pick [0, 4, 5, 6, 7, 8, 9] rfl
  refine Zln ?_
  refine wp_cond_true (T.e 0 rfl) ?_
  refine Zsk ?_
  refine wp_seq ?_
  refine wp_block ?_
  refine wp_seq ?_
  have e8 : [sv text] = st [text] := rfl
  rw [e8] at M
  clear e8
  obtain ⟨tx0, htx0⟩ : ∃ q : List (List UInt8), q = [text] := ⟨_, rfl⟩
  have e7 : (1 : Nat) = tx0.length := by rw [htx0]; rfl
  replace M : Mem w noEx wc ((gr3_4, .cells [.int .i64 s.lo, .int .i64 s.wi, .int .i64 s.a0, .int .i64 s.a1, .int .i64 s.c0, .int .i64 s.c1, .slice A s.ps.length c, .int .i64 s2.lo, .int .i64 s2.wi, .int .i64 s2.a0, .int .i64 s2.a1, .int .i64 s2.c0, .int .i64 s2.c1, .slice AKur3_3 s2.ps.length cKur3_3]) :: (IKur3_3 ++ [(gr3_6, .row 9 1 tx0.length (st tx0) 1)])) := by rw [← e7, htx0]; exact (M.permS (fun f => by simp only [sumF_app, sumF_cons, sumF_nil, List.cons_append, List.nil_append, List.append_nil, Nat.add_zero, Nat.zero_add] <;> omega))
  replace T : Tm ac 132 [(52, .bool true), (15, .int .i64 0), (14, .slice (some ⟨gr3_6, 0, none⟩) tx0.length 1), (13, .slice (some ⟨gr3_4, 0, none⟩) 2 2), (3, .int .i64 x), (4, .int .i64 y), (5, .int .u8 ((bb.toNat : Nat) : Int))] := by rw [← e7]; exact T
  clear e7
  have hlttx0 : tx0.length = 1 := by rw [htx0]; rfl
  have hsltx0 : Sl 9 1 (.slice (some ⟨gr3_6, 0, none⟩) tx0.length 1) tx0.length (st tx0) [(gr3_6, .row 9 1 tx0.length (st tx0) 1)] := Sl.row _ _ _ _ _ _
  have Sy0 : Sp w noEx [(gr3_6, .row 9 1 tx0.length (st tx0) 1)] (some ⟨gr3_6, 0, none⟩) tx0.length 1 gr3_6 0 (st tx0) := Sp.row (by rw [st_length2, Nat.mul_one])
  obtain ⟨Iy0, hIy0⟩ : ∃ q : List (Nat × BA), q = [(gr3_6, .row 9 1 tx0.length (st tx0) 1)] := ⟨_, rfl⟩
  rw [← hIy0] at M hsltx0 Sy0
  refine wp_region_lit ?_
  refine Zg4 (v3 := (.pointer (some ⟨gr3_4, 0, none⟩))) T (Zq (Zrm rfl (T.e 3 rfl))) rfl (Zm 2 rfl rfl) rfl (fun _ T => Zq (Zri (size := 7) 0 rfl (T.e 1 rfl) (T.e 0 rfl) ⟨_, Tryz.underlying51, by kernel_rfl⟩ rfl (by decide) rfl)) rfl (Zr M 0 0 rfl rfl rfl rfl) rfl ?_; clear T ac; intro ac T
  refine Zl2 ?_
  refine Zoc (first := []) (cap := []) T rfl rfl rfl rfl evf (.cons (T.e 0 rfl) .nil) Tryz.func18 rfl rfl ?_
  refine Calls.mono (swrite_any s A c _ (SA.rd M (Zz9 _)) (by omega) (hS.mem0 M)) ?_
  clear T; rintro e wc ⟨rfl, hb⟩ ac T
  replace M := M.call hb; clear hb
  have hwu2 := wrS_len s
  refine Zg5 T (Zq (Zrm rfl (T.e 0 rfl))) rfl (Ze 0 rfl rfl rfl) rfl (Ze 1 rfl rfl rfl) rfl (Za 1 rfl rfl) rfl (Za 1 rfl rfl) rfl ?_; clear T ac; intro ac T
  replace T := T.pick [0, 1, 11, 12, 13, 14, 15, 16] rfl
  refine Zln ?_
  refine Zsr ?_
  refine Zg4 (v3 := (.pointer (some ⟨gr3_4, 0, none⟩))) T (Zq (Zrm rfl (T.e 4 rfl))) rfl (Zm 3 rfl rfl) rfl (fun _ T => Zq (Zri (size := 7) 0 rfl (T.e 1 rfl) (T.e 0 rfl) ⟨_, Tryz.underlying51, by kernel_rfl⟩ rfl (by decide) rfl)) rfl (Zr M 0 0 rfl rfl rfl rfl) rfl ?_; clear T ac; intro ac T
  refine Zl2 ?_
  refine Zoc (first := []) (cap := []) T rfl rfl rfl rfl evf (.cons (T.e 0 rfl) .nil) Tryz.func19 rfl rfl ?_
  refine Calls.mono (write8_any s A c _ (SA.rd M (Zz9 _)) (by omega) (hS.mem0 M)) ?_
  clear T; rintro e wc ⟨rfl, hb⟩ ac T
  replace M := M.call hb; clear hb
  have hwu3 := wrS_len s
  refine Zg5 T (Zq (Zrm rfl (T.e 0 rfl))) rfl (Ze 0 rfl rfl rfl) rfl (Ze 1 rfl rfl rfl) rfl (Za 1 rfl rfl) rfl (Za 1 rfl rfl) rfl ?_; clear T ac; intro ac T
  replace T := T.pick [0, 1, 10, 11, 12, 13, 14, 15, 16, 17] rfl
  refine Zln ?_
  refine wp_seq ?_
  refine Zsr ?_
  refine Zg8 (v3 := (.bool false)) (v7 := (.bool false)) T (Zq (Zrm rfl (T.e 3 rfl))) rfl (Zm 2 rfl rfl) rfl (fun _ T => Zq (Zrq (rn_sneq rfl (T.e 1 rfl) (T.e 0 rfl)) (by simp))) rfl (Zm 0 rfl rfl) rfl (fun _ T => Zw (Zwy rfl rfl (T.e 0 rfl) rfl) (Zrm rfl (T.e 6 rfl))) rfl (fun _ T => Zw (Zwy rfl rfl (T.e 1 rfl) rfl) (Zrm rfl (T.e 5 rfl))) rfl (fun _ T => Zw (Zwy rfl rfl (T.e 2 rfl) rfl) (Zrq (rn_neq rfl (T.e 1 rfl) (T.e 0 rfl)) (by simp))) rfl (fun _ T => Zq (Zr0 rfl (T.e 3 rfl) rfl (T.e 0 rfl))) rfl ?_; clear T ac; intro ac T
  replace T := T.pick [0, 1, 2, 3, 9, 12, 13, 14, 15, 16, 17] rfl
  refine Zln ?_
  refine wp_cond_false (T.e 0 rfl) ?_
  refine Zsk ?_
  refine wp_region_lit ?_
  refine Zg2 T (Zq (Zrm rfl (T.e 6 rfl))) rfl (Zm 5 rfl rfl) rfl ?_; clear T ac; intro ac T
  refine Zl2 ?_
  refine ow_bs (e := 9) [sv (wrS s)] M T rfl rfl rfl rfl (.cons (T.e 0 rfl) .nil) (fun _ => by kernel_rfl) ?_; clear M T; intro g2 wc ac M T
  refine Zl2 ?_
  refine ow_app (((g2, .cells [sv (wrS s)]) :: (gr3_4, .cells [.int .i64 s.lo, .int .i64 s.wi, .int .i64 s.a0, .int .i64 s.a1, .int .i64 s.c0, .int .i64 s.c1, .slice A s.ps.length c, .int .i64 s2.lo, .int .i64 s2.wi, .int .i64 s2.a0, .int .i64 s2.a1, .int .i64 s2.c0, .int .i64 s2.c1, .slice AKur3_3 s2.ps.length cKur3_3]) :: IKur3_3)) Tryz.info9 hsltx0 M (by first | rfl | simp) T rfl rfl rfl rfl Tryz.underlying37 rfl rfl rfl (by omega) (T.e 2 rfl) (T.e 0 rfl) (Zne (i := 0) rfl) rfl rfl ?_; clear M T; intro ga1 cga1 wc ac M T
  refine l_q (v := (.slice (some ⟨ga1, 0, none⟩) (tx0.length + 1) cga1)) (T.pick [0, 1, 2, 3, 4, 5, 6, 7, 8, 9, 11, 12, 13, 14] rfl) rfl rfl rfl rfl (Zra rfl (T.e 0 rfl)) ?_; clear T ac; intro ac T
  refine wpList_nil ?_
  replace T := T.pick [0, 6, 7, 8, 10, 11, 12, 13, 14] rfl
  replace M := M.mask [true, false, true] rfl
  refine Znb ?_
  refine nm_then ?_
  refine wp_region_lit ?_
  refine Zg2 (v2 := (.int .i64 1)) T (Zq (Zrm rfl (T.e 4 rfl))) rfl (fun _ T => Zq (rn_ofI (rn_add rfl (T.e 0 rfl) evc (by omega)) (by rfl))) rfl ?_; clear T ac; intro ac T
  refine l_q (v := (.int .i64 1)) (T.pick [0, 1, 2, 3, 4, 5, 7, 8, 9, 10] rfl) rfl rfl rfl rfl (Zra rfl (T.e 0 rfl)) ?_; clear T ac; intro ac T
  replace T := T.pick [0, 3, 4, 5, 6, 7, 8, 9, 10] rfl
  refine Zln ?_
  refine rounds_S ?_
  refine wp_seq ?_
  refine Zsr ?_
  refine Zg4 (v3 := (.int .i64 2)) (v4 := (.bool true)) T (Zq (Zrm rfl (T.e 0 rfl))) rfl (Zm 6 rfl rfl) rfl (Zl Tryz.underlying51 0 rfl rfl) rfl (fun _ T => Zq (Zrq (rn_lss rfl (T.e 2 rfl) (T.e 0 rfl)) (by simp))) rfl ?_; clear T ac; intro ac T
  replace T := T.pick [0, 4, 5, 6, 7, 8, 9, 10, 11, 12] rfl
  refine Zln ?_
  refine wp_cond_true (T.e 0 rfl) ?_
  refine Zsk ?_
  refine wp_seq ?_
  refine wp_block ?_
  refine wp_seq ?_
  have e9 : tx0.length + 1 = (tx0 ++ [(wrS s)]).length := by simp
  have e8 : ((st tx0) ++ [sv (wrS s)]) = st (tx0 ++ [(wrS s)]) := by rw [← st_snoc]
  rw [e9, e8] at M
  rw [e9] at T
  clear e9 e8
  obtain ⟨tx1, htx1⟩ : ∃ q : List (List UInt8), q = (tx0 ++ [(wrS s)]) := ⟨_, rfl⟩
  rw [← htx1] at M T
  have hlttx1 : tx1.length = 2 := by rw [htx1]; rw [List.length_append, hlttx0]; rfl
  have hsltx1 : Sl 9 1 (.slice (some ⟨ga1, 0, none⟩) tx1.length cga1) tx1.length (st tx1) [(ga1, .row 9 1 tx1.length (st tx1) cga1)] := Sl.row _ _ _ _ _ _
  replace M : Mem w noEx wc ((gr3_4, .cells [.int .i64 s.lo, .int .i64 s.wi, .int .i64 s.a0, .int .i64 s.a1, .int .i64 s.c0, .int .i64 s.c1, .slice A s.ps.length c, .int .i64 s2.lo, .int .i64 s2.wi, .int .i64 s2.a0, .int .i64 s2.a1, .int .i64 s2.c0, .int .i64 s2.c1, .slice AKur3_3 s2.ps.length cKur3_3]) :: (IKur3_3 ++ [(ga1, .row 9 1 tx1.length (st tx1) cga1)])) := M.permS (fun f => by simp only [sumF_app, sumF_cons, sumF_nil, List.cons_append, List.nil_append, List.append_nil, Nat.add_zero, Nat.zero_add] <;> omega)
  have Sy1 : Sp w noEx [(ga1, .row 9 1 tx1.length (st tx1) cga1)] (some ⟨ga1, 0, none⟩) tx1.length 1 ga1 0 (st tx1) := Sp.row (by rw [st_length2, Nat.mul_one])
  obtain ⟨Iy1, hIy1⟩ : ∃ q : List (Nat × BA), q = [(ga1, .row 9 1 tx1.length (st tx1) cga1)] := ⟨_, rfl⟩
  rw [← hIy1] at M hsltx1 Sy1
  refine wp_region_lit ?_
  refine Zg4 (v3 := (.pointer (some ⟨gr3_4, 7, none⟩))) T (Zq (Zrm rfl (T.e 6 rfl))) rfl (Zm 2 rfl rfl) rfl (fun _ T => Zq (Zri (size := 7) 1 rfl (T.e 1 rfl) (T.e 0 rfl) ⟨_, Tryz.underlying51, by kernel_rfl⟩ rfl (by decide) rfl)) rfl (Zr M 0 0 rfl rfl rfl rfl) rfl ?_; clear T ac; intro ac T
  refine Zl2 ?_
  refine Zoc (first := []) (cap := []) T rfl rfl rfl rfl evf (.cons (T.e 0 rfl) .nil) Tryz.func18 rfl rfl ?_
  refine Calls.mono (swrite_any s2 AKur3_3 cKur3_3 _ (SAKur3_3.rd M (.cons _ (subL (List.Sublist.refl _)))) (by omega) (hS.mem0 M)) ?_
  clear T; rintro e wc ⟨rfl, hb⟩ ac T
  replace M := M.call hb; clear hb
  have hwu4 := wrS_len s2
  refine Zg5 T (Zq (Zrm rfl (T.e 0 rfl))) rfl (Ze 0 rfl rfl rfl) rfl (Ze 1 rfl rfl rfl) rfl (Za 1 rfl rfl) rfl (Za 1 rfl rfl) rfl ?_; clear T ac; intro ac T
  replace T := T.pick [0, 1, 11, 12, 13, 14, 15, 16, 17, 18, 19] rfl
  refine Zln ?_
  refine Zsr ?_
  refine Zg4 (v3 := (.pointer (some ⟨gr3_4, 7, none⟩))) T (Zq (Zrm rfl (T.e 7 rfl))) rfl (Zm 3 rfl rfl) rfl (fun _ T => Zq (Zri (size := 7) 1 rfl (T.e 1 rfl) (T.e 0 rfl) ⟨_, Tryz.underlying51, by kernel_rfl⟩ rfl (by decide) rfl)) rfl (Zr M 0 0 rfl rfl rfl rfl) rfl ?_; clear T ac; intro ac T
  refine Zl2 ?_
  refine Zoc (first := []) (cap := []) T rfl rfl rfl rfl evf (.cons (T.e 0 rfl) .nil) Tryz.func19 rfl rfl ?_
  refine Calls.mono (write8_any s2 AKur3_3 cKur3_3 _ (SAKur3_3.rd M (.cons _ (subL (List.Sublist.refl _)))) (by omega) (hS.mem0 M)) ?_
  clear T; rintro e wc ⟨rfl, hb⟩ ac T
  replace M := M.call hb; clear hb
  have hwu5 := wrS_len s2
  refine Zg5 T (Zq (Zrm rfl (T.e 0 rfl))) rfl (Ze 0 rfl rfl rfl) rfl (Ze 1 rfl rfl rfl) rfl (Za 1 rfl rfl) rfl (Za 1 rfl rfl) rfl ?_; clear T ac; intro ac T
  replace T := T.pick [0, 1, 10, 11, 12, 13, 14, 15, 16, 17, 18, 19, 20] rfl
  refine Zln ?_
  refine wp_seq ?_
  refine Zsr ?_
  refine Zg4 (v3 := (.bool false)) T (Zq (Zrm rfl (T.e 3 rfl))) rfl (Zm 2 rfl rfl) rfl (fun _ T => Zq (Zrq (rn_sneq rfl (T.e 1 rfl) (T.e 0 rfl)) (by simp))) rfl (Zm 0 rfl rfl) rfl ?_; clear T ac; intro ac T
  refine l_q (v := (.int .i64 (skErr s2))) (T.pick [0, 1, 2, 3, 4, 5, 6, 7, 8, 9, 10, 11, 13, 14, 15, 16] rfl) (Zwy rfl rfl (T.e 0 rfl) rfl) rfl rfl rfl (Zrm rfl (T.e 6 rfl)) ?_; clear T ac; intro ac T
  refine l_q (v := (.int .i64 (skErr s2))) (T.pick [0, 1, 2, 3, 4, 5, 6, 7, 8, 9, 10, 11, 13, 14, 15, 16] rfl) (Zwy rfl rfl (T.e 1 rfl) rfl) rfl rfl rfl (Zrm rfl (T.e 5 rfl)) ?_; clear T ac; intro ac T
  refine l_q (v := (.bool false)) (T.pick [0, 1, 2, 3, 4, 5, 6, 7, 8, 9, 10, 11, 13, 14, 15, 16] rfl) (Zwy rfl rfl (T.e 2 rfl) rfl) rfl rfl rfl (Zrq (rn_neq rfl (T.e 1 rfl) (T.e 0 rfl)) (by simp)) ?_; clear T ac; intro ac T
  refine lq T (Zr0 rfl (T.e 3 rfl) rfl (T.e 0 rfl)) ?_; clear T ac; intro ac T
  replace T := T.pick [0, 1, 2, 3, 9, 12, 13, 14, 15, 16, 17] rfl
  refine Zln ?_
  refine wp_cond_false (T.e 0 rfl) ?_
  refine Zsk ?_
  refine wp_region_lit ?_
  refine Zg2 T (Zq (Zrm rfl (T.e 6 rfl))) rfl (Zm 5 rfl rfl) rfl ?_; clear T ac; intro ac T
  refine Zl2 ?_
  refine ow_bs (e := 9) [sv (wrS s2)] M T rfl rfl rfl rfl (.cons (T.e 0 rfl) .nil) (fun _ => by kernel_rfl) ?_; clear M T; intro g3 wc ac M T
  refine Zl2 ?_
  refine ow_app (((g3, .cells [sv (wrS s2)]) :: (gr3_4, .cells [.int .i64 s.lo, .int .i64 s.wi, .int .i64 s.a0, .int .i64 s.a1, .int .i64 s.c0, .int .i64 s.c1, .slice A s.ps.length c, .int .i64 s2.lo, .int .i64 s2.wi, .int .i64 s2.a0, .int .i64 s2.a1, .int .i64 s2.c0, .int .i64 s2.c1, .slice AKur3_3 s2.ps.length cKur3_3]) :: IKur3_3)) Tryz.info9 hsltx1 M (by first | rfl | simp) T rfl rfl rfl rfl Tryz.underlying37 rfl rfl rfl (by omega) (T.e 2 rfl) (T.e 0 rfl) (Zne (i := 0) rfl) rfl rfl ?_; clear M T; intro ga2 cga2 wc ac M T
  refine l_q (v := (.slice (some ⟨ga2, 0, none⟩) (tx1.length + 1) cga2)) (T.pick [0, 1, 2, 3, 4, 5, 6, 7, 8, 9, 11, 12, 13, 14] rfl) rfl rfl rfl rfl (Zra rfl (T.e 0 rfl)) ?_; clear T ac; intro ac T
  refine wpList_nil ?_
  replace T := T.pick [0, 6, 7, 8, 10, 11, 12, 13, 14] rfl
  replace M := M.mask [true, false, true] rfl
  refine Znb ?_
  refine nm_then ?_
  refine wp_region_lit ?_
  refine Zg2 (v2 := (.int .i64 2)) T (Zq (Zrm rfl (T.e 4 rfl))) rfl (fun _ T => Zq (rn_ofI (rn_add rfl (T.e 0 rfl) evc (by omega)) (by rfl))) rfl ?_; clear T ac; intro ac T
  refine l_q (v := (.int .i64 2)) (T.pick [0, 1, 2, 3, 4, 5, 7, 8, 9, 10] rfl) rfl rfl rfl rfl (Zra rfl (T.e 0 rfl)) ?_; clear T ac; intro ac T
  replace T := T.pick [0, 3, 4, 5, 6, 7, 8, 9, 10] rfl
  refine Zln ?_
  refine rounds_S ?_
  refine wp_seq ?_
  refine Zsr ?_
  refine Zg4 (v3 := (.int .i64 2)) (v4 := (.bool false)) T (Zq (Zrm rfl (T.e 0 rfl))) rfl (Zm 6 rfl rfl) rfl (Zl Tryz.underlying51 0 rfl rfl) rfl (fun _ T => Zq (Zrq (rn_lss rfl (T.e 2 rfl) (T.e 0 rfl)) (by simp))) rfl ?_; clear T ac; intro ac T
  replace T := T.pick [0, 4, 5, 6, 7, 8, 9, 10, 11, 12] rfl
  refine Zln ?_
  refine wp_cond_false (T.e 0 rfl) ?_
  refine wp_exit ?_
  refine Zet ?_
  refine Zet ?_
  refine ex_hit ?_
  refine Zns ?_
  have e9 : tx1.length + 1 = (tx1 ++ [(wrS s2)]).length := by simp
  have e8 : ((st tx1) ++ [sv (wrS s2)]) = st (tx1 ++ [(wrS s2)]) := by rw [← st_snoc]
  rw [e9, e8] at M
  rw [e9] at T
  clear e9 e8
  obtain ⟨tx2, htx2⟩ : ∃ q : List (List UInt8), q = (tx1 ++ [(wrS s2)]) := ⟨_, rfl⟩
  rw [← htx2] at M T
  have hlttx2 : tx2.length = 3 := by rw [htx2]; rw [List.length_append, hlttx1]; rfl
  have hsltx2 : Sl 9 1 (.slice (some ⟨ga2, 0, none⟩) tx2.length cga2) tx2.length (st tx2) [(ga2, .row 9 1 tx2.length (st tx2) cga2)] := Sl.row _ _ _ _ _ _
  replace M : Mem w noEx wc ((gr3_4, .cells [.int .i64 s.lo, .int .i64 s.wi, .int .i64 s.a0, .int .i64 s.a1, .int .i64 s.c0, .int .i64 s.c1, .slice A s.ps.length c, .int .i64 s2.lo, .int .i64 s2.wi, .int .i64 s2.a0, .int .i64 s2.a1, .int .i64 s2.c0, .int .i64 s2.c1, .slice AKur3_3 s2.ps.length cKur3_3]) :: (IKur3_3 ++ [(ga2, .row 9 1 tx2.length (st tx2) cga2)])) := M.permS (fun f => by simp only [sumF_app, sumF_cons, sumF_nil, List.cons_append, List.nil_append, List.append_nil, Nat.add_zero, Nat.zero_add] <;> omega)
  have Sy2 : Sp w noEx [(ga2, .row 9 1 tx2.length (st tx2) cga2)] (some ⟨ga2, 0, none⟩) tx2.length 1 ga2 0 (st tx2) := Sp.row (by rw [st_length2, Nat.mul_one])
  obtain ⟨Iy2, hIy2⟩ : ∃ q : List (Nat × BA), q = [(ga2, .row 9 1 tx2.length (st tx2) cga2)] := ⟨_, rfl⟩
  rw [← hIy2] at M hsltx2 Sy2
  have hz2 : tx2[2]? = some ((wrS s2)) := by rw [htx2, List.getElem?_append_right (by omega), hlttx1]; rfl
  refine wp_region_lit ?_
  refine Zg7 T (Zq (Zrm rfl (T.e 2 rfl))) rfl (Zm 3 rfl rfl) rfl (fun _ T => Zq (Zri (size := 1) 2 rfl (T.e 0 rfl) evc ⟨_, Tryz.underlying37, by kernel_rfl⟩ rfl (by omega) (Sy2.at0 (by omega)))) rfl (fun _ T => Zq (rn_cell (Sp.stC0 Sy2 M (.cons _ (Zsq _ _)) hz2) rfl (T.e 0 rfl))) rfl (Zm 11 rfl rfl) rfl (Zm 13 rfl rfl) rfl (Zm 15 rfl rfl) rfl ?_; clear T ac; intro ac T
  refine Zl2 ?_
  refine Zoc (first := []) (cap := []) T rfl rfl rfl rfl evf (.cons (T.e 3 rfl) (.cons (T.e 2 rfl) (.cons (T.e 1 rfl) (.cons (T.e 0 rfl) .nil)))) Tryz.func12 rfl rfl ?_
  refine Calls.mono (harmed_any (wrS s2) x y bb _ (by omega)) ?_
  clear T; rintro e wc ⟨h9, hh9, rfl, hb⟩ ac T
  replace M := M.call hb; clear hb
  refine Zl2 ?_
  refine ow_bs (e := 9) [sv h9] M T rfl rfl rfl rfl (.cons (T.e 0 rfl) .nil) (fun _ => by kernel_rfl) ?_; clear M T; intro g4 wc ac M T
  refine Zl2 ?_
  refine ow_app (((g4, .cells [sv h9]) :: (gr3_4, .cells [.int .i64 s.lo, .int .i64 s.wi, .int .i64 s.a0, .int .i64 s.a1, .int .i64 s.c0, .int .i64 s.c1, .slice A s.ps.length c, .int .i64 s2.lo, .int .i64 s2.wi, .int .i64 s2.a0, .int .i64 s2.a1, .int .i64 s2.c0, .int .i64 s2.c1, .slice AKur3_3 s2.ps.length cKur3_3]) :: IKur3_3)) Tryz.info9 hsltx2 M (by first | rfl | simp) T rfl rfl rfl rfl Tryz.underlying37 rfl rfl rfl (by omega) (T.e 8 rfl) (T.e 0 rfl) (Zne (i := 0) rfl) rfl rfl ?_; clear M T; intro ga3 cga3 wc ac M T
  refine l_q (v := (.slice (some ⟨ga3, 0, none⟩) (tx2.length + 1) cga3)) (T.pick [0, 1, 2, 3, 4, 5, 6, 7, 8, 9, 10, 11, 13, 14, 15, 16, 17, 18, 19] rfl) rfl rfl rfl rfl (Zra rfl (T.e 0 rfl)) ?_; clear T ac; intro ac T
  refine wpList_nil ?_
  replace T := T.pick [0] rfl
  replace M := M.mask [true, false, false] rfl
  refine Zns ?_
  refine Zsr ?_
  refine lq T (Zra rfl evc) ?_; clear T ac; intro ac T
  refine Zln ?_
  refine wp_block ?_
  have e9 : tx2.length + 1 = (tx2 ++ [h9]).length := by simp
  have e8 : ((st tx2) ++ [sv h9]) = st (tx2 ++ [h9]) := by rw [← st_snoc]
  rw [e9, e8] at M
  rw [e9] at T
  clear e9 e8
  obtain ⟨tx3, htx3⟩ : ∃ q : List (List UInt8), q = (tx2 ++ [h9]) := ⟨_, rfl⟩
  rw [← htx3] at M T
  have hlttx3 : tx3.length = 4 := by rw [htx3]; rw [List.length_append, hlttx2]; rfl
  have hsltx3 : Sl 9 1 (.slice (some ⟨ga3, 0, none⟩) tx3.length cga3) tx3.length (st tx3) [(ga3, .row 9 1 tx3.length (st tx3) cga3)] := Sl.row _ _ _ _ _ _
  replace M : Mem w noEx wc ((IKur3_3 ++ [(ga3, .row 9 1 tx3.length (st tx3) cga3)])) := M.permS (fun f => by simp only [sumF_app, sumF_cons, sumF_nil, List.cons_append, List.nil_append, List.append_nil, Nat.add_zero, Nat.zero_add] <;> omega)
  have Sy3 : Sp w noEx [(ga3, .row 9 1 tx3.length (st tx3) cga3)] (some ⟨ga3, 0, none⟩) tx3.length 1 ga3 0 (st tx3) := Sp.row (by rw [st_length2, Nat.mul_one])
  obtain ⟨Iy3, hIy3⟩ : ∃ q : List (Nat × BA), q = [(ga3, .row 9 1 tx3.length (st tx3) cga3)] := ⟨_, rfl⟩
  rw [← hIy3] at M hsltx3 Sy3
  refine wp_loop_n (fun mz ac wc => ∃ (q : Nat), mz = tx3.length - q ∧ (q ≤ tx3.length) ∧ Tm ac 132 [(14, .slice (some ⟨ga3, 0, none⟩) tx3.length cga3), (20, .int .i64 (q : Int))] ∧ Mem w noEx wc ((IKur3_3 ++ Iy3))) ?_ ?_
  ·exact ⟨_, 0, rfl, (Nat.zero_le _), T.pick [1, 0] rfl, M.mask [] rfl⟩
  clear T M
  rintro mz ac wc ⟨q, hmm2, hq, T, M⟩
  refine wp_seq ?_
  refine Zsr ?_
  refine Zg4 T (Zq (Zrm rfl (T.e 1 rfl))) rfl (Zm 1 rfl rfl) rfl (Zl Tryz.underlying37 0 rfl rfl) rfl (fun _ T => Zq (rn_lss rfl (T.e 2 rfl) (T.e 0 rfl))) rfl ?_; clear T ac; intro ac T
  replace T := T.pick [0, 4, 5] rfl
  refine Zln ?_
  refine wp_if (T.e 0 rfl) ?_ ?_
  ·intro h4
   obtain ⟨t9, hks⟩ : ∃ x, tx3[q]? = some x := ⟨_, List.getElem?_eq_getElem (by omega)⟩
   obtain ⟨jr, lr, er, hr9⟩ : ∃ j l e, readT t9 = (j, l, e) := ⟨_, _, _, rfl⟩
   have hjr5 : jr.ps.length ≤ 5 := by have h8 := readT_sh t9; rw [hr9] at h8; exact h8
   refine Zsk ?_
   refine wp_seq ?_
   refine wp_block ?_
   refine Zsr ?_
   refine Zg4 T (Zq (Zrm rfl (T.e 1 rfl))) rfl (Zm 3 rfl rfl) rfl (fun _ T => Zq (Zri (size := 1) q rfl (T.e 1 rfl) (T.e 0 rfl) ⟨_, Tryz.underlying37, by kernel_rfl⟩ rfl (by omega) (Sy3.at0 (by omega)))) rfl (fun _ T => Zq (rn_cell (Sp.stC0 Sy3 M (Zsq _ _) hks) rfl (T.e 0 rfl))) rfl ?_; clear T ac; intro ac T
   refine Zl2 ?_
   refine Zoc (first := []) (cap := []) T rfl rfl rfl rfl evf (.cons (T.e 0 rfl) .nil) Tryz.func20 rfl rfl ?_
   refine Calls.mono (readZ_any hr9 _ (hS.mem0 M) (hA.mem0 M)) ?_
   clear T; rintro e wc ⟨Au7, cu7, Iau7, rfl, hsAu7, N⟩ ac T
   obtain ⟨bAu7, oAu7, SVAu7⟩ := Sl.spW hsAu7 (pc_length _)
   have SAu7 := SVAu7 w noEx
   replace M := M.join N
   clear N
   replace M : Mem w noEx wc ((Iau7 ++ IKur3_3 ++ Iy3)) := (Mem.permS (L' := ((Iau7 ++ IKur3_3 ++ Iy3))) M (fun f => by simp only [sumF_app, sumF_cons, sumF_nil, List.cons_append, List.nil_append, List.append_nil, Nat.add_zero, Nat.zero_add] <;> omega))
   refine Zg4 T (Zq (Zrm rfl (T.e 0 rfl))) rfl (Ze 0 rfl rfl rfl) rfl (Ze 1 rfl rfl rfl) rfl (Ze 2 rfl rfl rfl) rfl ?_; clear T ac; intro ac T
   refine Zl2 ?_
   refine Zoa M T rfl rfl rfl rfl ?_; clear M T; intro g5 wc ac M T
   refine Zl2 ?_
   refine Zos M T rfl rfl (T.e 0 rfl) (T.e 3 rfl) rfl .head rfl (by simp) rfl (by kernel_rfl) ?_; clear M T; intro wc ac M T
   refine Zg2 T (Zq (Zra rfl (T.e 2 rfl))) rfl (Za 2 rfl rfl) rfl ?_; clear T ac; intro ac T
   replace T := T.pick [0, 1, 2, 13, 14] rfl
   refine Zln ?_
   refine Zsr ?_
   refine Zg4 T (Zq (Zrm rfl (T.e 3 rfl))) rfl (Zm 5 rfl rfl) rfl (fun _ T => Zq (Zri (size := 1) q rfl (T.e 1 rfl) (T.e 0 rfl) ⟨_, Tryz.underlying37, by kernel_rfl⟩ rfl (by omega) (Sy3.at0 (by omega)))) rfl (fun _ T => Zq (rn_cell (Sp.stC0 Sy3 M (.cons _ (Zsq _ _)) hks) rfl (T.e 0 rfl))) rfl ?_; clear T ac; intro ac T
   refine Zl2 ?_
   refine Zoc (first := []) (cap := []) T rfl rfl rfl rfl evf (.cons (T.e 0 rfl) .nil) Tryz.func21 rfl rfl ?_
   refine Calls.mono (rreadZ_any hr9 _ (hS.mem0 M)) ?_
   clear T; rintro e wc ⟨Au8, cu8, Iau8, rfl, hsAu8, N⟩ ac T
   obtain ⟨bAu8, oAu8, SVAu8⟩ := Sl.spW hsAu8 (pc_length _)
   have SAu8 := SVAu8 w noEx
   replace M := M.join N
   clear N
   replace M : Mem w noEx wc ((g5, .cells [.int .i64 jr.lo, .int .i64 jr.wi, .int .i64 jr.a0, .int .i64 jr.a1, .int .i64 jr.c0, .int .i64 jr.c1, .slice Au7 jr.ps.length cu7]) :: (Iau8 ++ Iau7 ++ IKur3_3 ++ Iy3)) := (Mem.permS (L' := ((g5, .cells [.int .i64 jr.lo, .int .i64 jr.wi, .int .i64 jr.a0, .int .i64 jr.a1, .int .i64 jr.c0, .int .i64 jr.c1, .slice Au7 jr.ps.length cu7]) :: (Iau8 ++ Iau7 ++ IKur3_3 ++ Iy3))) M (fun f => by simp only [sumF_app, sumF_cons, sumF_nil, List.cons_append, List.nil_append, List.append_nil, Nat.add_zero, Nat.zero_add] <;> omega))
   refine Zg4 T (Zq (Zrm rfl (T.e 0 rfl))) rfl (Ze 0 rfl rfl rfl) rfl (Ze 1 rfl rfl rfl) rfl (Ze 2 rfl rfl rfl) rfl ?_; clear T ac; intro ac T
   refine Zl2 ?_
   refine Zoa M T rfl rfl rfl rfl ?_; clear M T; intro g6 wc ac M T
   refine Zl2 ?_
   refine Zos M T rfl rfl (T.e 0 rfl) (T.e 3 rfl) rfl .head rfl (by simp) rfl (by kernel_rfl) ?_; clear M T; intro wc ac M T
   refine Zg2 T (Zq (Zra rfl (T.e 2 rfl))) rfl (Za 2 rfl rfl) rfl ?_; clear T ac; intro ac T
   replace T := T.pick [0, 1, 2, 12, 13, 14, 15, 16] rfl
   refine Zln ?_
   refine Zsr ?_
   refine Zg8 (v3 := (.bool false)) (v7 := (.bool false)) T (Zq (Zrm rfl (T.e 4 rfl))) rfl (Zm 2 rfl rfl) rfl (fun _ T => Zq (Zrq (rn_neq rfl (T.e 1 rfl) (T.e 0 rfl)) (by simp))) rfl (Zm 0 rfl rfl) rfl (fun _ T => Zw (Zwy rfl rfl (T.e 0 rfl) rfl) (Zrm rfl (T.e 7 rfl))) rfl (fun _ T => Zw (Zwy rfl rfl (T.e 1 rfl) rfl) (Zrm rfl (T.e 5 rfl))) rfl (fun _ T => Zw (Zwy rfl rfl (T.e 2 rfl) rfl) (Zrq (rn_neq rfl (T.e 1 rfl) (T.e 0 rfl)) (by simp))) rfl (fun _ T => Zq (Zr0 rfl (T.e 3 rfl) rfl (T.e 0 rfl))) rfl ?_; clear T ac; intro ac T
   refine Zg3 T (Zq (Zrm rfl (T.e 0 rfl))) rfl (fun _ T => Zw (Zwy rfl rfl (T.e 0 rfl) rfl) (Zrr (Mem.nth M 1 rfl) rfl (T.e 14 rfl) rfl)) rfl (fun _ T => Zw (Zwy rfl rfl (T.e 1 rfl) rfl) (Zrr (Mem.nth M 0 rfl) rfl (T.e 12 rfl) rfl)) rfl ?_; clear T ac; intro ac T
   refine l_w (Zwy rfl rfl (T.e 2 rfl) rfl) ?_; intro K hK
   refine Zoc (first := []) (cap := []) T rfl rfl rfl rfl evf (.cons (T.e 1 rfl) (.cons (T.e 0 rfl) .nil)) Tryz.func22 rfl rfl ?_
   refine Calls.mono (sameSheets_any jr Au7 cu7 jr Au8 cu8 _ (SAu7.rd M (.cons _ (.cons _ (subL (subL (Zsq _ _)))))) (SAu8.rd M (.cons _ (.cons _ (subL (subL (subL (List.Sublist.refl _))))))) (by omega) (by omega)) ?_
   clear T; rintro e wc ⟨rfl, hb⟩ ac T
   replace M := M.call hb; clear hb
   rw [Zdt (@rfl Sk jr)] at T
   refine Zso hK _ _ ?_; clear hK K
   refine Zg2 (v1 := (.bool false)) T (Zw (Zwy rfl rfl (T.e 3 rfl) rfl) (Zrq (rn_not rfl (T.e 0 rfl)) (by simp))) rfl (fun _ T => Zq (Zr0 rfl (T.e 4 rfl) rfl (T.e 0 rfl))) rfl ?_; clear T ac; intro ac T
   refine wpList_nil ?_
   replace T := T.pick [0, 1, 2, 3, 4, 7, 8, 9, 20, 21] rfl
   replace M := M.mask [false, false] rfl
   replace M : Mem w noEx wc ((Iau8 ++ Iau7 ++ IKur3_3 ++ Iy3)) := M
   refine nm_then ?_
   refine wp_cond_false (T.e 0 rfl) ?_
   refine wp_skip ?_
   refine Znb ?_
   refine nm_then ?_
   refine wp_region_lit ?_
   refine Zg2 T (Zq (Zrm rfl (T.e 9 rfl))) rfl (fun _ T => Zq (rn_add rfl (T.e 0 rfl) evc (by omega))) rfl ?_; clear T ac; intro ac T
   refine l_q (v := (.int .i64 ((q : Int) + 1))) (T.pick [0, 1, 2, 3, 4, 5, 6, 7, 8, 9, 10] rfl) rfl rfl rfl rfl (Zra rfl (T.e 0 rfl)) ?_; clear T ac; intro ac T
   replace T := T.pick [0, 4, 5, 6, 7, 8, 9, 10, 11] rfl
   refine Zln ?_
   exact ⟨_, by omega, q + 1, rfl, (by omega), T.pick [8, 0] rfl, (Mem.subS ((Iau8 ++ Iau7)) M (fun f => by simp only [sumF_app, sumF_cons, sumF_nil, List.cons_append, List.nil_append, List.append_nil, Nat.add_zero, Nat.zero_add] <;> omega))⟩
  intro h4
  refine wp_exit ?_
  refine Zet ?_
  refine Zet ?_
  refine ex_hit ?_
  refine nm_then ?_
  refine Zsr ?_
  refine Zl2 ?_
  refine Zoc (first := []) (cap := []) T rfl rfl rfl rfl evf .nil Tryz.func16 rfl rfl ?_
  refine Calls.mono (sawn8_any _ (hT.mem M (fun h => h))) ?_
  clear T; rintro e wc ⟨rfl, hb⟩ ac T
  replace M := M.call hb; clear hb
  refine lq T (Zra rfl (T.e 0 rfl)) ?_; clear T ac; intro ac T
  replace T := T.pick [0] rfl
  refine Zln ?_
  refine wp_ret ?_
  refine rt_1 T rfl (T.e 0 rfl) ?_
  exact ⟨rfl, M.below⟩
 intro H2
 refine g_have (fun ac wc => ∃ (sur3_2 : Int), ∃ (s2 : Sk), ∃ (AKur3_3 : Option Addr), ∃ (cKur3_3 : Nat), ∃ (sdur3_3 : Int), ∃ (IKur3_3 : List (Nat × BA)), ∃ (bAKur3_3 : Nat), ∃ (oAKur3_3 : Nat), (u64ok sur3_2) ∧ (u64ok sdur3_3) ∧ (Sp w noEx IKur3_3 AKur3_3 s2.ps.length 4 bAKur3_3 oAKur3_3 (pc s2.ps)) ∧ s2.good ∧ (s2.ps.length ≤ 5) ∧ ∃ (gr3_6 bpur3_2 : Nat), Tm ac 132 [(48, .slice (some ⟨gr3_6, 0, none⟩) 1 1), (45, .agg #[.int .i64 s2.lo, .int .i64 s2.wi, .int .i64 s2.a0, .int .i64 s2.a1, .int .i64 s2.c0, .int .i64 s2.c1, .slice AKur3_3 s2.ps.length cKur3_3]), (44, .pointer (some ⟨bpur3_2, 0, none⟩)), (47, sv text), (43, .slice D n e), (42, .agg #[.int .i64 s.lo, .int .i64 s.wi, .int .i64 s.a0, .int .i64 s.a1, .int .i64 s.c0, .int .i64 s.c1, .slice A s.ps.length c]), (1, sv text), (2, .slice D n e), (3, .int .i64 x), (4, .int .i64 y), (5, .int .u8 ((bb.toNat : Nat) : Int)), (6, .pointer (some ⟨g1, 0, none⟩)), (40, .bool ((decide (20 < ((s.ps.length : Nat) : Int))) || ((decide (250 < ((text.length : Nat) : Int))) && (decide (((text.length : Nat) : Int) ≤ 300)))))] ∧ Mem w noEx wc ((gr3_6, .row 9 1 1 [sv text] 1) :: (bpur3_2, .cells [.int .u64 sdur3_3]) :: (g1, .cells [.int .i64 s.lo, .int .i64 s.wi, .int .i64 s.a0, .int .i64 s.a1, .int .i64 s.c0, .int .i64 s.c1, .slice A s.ps.length c]) :: IKur3_3)) (Zpb 9 111) 3 ?_ ?_
 ·clear T M
  rintro ac wc ⟨sur3_2, s2, AKur3_3, cKur3_3, sdur3_3, IKur3_3, bAKur3_3, oAKur3_3, hsur3_2, hsur3_3, SAKur3_3, hsgs2, hlns2, gr3_6, bpur3_2, T, M⟩
  refine gw 4 127 ?_; intro K hK
  refine ow_bs (e := 49) [.int .i64 s.lo, .int .i64 s.wi, .int .i64 s.a0, .int .i64 s.a1, .int .i64 s.c0, .int .i64 s.c1, .slice A s.ps.length c, .int .i64 s2.lo, .int .i64 s2.wi, .int .i64 s2.a0, .int .i64 s2.a1, .int .i64 s2.c0, .int .i64 s2.c1, .slice AKur3_3 s2.ps.length cKur3_3] M T rfl rfl rfl rfl (.cons (T.e 5 rfl) (.cons (T.e 1 rfl) .nil)) (fun _ => by kernel_rfl) ?_; clear M T; intro gr3_4 wc ac M T
  refine Zso hK _ _ (M.perm [3] rfl rfl) ?_; clear hK K
  refine gq T 7 255 rfl (fun _ _ _ _ _ => (Zra rfl (T.e 0 rfl))) ?_; clear T ac; intro ac T
  exact H2 _ _ ⟨sur3_2, s2, AKur3_3, cKur3_3, sdur3_3, IKur3_3, bAKur3_3, oAKur3_3, hsur3_2, hsur3_3, SAKur3_3, hsgs2, hlns2, gr3_6, gr3_4, bpur3_2, T.pick [2, 0, 1, 3, 4, 5, 6, 7, 8, 9, 10, 11, 12, 13, 14] rfl, M.permT [1, 0, 2, 3] 4 rfl rfl rfl rfl⟩
 intro H1
 refine g_have (fun ac wc => ∃ (sur3_2 : Int), (u64ok sur3_2) ∧ ∃ (gr3_6 bpur3_2 : Nat), Tm ac 132 [(48, .slice (some ⟨gr3_6, 0, none⟩) 1 1), (44, .pointer (some ⟨bpur3_2, 0, none⟩)), (47, sv text), (43, .slice D n e), (42, .agg #[.int .i64 s.lo, .int .i64 s.wi, .int .i64 s.a0, .int .i64 s.a1, .int .i64 s.c0, .int .i64 s.c1, .slice A s.ps.length c]), (1, sv text), (2, .slice D n e), (3, .int .i64 x), (4, .int .i64 y), (5, .int .u8 ((bb.toNat : Nat) : Int)), (6, .pointer (some ⟨g1, 0, none⟩)), (40, .bool ((decide (20 < ((s.ps.length : Nat) : Int))) || ((decide (250 < ((text.length : Nat) : Int))) && (decide (((text.length : Nat) : Int) ≤ 300)))))] ∧ Mem w noEx wc [(gr3_6, .row 9 1 1 [sv text] 1), (bpur3_2, .cells [.int .u64 sur3_2]), (g1, .cells [.int .i64 s.lo, .int .i64 s.wi, .int .i64 s.a0, .int .i64 s.a1, .int .i64 s.c0, .int .i64 s.c1, .slice A s.ps.length c])]) (Zpb 9 103) 4 ?_ ?_
 ·clear T M
  rintro ac wc ⟨sur3_2, hsur3_2, gr3_6, bpur3_2, T, M⟩
  refine gw 3 111 ?_; intro K hK
  refine Zoc (first := []) (cap := []) T rfl rfl rfl rfl evf (.cons (T.e 1 rfl) (.cons evc (.cons evc .nil))) Tryz.func17 rfl rfl ?_
  refine Calls.mono (sheetOf_any _ bpur3_2 12 5 _ (by omega) (by omega) (M.nth 1 rfl) hsur3_2) ?_
  clear T; rintro e wc ⟨s2, AKur3_3, cKur3_3, sdur3_3, IKur3_3, rfl, hsgs2, ⟨⟨hbls2, hbws2⟩, hbps2⟩, hsur3_3, hcpKur3_3, SVKur3_3, N⟩ ac T
  obtain ⟨bAKur3_3, oAKur3_3, SVKur3_3⟩ := SVKur3_3
  have SAKur3_3 := SVKur3_3 w noEx
  replace M := M.joinEI N (.tail .head)
  clear N
  replace M : Mem w noEx wc ((gr3_6, .row 9 1 1 [sv text] 1) :: (bpur3_2, .cells [.int .u64 sdur3_3]) :: (g1, .cells [.int .i64 s.lo, .int .i64 s.wi, .int .i64 s.a0, .int .i64 s.a1, .int .i64 s.c0, .int .i64 s.c1, .slice A s.ps.length c]) :: IKur3_3) := M
  have hlns2 := hsgs2.len
  obtain ⟨hg1s2, hg2s2, hg3s2, hg4s2, -, -⟩ := id hsgs2
  refine Zso hK _ _ (M.perm [2] rfl rfl) ?_; clear hK K
  exact H1 _ _ ⟨sur3_2, s2, AKur3_3, cKur3_3, sdur3_3, IKur3_3, bAKur3_3, oAKur3_3, hsur3_2, hsur3_3, SAKur3_3, hsgs2, hlns2, gr3_6, bpur3_2, T.pick [1, 0, 2, 3, 4, 5, 6, 7, 8, 9, 10, 11, 12] rfl, M⟩
 intro H0
 refine gq T 0 1 rfl (fun B w' hD hl hS => (Zrr (Mem.nth (show Mem w noEx w' _ from hS) 0 rfl) rfl (T.e 5 rfl) rfl)) ?_; clear T ac; intro ac T
 refine gq T 1 3 rfl (fun _ _ _ _ _ => (Zrm rfl (T.e 2 rfl))) ?_; clear T ac; intro ac T
 refine gq T 5 35 rfl (fun _ _ _ _ _ => (Zrm rfl (T.e 2 rfl))) ?_; clear T ac; intro ac T
 refine g_m2 (i := 2) (j := 6) (by kernel_rfl) ?_ ?_
 ·refine gi 39 ?_; intro K hK
  refine Zoc (first := []) (cap := []) T rfl rfl rfl rfl evf (.cons (T.e 1 rfl) .nil) Tryz.func9 rfl rfl ?_
  refine Calls.mono (newPot_any _ _ _ l _ (SI.rd M (Zz9 _)) (by omega)) ?_
  clear T; rintro e wc ⟨bpur3_2, sur3_2, hsur3_2, rfl, N⟩ ac T
  replace M := M.join N; clear N
  replace M := M.mask [true, true] rfl
  refine Zso hK _ _ (M.mask [false, true] rfl) ?_; clear hK K
  refine g_m2 (i := 3) (j := 6) (by kernel_rfl) ?_ ?_
  ·refine gi 47 ?_; intro K hK
   refine Zoc (first := []) (cap := []) T rfl rfl rfl rfl evf (.cons (T.e 0 rfl) (.cons evc (.cons evc .nil))) Tryz.func17 rfl rfl ?_
   refine Calls.mono (sheetOf_any _ bpur3_2 12 5 _ (by omega) (by omega) (M.nth 0 rfl) hsur3_2) ?_
   clear T; rintro e wc ⟨s2, AKur3_3, cKur3_3, sdur3_3, IKur3_3, rfl, hsgs2, ⟨⟨hbls2, hbws2⟩, hbps2⟩, hsur3_3, hcpKur3_3, SVKur3_3, N⟩ ac T
   obtain ⟨bAKur3_3, oAKur3_3, SVKur3_3⟩ := SVKur3_3
   have SAKur3_3 := SVKur3_3 w noEx
   replace M := M.joinEI N .head
   clear N
   replace M : Mem w noEx wc ((bpur3_2, .cells [.int .u64 sdur3_3]) :: (g1, .cells [.int .i64 s.lo, .int .i64 s.wi, .int .i64 s.a0, .int .i64 s.a1, .int .i64 s.c0, .int .i64 s.c1, .slice A s.ps.length c]) :: IKur3_3) := M
   have hlns2 := hsgs2.len
   obtain ⟨hg1s2, hg2s2, hg3s2, hg4s2, -, -⟩ := id hsgs2
   refine Zso hK _ _ (M.perm [1] rfl rfl) ?_; clear hK K
   refine g_m2 (i := 4) (j := 6) (by kernel_rfl) ?_ ?_
   ·refine gi 63 ?_; intro K hK
    refine ow_bs (e := 49) [.int .i64 s.lo, .int .i64 s.wi, .int .i64 s.a0, .int .i64 s.a1, .int .i64 s.c0, .int .i64 s.c1, .slice A s.ps.length c, .int .i64 s2.lo, .int .i64 s2.wi, .int .i64 s2.a0, .int .i64 s2.a1, .int .i64 s2.c0, .int .i64 s2.c1, .slice AKur3_3 s2.ps.length cKur3_3] M T rfl rfl rfl rfl (.cons (T.e 4 rfl) (.cons (T.e 0 rfl) .nil)) (fun _ => by kernel_rfl) ?_; clear M T; intro gr3_4 wc ac M T
    refine Zso hK _ _ (M.perm [2] rfl rfl) ?_; clear hK K
    refine gq T 7 191 rfl (fun _ _ _ _ _ => (Zra rfl (T.e 0 rfl))) ?_; clear T ac; intro ac T
    refine gw 6 255 ?_; intro K hK
    refine ow_bsR (e := 9) (size := 1) [sv text] M T rfl rfl rfl rfl (.cons (T.e 4 rfl) .nil) (fun _ => by kernel_rfl) rfl rfl rfl ?_; clear M T; intro gr3_6 wc ac M T
    refine Zso hK _ _ (M.perm [3] rfl rfl) ?_; clear hK K
    exact H2 _ _ ⟨sur3_2, s2, AKur3_3, cKur3_3, sdur3_3, IKur3_3, bAKur3_3, oAKur3_3, hsur3_2, hsur3_3, SAKur3_3, hsgs2, hlns2, gr3_6, gr3_4, bpur3_2, T, M⟩
   refine gi 111 ?_; intro K hK
   refine ow_bsR (e := 9) (size := 1) [sv text] M T rfl rfl rfl rfl (.cons (T.e 2 rfl) .nil) (fun _ => by kernel_rfl) rfl rfl rfl ?_; clear M T; intro gr3_6 wc ac M T
   refine Zso hK _ _ (M.perm [2] rfl rfl) ?_; clear hK K
   exact H1 _ _ ⟨sur3_2, s2, AKur3_3, cKur3_3, sdur3_3, IKur3_3, bAKur3_3, oAKur3_3, hsur3_2, hsur3_3, SAKur3_3, hsgs2, hlns2, gr3_6, bpur3_2, T, M⟩
  refine gi 103 ?_; intro K hK
  refine ow_bsR (e := 9) (size := 1) [sv text] M T rfl rfl rfl rfl (.cons (T.e 1 rfl) .nil) (fun _ => by kernel_rfl) rfl rfl rfl ?_; clear M T; intro gr3_6 wc ac M T
  refine Zso hK _ _ (M.mask [false, false, true] rfl) ?_; clear hK K
  exact H0 _ _ ⟨sur3_2, hsur3_2, gr3_6, bpur3_2, T, M⟩
 refine gi 99 ?_; intro K hK
 refine ow_bsR (e := 9) (size := 1) [sv text] M T rfl rfl rfl rfl (.cons (T.e 0 rfl) .nil) (fun _ => by kernel_rfl) rfl rfl rfl ?_; clear M T; intro gr3_6 wc ac M T
 refine Zso hK _ _ (M.mask [false, true] rfl) ?_; clear hK K
 refine gw 2 103 ?_; intro K hK
 refine Zoc (first := []) (cap := []) T rfl rfl rfl rfl evf (.cons (T.e 2 rfl) .nil) Tryz.func9 rfl rfl ?_
 refine Calls.mono (newPot_any _ _ _ l _ (SI.rd M (Zz9 _)) (by omega)) ?_
 clear T; rintro e wc ⟨bpur3_2, sur3_2, hsur3_2, rfl, N⟩ ac T
 replace M := M.join N; clear N
 replace M := M.mask [true, true, true] rfl
 refine Zso hK _ _ (M.mask [false, false, true] rfl) ?_; clear hK K
 exact H0 _ _ ⟨sur3_2, hsur3_2, gr3_6, bpur3_2, T.pick [1, 0, 2, 3, 4, 5, 6, 7, 8, 9, 10, 11] rfl, M.perm [1, 0, 2] rfl rfl⟩
end Go.Proofs.YtaikhendogcflaaGreatDoor


/-
  Walks of functions, and plain laws (texts put together). No condition.
-/
import Derived.Shelf.Strings.OnBuilder
import Derived.Shelf.LaysM
import Derived.Shelf.Strconv.Itoa3
import Derived.Test.YtaikhendogcflaaDoorProg
import Derived.Lib.Split
import Derived.Lib.Atoi
import Derived.Lib.AtoiAll
import Derived.Lib.ItoaMem
import Derived.LaidMore
import Derived.Stop.Joined
import Derived.Stop.LaidErr
import Derived.Lib.LaidTab
import Derived.Shelf.Vars
import Derived.HandedShaped
import Derived.Lay
import Derived.Test.YtaikhendogcflaaDoorRows
import Derived.Lib.Join
import Derived.Test.YtaikhendogcflaaDoorMSheetKnown1
import Derived.Test.YtaikhendogcflaaDoorMSheetKnown2
import Derived.Test.YtaikhendogcflaaDoorMSheetKnown3
import Derived.Test.YtaikhendogcflaaDoorMSheetKnown4
set_option maxRecDepth 100000
set_option maxHeartbeats 1000000
set_option linter.unusedSimpArgs false
set_option linter.unusedVariables false
namespace Go.Proofs.YtaikhendogcflaaDoor
open Go.RowKit
section
open Go.Shelf
def Tryd.lays156_ren : Go.Shelf.Ren := ⟨fun | 156 => 61 | 165 => 90 | 166 => 91 | 169 => 92 | 240 => 110 | 241 => 111 | 276 => 124 | 277 => 125 | n => n, fun | 31 => 134 | 9 => 9 | 3 => 3 | 4 => 4 | 0 => 0 | 20 => 20 | 72 => 186 | 76 => 188 | 70 => 183 | 37 => 184 | 75 => 169 | 127 => 211 | 164 => 191 | 5 => 5 | 80 => 190 | n => n, fun | n => n⟩
theorem Tryd.lays156 : Go.Proofs.Lays.n156 Tryd.prog Tryd.lays156_ren := {
 mixed := by kernel_rfl
 f156 := Tryd.func61.trans (congrArg some (by kernel_rfl))
 f165 := Tryd.func90.trans (congrArg some (by kernel_rfl))
 f166 := Tryd.func91.trans (congrArg some (by kernel_rfl))
 f169 := Tryd.func92.trans (congrArg some (by kernel_rfl))
 f240 := Tryd.func110.trans (congrArg some (by kernel_rfl))
 f241 := Tryd.func111.trans (congrArg some (by kernel_rfl))
 f276 := Tryd.func124.trans (congrArg some (by kernel_rfl))
 f277 := Tryd.func125.trans (congrArg some (by kernel_rfl))
 t0 := Tryd.underlying0
 a0 := Tryd.isAgg0
 z0 := Tryd.sizeOf0
 v0 := Tryd.zeroValue0
 t3 := Tryd.underlying3
 a3 := Tryd.isAgg3
 z3 := Tryd.sizeOf3
 v3 := Tryd.zeroValue3
 t4 := Tryd.underlying4
 a4 := Tryd.isAgg4
 z4 := Tryd.sizeOf4
 v4 := Tryd.zeroValue4
 t9 := Tryd.underlying9
 a9 := Tryd.isAgg9
 z9 := Tryd.sizeOf9
 v9 := Tryd.zeroValue9
 t20 := Tryd.underlying20
 a20 := Tryd.isAgg20
 z20 := Tryd.sizeOf20
 v20 := Tryd.zeroValue20
 t31 := Tryd.underlying134
 a31 := Tryd.isAgg134
 z31 := Tryd.sizeOf134
 v31 := Tryd.zeroValue134
 t37 := Tryd.underlying184
 a37 := Tryd.isAgg184
 z37 := Tryd.sizeOf184
 v37 := Tryd.zeroValue184
 t70 := Tryd.underlying183
 a70 := Tryd.isAgg183
 z70 := Tryd.sizeOf183
 v70 := Tryd.zeroValue183
 t72 := Tryd.underlying186
 a72 := Tryd.isAgg186
 z72 := Tryd.sizeOf186
 v72 := Tryd.zeroValue186
 t75 := Tryd.underlying169
 a75 := Tryd.isAgg169
 z75 := Tryd.sizeOf169
 v75 := Tryd.zeroValue169
 t76 := Tryd.underlying188
 a76 := Tryd.isAgg188
 z76 := Tryd.sizeOf188
 v76 := Tryd.zeroValue188
 t127 := Tryd.underlying211
 a127 := Tryd.isAgg211
 z127 := Tryd.sizeOf211
 v127 := Tryd.zeroValue211
 t164 := Tryd.underlying191
 a164 := Tryd.isAgg191
 z164 := Tryd.sizeOf191
 v164 := Tryd.zeroValue191 }
theorem Tryd.Builder_Extra_156 : Builder.Extra Tryd.prog Tryd.lays156_ren := {
 sizeBuilder := by kernel_rfl
 liesBuilder := by kernel_rfl
 t5 := Tryd.underlying5
 a5 := Tryd.isAgg5
 z5 := Tryd.sizeOf5
 v5 := Tryd.zeroValue5
 infoByte := by kernel_rfl
 cellsByte := by kernel_rfl
 sizeByte := by kernel_rfl
 neB5 := by decide }
def Tryd.laysM171_ren : Go.Shelf.Ren := ⟨fun | 171 => 60 | 243 => 89 | 246 => 109 | 283 => 120 | 284 => 121 | 285 => 122 | 286 => 123 | 129 => 127 | 317 => 126 | 318 => 128 | 319 => 129 | 320 => 107 | 337 => 118 | 338 => 119 | n => n, fun | 3 => 3 | 9 => 9 | 2 => 2 | 4 => 4 | 171 => 230 | 0 => 0 | 53 => 73 | 37 => 184 | 5 => 5 | 173 => 232 | 212 => 239 | 51 => 227 | 20 => 20 | 213 => 240 | 46 => 76 | 232 => 236 | 233 => 237 | n => n, fun | 17 => 3 | 18 => 1 | 19 => 2 | n => n⟩
theorem Tryd.laysM171 : Go.Proofs.LaysM.n171 Tryd.prog Tryd.laysM171_ren := {
 mixed := by kernel_rfl
 f129 := Tryd.func127.trans (congrArg some (by kernel_rfl))
 f171 := Tryd.func60.trans (congrArg some (by kernel_rfl))
 f243 := Tryd.func89.trans (congrArg some (by kernel_rfl))
 f246 := Tryd.func109.trans (congrArg some (by kernel_rfl))
 f283 := Tryd.func120.trans (congrArg some (by kernel_rfl))
 f284 := Tryd.func121.trans (congrArg some (by kernel_rfl))
 f285 := Tryd.func122.trans (congrArg some (by kernel_rfl))
 f286 := Tryd.func123.trans (congrArg some (by kernel_rfl))
 f317 := Tryd.func126.trans (congrArg some (by kernel_rfl))
 f318 := Tryd.func128.trans (congrArg some (by kernel_rfl))
 f319 := Tryd.func129.trans (congrArg some (by kernel_rfl))
 f320 := Tryd.func107.trans (congrArg some (by kernel_rfl))
 f337 := Tryd.func118.trans (congrArg some (by kernel_rfl))
 f338 := Tryd.func119.trans (congrArg some (by kernel_rfl))
 t0 := Tryd.underlying0
 a0 := Tryd.isAgg0
 z0 := Tryd.sizeOf0
 v0 := Tryd.zeroValue0
 t2 := Tryd.underlying2
 a2 := Tryd.isAgg2
 z2 := Tryd.sizeOf2
 v2 := Tryd.zeroValue2
 t3 := Tryd.underlying3
 a3 := Tryd.isAgg3
 z3 := Tryd.sizeOf3
 v3 := Tryd.zeroValue3
 t4 := Tryd.underlying4
 a4 := Tryd.isAgg4
 z4 := Tryd.sizeOf4
 v4 := Tryd.zeroValue4
 t5 := Tryd.underlying5
 a5 := Tryd.isAgg5
 z5 := Tryd.sizeOf5
 v5 := Tryd.zeroValue5
 t9 := Tryd.underlying9
 a9 := Tryd.isAgg9
 z9 := Tryd.sizeOf9
 v9 := Tryd.zeroValue9
 t20 := Tryd.underlying20
 a20 := Tryd.isAgg20
 z20 := Tryd.sizeOf20
 v20 := Tryd.zeroValue20
 t37 := Tryd.underlying184
 a37 := Tryd.isAgg184
 z37 := Tryd.sizeOf184
 v37 := Tryd.zeroValue184
 t46 := Tryd.underlying76
 a46 := Tryd.isAgg76
 z46 := Tryd.sizeOf76
 v46 := Tryd.zeroValue76
 t51 := Tryd.underlying227
 a51 := Tryd.isAgg227
 z51 := Tryd.sizeOf227
 v51 := Tryd.zeroValue227
 t53 := Tryd.underlying73
 a53 := Tryd.isAgg73
 z53 := Tryd.sizeOf73
 v53 := Tryd.zeroValue73
 t171 := Tryd.underlying230
 a171 := Tryd.isAgg230
 z171 := Tryd.sizeOf230
 v171 := Tryd.zeroValue230
 t173 := Tryd.underlying232
 a173 := Tryd.isAgg232
 z173 := Tryd.sizeOf232
 v173 := Tryd.zeroValue232
 t212 := Tryd.underlying239
 a212 := Tryd.isAgg239
 z212 := Tryd.sizeOf239
 v212 := Tryd.zeroValue239
 t213 := Tryd.underlying240
 a213 := Tryd.isAgg240
 z213 := Tryd.sizeOf240
 t232 := Tryd.underlying236
 a232 := Tryd.isAgg236
 z232 := Tryd.sizeOf236
 v232 := Tryd.zeroValue236
 t233 := Tryd.underlying237
 a233 := Tryd.isAgg237
 z233 := Tryd.sizeOf237
 v233 := Tryd.zeroValue237
 g17 := by kernel_rfl
 g18 := by kernel_rfl
 g19 := by kernel_rfl
 i0 := by kernel_rfl
 i2 := by kernel_rfl
 i3 := by kernel_rfl
 i4 := by kernel_rfl
 i5 := by kernel_rfl
 i9 := by kernel_rfl
 i20 := by kernel_rfl
 i37 := by kernel_rfl
 i46 := by kernel_rfl
 i51 := by kernel_rfl
 i53 := by kernel_rfl
 i171 := by kernel_rfl
 i173 := by kernel_rfl
 i212 := by kernel_rfl
 i232 := by kernel_rfl
 i233 := by kernel_rfl
 m17 := by kernel_rfl
 m18 := by kernel_rfl
 m19 := by kernel_rfl }
end
section
open Go Go.Lib
end
section
open Go Go.Lib
def dd3 (u : Nat) : List UInt8 := if u < 10 then [UInt8.ofNat (48 + u)] else if u < 100 then [UInt8.ofNat (48 + u / 10), UInt8.ofNat (48 + u % 10)] else [UInt8.ofNat (48 + u / 100), UInt8.ofNat (48 + u / 10 % 10), UInt8.ofNat (48 + u % 10)]
theorem dd3_eq {u : Nat} (h : u < 1000) : decDigits u = dd3 u := by
 unfold dd3
 split
 ·rename_i h1; exact decDigits_one h1
 ·rename_i h1
  split
  ·rename_i h2; exact decDigits_two h1 h2
  ·rename_i h2
   rw [decDigits, dif_neg h1, decDigits_two (by omega) (by omega), Nat.div_div_eq_div_mul]
   rfl
def it3 (v : Int) : List UInt8 := if v < 0 then 45 :: dd3 v.natAbs else dd3 v.toNat
theorem it3_eq {v : Int} (h : -999 ≤ v ∧ v ≤ 999) : itoa v = it3 v := by
 unfold itoa it3
 split
 · rw [dd3_eq (by omega)]
 · rw [dd3_eq (by omega)]
end
structure StrW (w : World) : Prop where
 pow : Lib.TabIs Tryd.prog w "internal/strconv.uint64pow10" .u64 Lib.pow10Tab
 lt : 4 < w.heap.size
theorem powNamed : Tryd.prog.globalNamed "internal/strconv.uint64pow10" = some 3 := by kernel_rfl
theorem StrW.mem {w wc : World} {ex : Nat → Prop} {L : List (Nat × BA)} (h : StrW w) (M : Mem w ex wc L) (hx : ∀ b, b ≤ 4 → ¬ ex b) : StrW wc := by
 have hl := h.lt
 have hb : ∀ b, b ≤ 4 → wc.heap[b]? = w.heap[b]? := fun b hb => M.block b (by omega) (hx b hb)
 have hc : ∀ b, b ≤ 4 → ∀ v, w.cell? ⟨b, 0, none⟩ = some v → wc.cell? ⟨b, 0, none⟩ = some v := fun b h9 v hv => (World.cell?_of_block (w := w) (a := ⟨b, 0, none⟩) (hb b h9)).trans hv
 refine ⟨?_, Nat.lt_of_lt_of_le hl M.size⟩
 ·have hp := h.pow
  unfold Lib.TabIs World.var? at hp ⊢
  rw [powNamed] at hp ⊢
  simp only [Option.bind_some] at hp ⊢
  rw [hb 3 (by decide)]
  exact hp
theorem StrW.mem0 {w wc : World} {L : List (Nat × BA)} (h : StrW w) (M : Mem w noEx wc L) : StrW wc := h.mem M (fun _ _ h => h)
def stE (p : (List UInt8)) : List Value := [sv p]
def st (l : List (List UInt8)) : List Value := l.flatMap stE
theorem st_snoc (l : List (List UInt8)) (p : (List UInt8)) : st l ++ [sv p] = st (l ++ [p]) := by simp [st, stE]
section
variable {w w' : World} {ex : Nat → Prop} {I L : List (Nat × BA)} {n b o k : Nat} {A : Option Addr} {l : List (List UInt8)} {p : (List UInt8)}
end
theorem Itoa_any (n : Int) (w : World) (hn : -9223372036854775808 ≤ n ∧ n ≤ 9223372036854775807) (hT : StrW w) : Calls Tryd.prog 60 #[.int .i64 n] w fun e w' => e = .returned (sv (Lib.itoa n)) ∧ Below w.heap.size w w' :=
 (Any.strconv_Itoa Tryd.laysM171 n hn.1 hn.2 w hT.pow).mono fun e w' h => by
  obtain ⟨rfl, k, os, rfl⟩ := h
  exact ⟨rfl, rfl, rfl, rfl, by simp, fun b hb => Sort.heap_grow_old _ _ hb⟩
section
open Go.ChangeShapes Go.WideShapes Go.ChangeAt Go.RowKit
def laidT : List (String × DataW Unit) := [("math/bits.deBruijn32tab", Rows.laid_math_bits_deBruijn32tab), ("math/bits.deBruijn64tab", Rows.laid_math_bits_deBruijn64tab), ("internal/strconv.uint64pow10", Rows.laid_internal_strconv_uint64pow10)]
theorem gPow : Tryd.prog.globalNamed "internal/strconv.uint64pow10" = some 3 := by kernel_rfl
theorem of_laidT {W : World} (h : laidMetH Tryd.prog laidT W) (hs : W.ShapedOpen Tryd.prog) : StrW W := by
 rw [MakeChecks.laidMetH_plain _ _ _ (by kernel_rfl)] at h
 have h2 : laidMet Tryd.prog (("internal/strconv.uint64pow10", Lib.tabData .u64 Lib.pow10Tab) :: _) W := h.tail.tail
 obtain ⟨m, hm⟩ := cell_of_shapedOpen_int (g := 4) (t := 3) (zero := #[.int .i64 0]) hs (of_decide_eq_true (by kernel_rfl)) (by kernel_rfl) rfl (by kernel_rfl) (by kernel_rfl) Tryd.underlying3
 refine ⟨Lib.tabIs_of_head gPow (t := 239) (e := 73) (n := 20) (by kernel_rfl) (by kernel_rfl) (by kernel_rfl) (by kernel_rfl) (by kernel_rfl) h2, ?_⟩
 obtain ⟨ob, h1, -⟩ := cell_isC hm
 exact (Array.getElem?_eq_some_iff.1 h1).1
section
variable {H : Type} {enc : TypeId × Value → H} {W : World}
theorem returnsT {a : Assume} {C : Checked} {os : Os} {f : FuncId} {fn : Func} {s : ChangeSpec} {conds : List PathCond} {apart fresh handsOn again : Bool} {X : World → Array Value → Prop}
  (hX : ∀ (w w' : World) (args : Array Value), w.heap = w'.heap → X w args → X w' args)
  (own : ownKnob C.prog.godebug = none) (started : os.Started) (noInit : C.prog.inits.idxOf? f = none) (hfn : C.prog.funcs[f]? = some fn)
  (witness : ∃ (w : World) (tape : Tape) (i : Input), w.os = os ∧ (w.forCall tape i).Shaped C.prog ∧ i.vars = [] ∧ Input.okWide C.prog (w.forCall tape i) .any w.heap.size f i ∧
   ((s.pre enc C.prog fn conds apart (w.forCall tape i).memory i.args ∧ X (w.forCall tape i).memory i.args) ∧ sizedMet enc C.prog fn (OpenSpec.ofChange s) apart (w.forCall tape i).memory i.args) ∧ a.holds C.prog (lone (Frame.enter C.prog f i.args .normal) [] (w.forCall tape i)))
  (contract : ∀ (W : World) (base : Nat) (args : Array Value) (ds gs : List (DataW H)) (before : List MemPlace),
   (∀ (j : Nat) t v, fn.params[j]? = some t → args[j]? = some v → Value.okWide C.prog W .any base t v) →
   DataW.Whole enc C.prog fn.params.toList s.vars apart W args.toList ds gs before →
   X W args → W.ShapedOpen C.prog →
   Calls C.prog f args W fun e W' => ∃ v, e = .returned v ∧ s.post enc C.prog fn apart fresh handsOn again W args v W') :
  ReturnsInHanded a C os f .any (fun w args => (s.pre enc C.prog fn conds apart w args ∧ X w args) ∧ sizedMet enc C.prog fn (OpenSpec.ofChange s) apart w args) (s.post enc C.prog fn apart fresh handsOn again) := by
 refine returnsInHanded_of_calls own started noInit witness ?_
 intro w tape i _ hsh _ hok hpre hholds
 obtain ⟨_, _, _, fn', hfn', _, _, _, _, hval⟩ := hok
 have e : fn' = fn := Option.some.inj (hfn'.symm.trans hfn)
 subst e
 obtain ⟨⟨⟨ds, gs, before, hw, hc⟩, hx⟩, hz⟩ := hpre
 have hw' := DataW.Whole.of_heap (w' := w.forCall tape i) (by rfl) hw
 refine (contract (w.forCall tape i) w.heap.size i.args ds gs before hval hw' (hX _ _ _ (by rfl) hx) hsh).mono fun e W' ⟨v, he, hp⟩ => ?_
 subst he
 exact ChangeSpec.post_blind hp
end
theorem start_shT (os : Os) (args : Array Value) : ((World.laidAll Tryd.prog os laidT).forCall (fun _ _ => 0) ⟨#[], args, []⟩).Shaped Tryd.prog := World.shaped_of_ZipB (by kernel_rfl) (by kernel_rfl)
theorem start_metT (os : Os) (args : Array Value) : laidMetH Tryd.prog laidT ((World.laidAll Tryd.prog os laidT).forCall (fun _ _ => 0) ⟨#[], args, []⟩).memory := by
 rw [MakeChecks.laidMetH_plain _ _ _ (by kernel_rfl)]
 exact laidMet_laidAll _ (by kernel_rfl) (by kernel_rfl)
theorem g64 : Tryd.prog.globalNamed "math/bits.deBruijn64tab" = some 2 := by kernel_rfl
theorem c8 : Tryd.prog.cellsOf 5 = 1 := by kernel_rfl
theorem data64 : (Rows.laid_math_bits_deBruijn64tab : DataW Unit) = .agg (tabL.map fun n => .lit (.int .u8 n)) := rfl
theorem of_laid {W : World} (h : laidMetH Tryd.prog laidT W) : TabW W := by
 rw [MakeChecks.laidMetH_plain _ _ _ (by kernel_rfl)] at h
 obtain ⟨ps, ⟨g0, t0, cs0, f0, p0, q0, hg0, ht0, hv0, hd0, ⟨g1, t1, cs1, f1, p1, q1, hg1, ht1, hv1, hd1, _, _⟩, _⟩, _, _⟩ := h
 obtain rfl := Option.some.inj (g64.symm.trans hg1)
 have hu : ∃ n, Tryd.prog.underlying t1 = some (.array n 5) ∧ n = 64 := by
   have h2 : ((Tryd.prog.globals[2]?).map (·.type)).bind (fun t => Tryd.prog.underlying t) = some (.array 64 5) := by kernel_rfl
   rw [ht1] at h2
   exact ⟨64, h2, rfl⟩
 obtain ⟨n, hu, rfl⟩ := hu
 obtain ⟨xs, m1, rfl, hx1, hlen, hn3, hel⟩ := DataW.trod_array hu hd1
 have hx2 : xs.map (·.1) = tabL.map fun n => .lit (.int .u8 n) := by
   have h3 := congrArg Prod.fst hx1
   have h4 : (Rows.laid_math_bits_deBruijn64tab : DataW Unit) = .agg (xs.map (·.1)) := h3
   rw [data64] at h4
   injection h4 with h4
   exact h4.symm
 have key : ∀ k, k < 64 → W.cell? ⟨2, k, none⟩ = some (.int .u8 (tabL.getD k 0)) := fun k hk => by
   have he := hel k hk
   rw [c8, Nat.mul_one] at he
   rw [List.getElem?_eq_getElem (by omega)] at he
   obtain ⟨v, e1, e2, -⟩ := DataW.trod_int Tryd.underlying5 he
   have h5 : (xs.map (·.1))[k]? = some (.lit (.int .u8 v)) := by rw [List.getElem?_map, List.getElem?_eq_getElem (by omega), Option.map_some, e2]
   have hkl : k < tabL.length := hk
   rw [hx2, List.getElem?_map, List.getElem?_eq_getElem hkl, Option.map_some, Option.some.injEq] at h5
   injection h5 with h5
   injection h5 with _ h5
   have h6 := World.var?_cell hg1 hv1 k
   have h7 : cs1[k]? = some (.int .u8 v) := by
     have h8 := congrArg List.head? e1
     simp only [List.head?_take, List.head?_drop, List.head?_cons] at h8
     simpa using h8
   rw [h6, h7, ← h5, List.getD_eq_getElem?_getD, List.getElem?_eq_getElem hkl]
   rfl
 refine ⟨?_, fun k hk => ?_⟩
 · have := key 0 (by omega)
   obtain ⟨ob, h1, -⟩ := cell_isC this
   exact (Array.getElem?_eq_some_iff.1 h1).1
 · rw [show ((⟨2, 0, none⟩ : Addr).add (k * 1)) = ⟨2, k, none⟩ by rw [Addr.add_mid]; simp]
   exact key k hk
end
section
open Go Go.Lib
end
section
open Go Go.Lib
structure Kd where
 word : List UInt8
 rg : Nat
 nm : Nat
section
variable (K0 K1 K2 K3 : Kd)
end
section
variable {K0 K1 K2 K3 : Kd}
end
end
section
open Go Go.Lib
def joinC (c : UInt8) : List (List UInt8) → List UInt8
 | [] => []
 | [x] => x
 | x :: y :: l => x ++ c :: joinC c (y :: l)
theorem joinC_cons {c : UInt8} {x : List UInt8} {l : List (List UInt8)} (h : l ≠ []) : joinC c (x :: l) = x ++ c :: joinC c l := by
 cases l with
 | nil => exact absurd rfl h
 | cons y l => rfl
abbrev sm (v : Int) : Prop := -999 ≤ v ∧ v ≤ 999
end
section
open Go Go.Lib
abbrev nat3 (v : Int) : Prop := 0 ≤ v ∧ v ≤ 999
def sheetW : List UInt8 := [115, 104, 101, 101, 116]
def blankW : List UInt8 := [98, 108, 97, 110, 107]
def sawnW : List UInt8 := [115, 97, 119, 110]
def anyW : List UInt8 := [97, 110, 121]
def grainW : List UInt8 := [103, 114, 97, 105, 110]
end
section
open Go Go.Lib
def headT (s : Sk) : List UInt8 := sheetW ++ [32] ++ itoa s.lo ++ [120] ++ itoa s.wi ++ [32] ++ itoa s.a0 ++ [126] ++ itoa s.a1 ++ [32] ++ itoa s.c0 ++ [126] ++ itoa s.c1
def wordT (g : Bool) : List UInt8 := if g = true then grainW else anyW
def partT (p : Pt) : List UInt8 := blankW ++ [32] ++ itoa p.l ++ [120] ++ itoa p.w ++ [32] ++ wordT p.gr ++ [32] ++ itoa p.pa
def writeS (s : Sk) : List UInt8 := headT s ++ [10] ++ s.ps.flatMap (fun p => partT p ++ [10]) ++ sawnW ++ [10]
structure Pt.n3 (p : Pt) : Prop where
 l : nat3 p.l
 w : nat3 p.w
 pa : nat3 p.pa
structure Sk.n3 (s : Sk) : Prop where
 lo : nat3 s.lo
 wi : nat3 s.wi
 a0 : nat3 s.a0
 a1 : nat3 s.a1
 c0 : nat3 s.c0
 c1 : nat3 s.c1
 ps : ∀ p ∈ s.ps, p.n3
theorem joinC_rows (ls : List (List UInt8)) : joinC 10 (ls ++ [[]]) = ls.flatMap fun s => s ++ [10] := by
 induction ls with
 | nil => rfl
 | cons a l ih =>
  rw [List.cons_append, joinC_cons (by simp), ih, List.flatMap_cons]
  simp
theorem writeS_rows (s : Sk) : writeS s = joinC 10 ((headT s :: (s.ps.map partT ++ [sawnW])) ++ [[]]) := by
 rw [joinC_rows, List.flatMap_cons, List.flatMap_append, List.flatMap_map]
 unfold writeS
 simp
end
section
open Go Go.Lib
theorem itoa_len {v : Int} (h : sm v) : (itoa v).length ≤ 4 := by
 rw [it3_eq h]
 unfold it3 dd3
 split <;> split <;> (try split) <;> simp
theorem joinC_end {c : UInt8} : ∀ {l : List (List UInt8)}, l ≠ [] → joinC c (l ++ [[]]) = joinC c l ++ [c]
 | [], h => absurd rfl h
 | [x], _ => rfl
 | x :: y :: l, _ => by
  have ih := joinC_end (c := c) (l := y :: l) (by simp)
  show x ++ c :: joinC c (y :: l ++ [[]]) = (x ++ c :: joinC c (y :: l)) ++ [c]
  rw [ih]
  simp
theorem joinC_len {c : UInt8} {m : Nat} : ∀ {l : List (List UInt8)}, (∀ x ∈ l, x.length ≤ m) → (joinC c l).length ≤ l.length * (m + 1)
 | [], _ => Nat.zero_le _
 | [x], h => by
  have := h x Zz2
  show x.length ≤ 1 * (m + 1)
  omega
 | x :: y :: l, h => by
  have h1 := h x Zz2
  have ih := joinC_len (c := c) (l := y :: l) fun z hz => h z (Zz1 hz)
  rw [joinC_cons (by simp), List.length_append, List.length_cons, List.length_cons, Nat.succ_mul]
  omega
theorem join_joinC (c : UInt8) : ∀ l : List (List UInt8), Lib.join l [c] = joinC c l
 | [] => rfl
 | [x] => Lib.join_one x [c]
 | x :: y :: l => by
  have ih := join_joinC c (y :: l)
  rw [joinC_cons (by simp), ← ih, Lib.join_cons, Lib.join_cons]
  simp [Lib.joinTail]
end
theorem st_map (l : List (List UInt8)) : st l = l.map fun p => sv p := by
 unfold st
 induction l with
 | nil => rfl
 | cons a l ih => rw [List.flatMap_cons, ih]; rfl
theorem Join_any (l : List (List UInt8)) (A : Option Addr) (c : Nat) (w : World) (hr : Rd w w.heap.size 1 A l.length (st l)) (h0 : 0 < l.length) (hc : l.length ≤ c) (hl : (joinC 10 l).length ≤ 1000000) (hn : l.length ≤ 1000000) :
  Calls Tryd.prog 61 #[.slice A l.length c, sv [10]] w fun e w' => e = .returned (sv (joinC 10 l)) ∧ Below w.heap.size w w' := by
 obtain ⟨b, o, rfl, hb, hcl⟩ := hr.2 h0
 have hm : l.map (fun s => (⟨s.toArray⟩ : ByteArray).data.toList) = l := by
  induction l with
  | nil => rfl
  | cons a l ih => simp
 have hx := Any.strings_Join Tryd.lays156 Tryd.Builder_Extra_156 b o c (l.map fun s => (⟨s.toArray⟩ : ByteArray)) ⟨[10].toArray⟩ w (fun j x hx => by
  obtain ⟨s, hs, rfl⟩ := Option.map_eq_some_iff.1 ((List.getElem?_map ..).symm.trans hx)
  exact hcl j (sv s) (by rw [st_map, List.getElem?_map, hs]; rfl)) hb (by rw [List.length_map]; omega) (by rw [List.length_map]; exact hc) (by
  rw [List.map_map]
  show (Lib.join (l.map fun s => (⟨s.toArray⟩ : ByteArray).data.toList) [10]).length ≤ _
  rw [hm, join_joinC]
  omega)
 rw [List.length_map, List.map_map] at hx
 have e : Lib.join (l.map ((fun x => x.data.toList) ∘ fun s => (⟨s.toArray⟩ : ByteArray))) (⟨[10].toArray⟩ : ByteArray).data.toList = joinC 10 l := by
  show Lib.join (l.map fun s => (⟨s.toArray⟩ : ByteArray).data.toList) [10] = _
  rw [hm, join_joinC]
 rw [e] at hx
 exact hx
theorem JoinR_any {w0 w : World} {ex : Nat → Prop} {L : List (Nat × BA)} {g e n cap : Nat} (l : List (List UInt8)) (M : Mem w0 ex w L) (hm : (g, BA.row e 1 n (st l) cap) ∈ L) (hn : n = l.length) (hl : (joinC 10 l).length ≤ 1000000) (h9 : l.length ≤ 1000000) :
  Calls Tryd.prog 61 #[.slice (some ⟨g, 0, none⟩) n cap, sv [10]] w fun e w' => e = .returned (sv (joinC 10 l)) ∧ Below w.heap.size w w' := by
 subst hn
 have hR := M.rdRow hm
 obtain ⟨hb, h0⟩ := (M.blk _ hm).2
 obtain ⟨g', cap', e1, hc, _⟩ := own_form hb h0
 injection e1 with _ _ e1
 exact Join_any l _ cap w hR h0 (by rw [e1]; exact hc) hl h9
def rowsT (s : Sk) (k : Nat) : List (List UInt8) := headT s :: (s.ps.take k).map partT
theorem rowsT_snoc {s : Sk} {k : Nat} {p : Pt} (h : s.ps[k]? = some p) : rowsT s (k + 1) = rowsT s k ++ [partT p] := by
 unfold rowsT
 rw [List.take_add_one, h]
 simp
theorem rowsT_len {s : Sk} {k : Nat} (h : k ≤ s.ps.length) : (rowsT s k).length = k + 1 := by
 unfold rowsT
 rw [List.length_cons, List.length_map, List.length_take]
 omega
theorem good_n3 {s : Sk} (h : s.good) : s.n3 := by
 have h1 := h.lo
 have h2 := h.wi
 have h3 := h.a
 have h4 := h.c
 exact ⟨⟨by omega, by omega⟩, ⟨by omega, by omega⟩, ⟨by omega, by omega⟩, ⟨by omega, by omega⟩, ⟨by omega, by omega⟩, ⟨by omega, by omega⟩, fun p hp => by
  have h5 := h.ps p hp
  have h6 := h5.l
  have h7 := h5.w
  have h8 := h5.pa
  exact ⟨⟨by omega, by omega⟩, ⟨by omega, by omega⟩, ⟨by omega, by omega⟩⟩⟩
theorem n3_sm {v : Int} (h : nat3 v) : sm v := ⟨by have := h.1; omega, h.2⟩
theorem head_len {s : Sk} (h : s.n3) : (headT s).length ≤ 40 := by
 have h1 := itoa_len (n3_sm h.lo)
 have h2 := itoa_len (n3_sm h.wi)
 have h3 := itoa_len (n3_sm h.a0)
 have h4 := itoa_len (n3_sm h.a1)
 have h5 := itoa_len (n3_sm h.c0)
 have h6 := itoa_len (n3_sm h.c1)
 simp only [headT, sheetW, List.length_append, List.length_cons, List.length_nil]
 omega
theorem word_len (g : Bool) : (wordT g).length ≤ 5 := by cases g <;> decide
theorem part_len {p : Pt} (h : p.n3) : (partT p).length ≤ 40 := by
 have h1 := itoa_len (n3_sm h.l)
 have h2 := itoa_len (n3_sm h.w)
 have h3 := itoa_len (n3_sm h.pa)
 have h4 := word_len p.gr
 simp only [partT, blankW, List.length_append, List.length_cons, List.length_nil]
 omega
theorem rows_len {s : Sk} (h : s.n3) (h5 : s.ps.length ≤ 5) : (joinC 10 (rowsT s s.ps.length ++ [sawnW])).length ≤ 300 := by
 have h1 := joinC_len (c := 10) (m := 40) (l := rowsT s s.ps.length ++ [sawnW]) (fun x hx => by
  rcases List.mem_append.1 hx with hx | hx
  ·rcases List.mem_cons.1 hx with rfl | hx
   ·exact head_len h
   ·obtain ⟨p, hp, rfl⟩ := List.mem_map.1 hx
    exact part_len (h.ps p ((List.take_sublist _ _).subset hp))
  ·rcases List.mem_singleton.1 hx with rfl
   decide)
 rw [List.length_append, rowsT_len (Nat.le_refl _), List.length_singleton] at h1
 omega
theorem write_is (s : Sk) : joinC 10 (rowsT s s.ps.length ++ [sawnW]) ++ [10] = writeS s := by
 rw [writeS_rows, ← joinC_end (by simp)]
 unfold rowsT
 rw [List.take_length]
 rfl
def wrS (s : Sk) : List UInt8 := if skErr s = 0 then writeS s else []
theorem Tryd.info9 : (Tryd.prog.info? 9).map (fun i => (i.zero, i.size, i.bytes)) = some (some (.string ByteArray.empty), 1, 16) := by kernel_rfl
theorem wpair_any (a b : Int) (t : List UInt8) (w : World) (ha : sm a) (hb : sm b) (ht : t.length ≤ 8) (hT : StrW w)  :
  Calls Tryd.prog 59 #[.int .i64 a, sv t, .int .i64 b] w fun e w' => e = .returned (sv (Lib.itoa a ++ t ++ Lib.itoa b)) ∧ Below w.heap.size w w' := by
 obtain ⟨h2, h3⟩ := ha
 obtain ⟨h4, h5⟩ := hb
 refine Zpx noEx Tryd.func59 rfl 14 rfl [.int .i64 a, sv t, .int .i64 b] rfl rfl (Mem.init w _) ?_
 intro ac wc T M
 refine Zsr ?_
 refine lq T (Zra rfl evc) ?_; clear T ac; intro ac T
 replace T := T.pick [1, 2, 3] rfl
 refine Zln ?_
 refine Zsr ?_
 refine lq T (Zrm rfl (T.e 0 rfl)) ?_; clear T ac; intro ac T
 refine Zl2 ?_
 refine Zoc (first := []) (cap := []) T rfl rfl rfl rfl evf (.cons (T.e 0 rfl) .nil) Tryd.func60 rfl rfl ?_
 refine Calls.mono (Itoa_any a _ (by (try dsimp only); omega) (hT.mem0 M)) ?_
 clear T; rintro e wc ⟨rfl, hb⟩ ac T
 replace M := M.call hb; clear hb
 have hiu1 := itoa_len (v := a) ⟨by (try dsimp only); omega, by (try dsimp only); omega⟩
 refine Zg3 T (Zq (Zrm rfl (T.e 3 rfl))) rfl (fun _ T => Zq (rn_sadd rfl (T.e 1 rfl) (T.e 0 rfl) (by (try simp only [List.length_append, List.length_cons, List.length_nil]); omega))) rfl (Zm 6 rfl rfl) rfl ?_; clear T ac; intro ac T
 refine Zl2 ?_
 refine Zoc (first := []) (cap := []) T rfl rfl rfl rfl evf (.cons (T.e 0 rfl) .nil) Tryd.func60 rfl rfl ?_
 refine Calls.mono (Itoa_any b _ (by (try dsimp only); omega) (hT.mem0 M)) ?_
 clear T; rintro e wc ⟨rfl, hb⟩ ac T
 replace M := M.call hb; clear hb
 have hiu2 := itoa_len (v := b) ⟨by (try dsimp only); omega, by (try dsimp only); omega⟩
 refine Zg2 T (Zq (rn_sadd rfl (T.e 2 rfl) (T.e 0 rfl) (by (try simp only [List.length_append, List.length_cons, List.length_nil]); omega))) rfl (Za 0 rfl rfl) rfl ?_; clear T ac; intro ac T
 replace T := T.pick [0] rfl
 refine Zln ?_
 refine wp_ret ?_
 refine rt_1 T rfl (T.e 0 rfl) ?_
 exact ⟨rfl, M.below⟩
theorem swrite_any (s : Sk) (A : Option Addr) (c : Nat)  (w : World) (hA : Rd w w.heap.size 4 A s.ps.length (pc s.ps)) (nA : s.ps.length ≤ 1000000) (hT : StrW w)  :
   Calls Tryd.prog 28 #[.agg #[.int .i64 s.lo, .int .i64 s.wi, .int .i64 s.a0, .int .i64 s.a1, .int .i64 s.c0, .int .i64 s.c1, .slice A s.ps.length c]] w fun e w' => e = .returned (.tuple #[sv (wrS s), .int .i64 (skErr s)]) ∧ Below w.heap.size w w' := by
 obtain ⟨bA, oA, SA⟩ := Sp.old hA
 refine Zpx noEx Tryd.func28 rfl 76 rfl [.agg #[.int .i64 s.lo, .int .i64 s.wi, .int .i64 s.a0, .int .i64 s.a1, .int .i64 s.c0, .int .i64 s.c1, .slice A s.ps.length c]] rfl rfl (Mem.init w _) ?_
 intro ac wc T M
 refine Zsr ?_
 refine Zl2 ?_
 refine Zob M T rfl rfl rfl rfl (T.e 0 rfl) rfl ?_; clear M T; intro g1 wc ac M T
 refine Zg2 T (Zq (Zra rfl evc)) rfl (Zc rfl) rfl ?_; clear T ac; intro ac T
 replace T := T.pick [2] rfl
 refine Zln ?_
 refine wp_seq ?_
 refine Zsr ?_
 refine lq T (Zrr (Mem.nth M 0 rfl) rfl (T.e 0 rfl) rfl) ?_; clear T ac; intro ac T
 refine Zl2 ?_
 refine Zoc (first := []) (cap := []) T rfl rfl rfl rfl evf (.cons (T.e 0 rfl) .nil) Tryd.func16 rfl rfl ?_
 refine Calls.mono (skCheck_any s A c _ (SA.rd M (Zz9 _)) (by omega)) ?_
 clear T; rintro e wc ⟨rfl, hb⟩ ac T
 replace M := M.call hb; clear hb
 refine lq T (Zra rfl (T.e 0 rfl)) ?_; clear T ac; intro ac T
 replace T := T.pick [0, 3] rfl
 refine Zln ?_
 refine Zsr ?_
 refine Zg2 T (Zq (Zrm rfl (T.e 0 rfl))) rfl (fun _ T => Zq (rn_neq rfl (T.e 0 rfl) evc)) rfl ?_; clear T ac; intro ac T
 replace T := T.pick [0, 2, 3] rfl
 refine Zln ?_
 refine wp_ifn (T.e 0 rfl) ?_ ?_
 ·intro h1
  refine Zsr ?_
  refine Zg3 T (Zq (Zrm rfl (T.e 1 rfl))) rfl (Zc rfl) rfl (Za 1 rfl rfl) rfl ?_; clear T ac; intro ac T
  refine wpList_nil ?_
  replace T := T.pick [0, 1] rfl
  replace M := M.mask [false] rfl
  refine Znr ?_
  refine Zrt ?_
  refine rt_2 T rfl (T.e 1 rfl) (T.e 0 rfl) ?_
  have e9 : wrS s = [] := by unfold wrS; rw [if_neg (by assumption)]
  rw [e9]
  exact ⟨rfl, M.below⟩
 intro h1
 have hsg := skErr_iff.1 (show skErr s = 0 by omega)
 have hsn := good_n3 hsg
 have hs5 := hsg.len
 obtain ⟨⟨hq1, hq2⟩, ⟨hq3, hq4⟩, ⟨hq5, hq6⟩, ⟨hq7, hq8⟩, ⟨hq9, hq10⟩, ⟨hq11, hq12⟩, -⟩ := hsn
 have hsn := good_n3 hsg
 refine Zsk ?_
 refine Zsr ?_
 refine lq T (Zra rfl evf) ?_; clear T ac; intro ac T
 replace T := T.pick [0, 3] rfl
 refine Zln ?_
 refine wp_seq ?_
 refine Zgs M (M.mask [true] rfl) 29 (by kernel_rfl) rfl (by kernel_rfl) ?_
 clear M; intro wc M
 refine gq T 0 1 rfl (fun _ _ _ _ _ => (Zrm rfl (T.e 0 rfl))) ?_; clear T ac; intro ac T
 refine gq (v := (.pointer (some ⟨g1, 0, none⟩))) T 1 3 rfl (fun _ _ _ _ _ => (Zrf (off := 0) rfl (T.e 2 rfl) (fun _ _ _ => by kernel_rfl))) ?_; clear T ac; intro ac T
 refine gq T 2 7 rfl (fun B w' hD hl hS => (Zro (Mem.nth (show Mem w noEx w' _ from hS) 0 rfl) rfl (T.e 0 rfl) rfl)) ?_; clear T ac; intro ac T
 refine gq (v := (.pointer (some ⟨g1, 1, none⟩))) T 3 15 rfl (fun _ _ _ _ _ => (Zrf (off := 1) rfl (T.e 4 rfl) (fun _ _ _ => by kernel_rfl))) ?_; clear T ac; intro ac T
 refine gq T 4 31 rfl (fun B w' hD hl hS => (Zro (Mem.nth (show Mem w noEx w' _ from hS) 0 rfl) rfl (T.e 0 rfl) rfl)) ?_; clear T ac; intro ac T
 refine gq T 8 287 rfl (fun _ _ _ _ _ => (Zrm rfl (T.e 5 rfl))) ?_; clear T ac; intro ac T
 refine gq (v := (.pointer (some ⟨g1, 2, none⟩))) T 9 799 rfl (fun _ _ _ _ _ => (Zrf (off := 2) rfl (T.e 7 rfl) (fun _ _ _ => by kernel_rfl))) ?_; clear T ac; intro ac T
 refine gq (v := (.pointer (some ⟨g1, 2, none⟩))) T 10 1823 rfl (fun _ _ _ _ _ => (Zrf (off := 0) rfl (T.e 0 rfl) (fun _ _ _ => by kernel_rfl))) ?_; clear T ac; intro ac T
 refine gq T 11 3871 rfl (fun B w' hD hl hS => (Zro (Mem.nth (show Mem w noEx w' _ from hS) 0 rfl) rfl (T.e 0 rfl) rfl)) ?_; clear T ac; intro ac T
 refine gq (v := (.pointer (some ⟨g1, 2, none⟩))) T 12 7967 rfl (fun _ _ _ _ _ => (Zrf (off := 2) rfl (T.e 10 rfl) (fun _ _ _ => by kernel_rfl))) ?_; clear T ac; intro ac T
 refine gq (v := (.pointer (some ⟨g1, 3, none⟩))) T 13 16159 rfl (fun _ _ _ _ _ => (Zrf (off := 1) rfl (T.e 0 rfl) (fun _ _ _ => by kernel_rfl))) ?_; clear T ac; intro ac T
 refine gq T 14 32543 rfl (fun B w' hD hl hS => (Zro (Mem.nth (show Mem w noEx w' _ from hS) 0 rfl) rfl (T.e 0 rfl) rfl)) ?_; clear T ac; intro ac T
 refine gq T 18 294687 rfl (fun _ _ _ _ _ => (Zrm rfl (T.e 12 rfl))) ?_; clear T ac; intro ac T
 refine gq (v := (.pointer (some ⟨g1, 4, none⟩))) T 19 818975 rfl (fun _ _ _ _ _ => (Zrf (off := 4) rfl (T.e 14 rfl) (fun _ _ _ => by kernel_rfl))) ?_; clear T ac; intro ac T
 refine gq (v := (.pointer (some ⟨g1, 4, none⟩))) T 20 1867551 rfl (fun _ _ _ _ _ => (Zrf (off := 0) rfl (T.e 0 rfl) (fun _ _ _ => by kernel_rfl))) ?_; clear T ac; intro ac T
 refine gq T 21 3964703 rfl (fun B w' hD hl hS => (Zro (Mem.nth (show Mem w noEx w' _ from hS) 0 rfl) rfl (T.e 0 rfl) rfl)) ?_; clear T ac; intro ac T
 refine gq (v := (.pointer (some ⟨g1, 4, none⟩))) T 22 8159007 rfl (fun _ _ _ _ _ => (Zrf (off := 4) rfl (T.e 17 rfl) (fun _ _ _ => by kernel_rfl))) ?_; clear T ac; intro ac T
 refine gq (v := (.pointer (some ⟨g1, 5, none⟩))) T 23 16547615 rfl (fun _ _ _ _ _ => (Zrf (off := 1) rfl (T.e 0 rfl) (fun _ _ _ => by kernel_rfl))) ?_; clear T ac; intro ac T
 refine gq T 24 33324831 rfl (fun B w' hD hl hS => (Zro (Mem.nth (show Mem w noEx w' _ from hS) 0 rfl) rfl (T.e 0 rfl) rfl)) ?_; clear T ac; intro ac T
 refine gw 5 33324863 ?_; intro K hK
 refine Zoc (first := []) (cap := []) T rfl rfl rfl rfl (T.e 18 rfl) (.cons (T.e 16 rfl) (.cons evc (.cons (T.e 14 rfl) .nil))) Tryd.func59 rfl rfl ?_
 refine Calls.mono (wpair_any s.lo s.wi [120] _ ⟨by (try dsimp only); omega, by (try dsimp only); omega⟩ ⟨by (try dsimp only); omega, by (try dsimp only); omega⟩ (by simp) (hT.mem0 M)) ?_
 clear T; rintro e wc ⟨rfl, hb⟩ ac T
 replace M := M.call hb; clear hb
 have hiu2 := itoa_len (v := s.lo) ⟨by (try dsimp only); omega, by (try dsimp only); omega⟩
 have hju2 := itoa_len (v := s.wi) ⟨by (try dsimp only); omega, by (try dsimp only); omega⟩
 refine Zso hK _ _ (M.mask [true] rfl) ?_; clear hK K
 refine gq T 6 33324927 rfl (fun _ _ _ _ _ => (rn_sadd rfl evc (T.e 0 rfl) (by (try simp only [List.length_append, List.length_cons, List.length_nil]); omega))) ?_; clear T ac; intro ac T
 refine gq T 7 33325055 rfl (fun _ _ _ _ _ => (rn_sadd rfl (T.e 0 rfl) evc (by (try simp only [List.length_append, List.length_cons, List.length_nil]); omega))) ?_; clear T ac; intro ac T
 refine gw 15 33357823 ?_; intro K hK
 refine Zoc (first := []) (cap := []) T rfl rfl rfl rfl (T.e 16 rfl) (.cons (T.e 13 rfl) (.cons evc (.cons (T.e 10 rfl) .nil))) Tryd.func59 rfl rfl ?_
 refine Calls.mono (wpair_any s.a0 s.a1 [126] _ ⟨by (try dsimp only); omega, by (try dsimp only); omega⟩ ⟨by (try dsimp only); omega, by (try dsimp only); omega⟩ (by simp) (hT.mem0 M)) ?_
 clear T; rintro e wc ⟨rfl, hb⟩ ac T
 replace M := M.call hb; clear hb
 have hiu3 := itoa_len (v := s.a0) ⟨by (try dsimp only); omega, by (try dsimp only); omega⟩
 have hju3 := itoa_len (v := s.a1) ⟨by (try dsimp only); omega, by (try dsimp only); omega⟩
 refine Zso hK _ _ (M.mask [true] rfl) ?_; clear hK K
 refine gq T 16 33423359 rfl (fun _ _ _ _ _ => (rn_sadd rfl (T.e 1 rfl) (T.e 0 rfl) (by (try simp only [List.length_append, List.length_cons, List.length_nil]); omega))) ?_; clear T ac; intro ac T
 refine gq T 17 33554431 rfl (fun _ _ _ _ _ => (rn_sadd rfl (T.e 0 rfl) evc (by (try simp only [List.length_append, List.length_cons, List.length_nil]); omega))) ?_; clear T ac; intro ac T
 refine gw 25 67108863 ?_; intro K hK
 refine Zoc (first := []) (cap := []) T rfl rfl rfl rfl (T.e 12 rfl) (.cons (T.e 9 rfl) (.cons evc (.cons (T.e 6 rfl) .nil))) Tryd.func59 rfl rfl ?_
 refine Calls.mono (wpair_any s.c0 s.c1 [126] _ ⟨by (try dsimp only); omega, by (try dsimp only); omega⟩ ⟨by (try dsimp only); omega, by (try dsimp only); omega⟩ (by simp) (hT.mem0 M)) ?_
 clear T; rintro e wc ⟨rfl, hb⟩ ac T
 replace M := M.call hb; clear hb
 have hiu4 := itoa_len (v := s.c0) ⟨by (try dsimp only); omega, by (try dsimp only); omega⟩
 have hju4 := itoa_len (v := s.c1) ⟨by (try dsimp only); omega, by (try dsimp only); omega⟩
 refine Zso hK _ _ (M.mask [true] rfl) ?_; clear hK K
 refine gq T 26 134217727 rfl (fun _ _ _ _ _ => (rn_sadd rfl (T.e 1 rfl) (T.e 0 rfl) (by (try simp only [List.length_append, List.length_cons, List.length_nil]); omega))) ?_; clear T ac; intro ac T
 refine gw 27 268435455 ?_; intro K hK
 refine ow_bsR (e := 9) (size := 1) [sv (((((([115, 104, 101, 101, 116, 32]) ++ (Lib.itoa s.lo ++ [120] ++ Lib.itoa s.wi)) ++ ([32])) ++ (Lib.itoa s.a0 ++ [126] ++ Lib.itoa s.a1)) ++ ([32])) ++ (Lib.itoa s.c0 ++ [126] ++ Lib.itoa s.c1))] M T rfl rfl rfl rfl (.cons (T.e 0 rfl) .nil) (fun _ => by kernel_rfl) rfl rfl rfl ?_; clear M T; intro g2 wc ac M T
 refine Zso hK _ _ (M.mask [false, true] rfl) ?_; clear hK K
 refine gq T 28 536870911 rfl (fun _ _ _ _ _ => (Zra rfl (T.e 0 rfl))) ?_; clear T ac; intro ac T
 refine Zgd (by kernel_rfl) ?_
 replace T := T.pick [0, 29, 30] rfl
 refine Zns ?_
 refine Zsr ?_
 refine Zg4 (v1 := (.pointer (some ⟨g1, 6, none⟩))) T (Zq (Zrf (off := 6) rfl (T.e 2 rfl) (fun _ _ _ => by kernel_rfl))) rfl (Zo M 1 0 rfl rfl rfl rfl) rfl (Zl Tryd.underlying27 0 rfl rfl) rfl (fun _ T => Zq (Zrm rfl evc)) rfl ?_; clear T ac; intro ac T
 refine wpList_nil ?_
 replace T := T.pick [0, 1, 2, 4, 5] rfl
 replace M := M.mask [true, false] rfl
 refine nm_then ?_
 refine wp_block ?_
 have e8 : [sv (((((([115, 104, 101, 101, 116, 32]) ++ (Lib.itoa s.lo ++ [120] ++ Lib.itoa s.wi)) ++ ([32])) ++ (Lib.itoa s.a0 ++ [126] ++ Lib.itoa s.a1)) ++ ([32])) ++ (Lib.itoa s.c0 ++ [126] ++ Lib.itoa s.c1))] = st (rowsT s 0) := by show _ = [sv (headT s)]; simp [headT, sheetW]
 rw [e8] at M
 clear e8
 replace M := M.perm [0] rfl rfl
 obtain ⟨A9, I9, hA9, hsl9, M⟩ : ∃ A I, A = some (⟨g2, 0, none⟩ : Addr) ∧ Sl 9 1 (.slice A (0 + 1) 1) (0 + 1) (st (rowsT s 0)) I ∧ Mem w noEx wc ([] ++ I) := ⟨_, _, rfl, Sl.row _ _ _ _ _ _, M⟩
 rw [← hA9] at T
 replace M : Mem w noEx wc (I9) := M
 refine wp_loop_n (fun mz ac wc => ∃ (k : Nat) (At : Option Addr) (ct : Nat) (It : List (Nat × BA)), mz = s.ps.length - k ∧ (k ≤ s.ps.length) ∧ (Sl 9 1 (.slice At (k + 1) ct) (k + 1) (st (rowsT s k)) It) ∧ Tm ac 76 [(5, .func (.func 59) #[] #[]), (6, .slice At (k + 1) ct), (44, .slice A s.ps.length c), (45, .int .i64 ((s.ps.length : Nat) : Int)), (46, .int .i64 (k : Int))] ∧ Mem w noEx wc (It)) ?_ ?_
 ·exact ⟨_, 0, A9, 1, I9, rfl, (Nat.zero_le _), hsl9, T.pick [4, 3, 2, 1, 0] rfl, M⟩
 clear T M
 rintro mz ac wc ⟨k, At, ct, It, hmm1, hk, hsl, T, M⟩
 refine Zsr ?_
 refine lq T (rn_lss rfl (T.e 4 rfl) (T.e 3 rfl)) ?_; clear T ac; intro ac T
 refine Zln ?_
 refine wp_seq ?_
 refine wp_if (T.e 0 rfl) ?_ ?_
 ·intro h2
  obtain ⟨p, hkp, -⟩ := pc_next (l := s.ps) (k := k) (by omega)
  have hpg := hsn.ps p (List.mem_of_getElem? hkp)
  obtain ⟨⟨hp1, hp2⟩, ⟨hp3, hp4⟩, hp5, hp6⟩ := hpg
  have hpg := hsn.ps p (List.mem_of_getElem? hkp)
  refine Zsk ?_
  refine wp_seq ?_
  refine wp_block ?_
  refine Zsr ?_
  refine Zg2 (v2 := (.agg #[.int .i64 p.l, .int .i64 p.w, .bool p.gr, .int .i64 p.pa])) T (Zq (Zri (size := 4) k rfl (T.e 3 rfl) (T.e 5 rfl) ⟨_, Tryd.underlying27, by kernel_rfl⟩ rfl (by omega) (SA.at0 (by omega)))) rfl (fun _ T => Zq (rn_rowat (Sp.pcR SA M (Zz9 _) hkp) rfl (T.e 0 rfl) rfl)) rfl ?_; clear T ac; intro ac T
  refine Zl2 ?_
  refine Zoa M T rfl rfl rfl rfl ?_; clear M T; intro g3 wc ac M T
  refine Zl2 ?_
  refine Zos M T rfl rfl (T.e 0 rfl) (T.e 1 rfl) rfl .head rfl (by simp) rfl (by kernel_rfl) ?_; clear M T; intro wc ac M T
  replace T := T.pick [0, 4, 5, 6, 7, 8] rfl
  refine Zln ?_
  refine Zsr ?_
  refine lq T (Zra rfl evc) ?_; clear T ac; intro ac T
  refine Zln ?_
  refine cut_seq (fun ac wc => ∃ (wd : List UInt8), (wd = wordT p.gr) ∧ (wd.length ≤ 5) ∧ Tm ac 76 [(5, .func (.func 59) #[] #[]), (6, .slice At (k + 1) ct), (8, .pointer (some ⟨g3, 0, none⟩)), (9, sv wd), (44, .slice A s.ps.length c), (45, .int .i64 ((s.ps.length : Nat) : Int)), (46, .int .i64 (k : Int))] ∧ Mem w noEx wc ((g3, .cells [.int .i64 p.l, .int .i64 p.w, .bool p.gr, .int .i64 p.pa]) :: It)) ?_ ?_
  ·refine Zsr ?_
   refine Zg2 (v1 := (.pointer (some ⟨g3, 2, none⟩))) T (Zq (Zrf (off := 2) rfl (T.e 1 rfl) (fun _ _ _ => by kernel_rfl))) rfl (Zo M 0 0 rfl rfl rfl rfl) rfl ?_; clear T ac; intro ac T
   replace T := T.pick [0, 2, 3, 4, 5, 6, 7, 8] rfl
   refine Zln ?_
   refine wp_cond_split (T.e 0 rfl) ?_ ?_
   ·intro h3
    refine wp_region_lit ?_
    refine l_q (v := (sv ([103, 114, 97, 105, 110]))) (T.pick [0, 2, 3, 4, 5, 6, 7] rfl) rfl rfl rfl rfl (Zra rfl evc) ?_; clear T ac; intro ac T
    refine wpList_nil ?_
    replace T := T.pick [0, 2, 3, 4, 5, 6, 7] rfl
    exact ⟨[103, 114, 97, 105, 110], (by unfold wordT; rw [h3]; rfl), (by decide), T.pick [2, 3, 1, 0, 4, 5, 6] rfl, M⟩
   intro h3
   refine wp_skip ?_
   exact ⟨[97, 110, 121], (by unfold wordT; rw [h3]; rfl), (by decide), T.pick [3, 4, 2, 1, 5, 6, 7] rfl, M⟩
  clear T M
  rintro ac wc ⟨wd, hwd, hwl, T, M⟩
  refine Zgs M (M.perm [0] rfl rfl) 19 (by kernel_rfl) rfl (by kernel_rfl) ?_
  clear M; intro wc M
  refine gq T 0 1 rfl (fun _ _ _ _ _ => (Zrm rfl (T.e 1 rfl))) ?_; clear T ac; intro ac T
  refine gq T 1 3 rfl (fun _ _ _ _ _ => (Zrm rfl (T.e 1 rfl))) ?_; clear T ac; intro ac T
  refine gq (v := (.pointer (some ⟨g3, 0, none⟩))) T 2 7 rfl (fun _ _ _ _ _ => (Zrf (off := 0) rfl (T.e 4 rfl) (fun _ _ _ => by kernel_rfl))) ?_; clear T ac; intro ac T
  refine gq T 3 15 rfl (fun B w' hD hl hS => (Zro (Mem.nth (show Mem w noEx w' _ from hS) 0 rfl) rfl (T.e 0 rfl) rfl)) ?_; clear T ac; intro ac T
  refine gq (v := (.pointer (some ⟨g3, 1, none⟩))) T 4 31 rfl (fun _ _ _ _ _ => (Zrf (off := 1) rfl (T.e 6 rfl) (fun _ _ _ => by kernel_rfl))) ?_; clear T ac; intro ac T
  refine gq T 5 63 rfl (fun B w' hD hl hS => (Zro (Mem.nth (show Mem w noEx w' _ from hS) 0 rfl) rfl (T.e 0 rfl) rfl)) ?_; clear T ac; intro ac T
  refine gq T 9 575 rfl (fun _ _ _ _ _ => (Zrm rfl (T.e 9 rfl))) ?_; clear T ac; intro ac T
  refine gq (v := (.pointer (some ⟨g3, 3, none⟩))) T 12 4671 rfl (fun _ _ _ _ _ => (Zrf (off := 3) rfl (T.e 9 rfl) (fun _ _ _ => by kernel_rfl))) ?_; clear T ac; intro ac T
  refine gq T 13 12863 rfl (fun B w' hD hl hS => (Zro (Mem.nth (show Mem w noEx w' _ from hS) 0 rfl) rfl (T.e 0 rfl) rfl)) ?_; clear T ac; intro ac T
  refine gw 6 12927 ?_; intro K hK
  refine Zoc (first := []) (cap := []) T rfl rfl rfl rfl (T.e 7 rfl) (.cons (T.e 5 rfl) (.cons evc (.cons (T.e 3 rfl) .nil))) Tryd.func59 rfl rfl ?_
  refine Calls.mono (wpair_any p.l p.w [120] _ ⟨by (try dsimp only); omega, by (try dsimp only); omega⟩ ⟨by (try dsimp only); omega, by (try dsimp only); omega⟩ (by simp) (hT.mem0 M)) ?_
  clear T; rintro e wc ⟨rfl, hb⟩ ac T
  replace M := M.call hb; clear hb
  have hiu5 := itoa_len (v := p.l) ⟨by (try dsimp only); omega, by (try dsimp only); omega⟩
  have hju5 := itoa_len (v := p.w) ⟨by (try dsimp only); omega, by (try dsimp only); omega⟩
  refine Zso hK _ _ (M.perm [0] rfl rfl) ?_; clear hK K
  refine gq T 7 13055 rfl (fun _ _ _ _ _ => (rn_sadd rfl evc (T.e 0 rfl) (by (try simp only [List.length_append, List.length_cons, List.length_nil]); omega))) ?_; clear T ac; intro ac T
  refine gq T 8 13311 rfl (fun _ _ _ _ _ => (rn_sadd rfl (T.e 0 rfl) evc (by (try simp only [List.length_append, List.length_cons, List.length_nil]); omega))) ?_; clear T ac; intro ac T
  refine gq T 10 14335 rfl (fun _ _ _ _ _ => (rn_sadd rfl (T.e 0 rfl) (T.e 5 rfl) (by (try simp only [List.length_append, List.length_cons, List.length_nil]); omega))) ?_; clear T ac; intro ac T
  refine gq T 11 16383 rfl (fun _ _ _ _ _ => (rn_sadd rfl (T.e 0 rfl) evc (by (try simp only [List.length_append, List.length_cons, List.length_nil]); omega))) ?_; clear T ac; intro ac T
  refine gw 14 32767 ?_; intro K hK
  refine Zoc (first := []) (cap := []) T rfl rfl rfl rfl evf (.cons (T.e 5 rfl) .nil) Tryd.func60 rfl rfl ?_
  refine Calls.mono (Itoa_any p.pa _ (by (try dsimp only); omega) (hT.mem0 M)) ?_
  clear T; rintro e wc ⟨rfl, hb⟩ ac T
  replace M := M.call hb; clear hb
  have hiu6 := itoa_len (v := p.pa) ⟨by (try dsimp only); omega, by (try dsimp only); omega⟩
  refine Zso hK _ _ (M.perm [0] rfl rfl) ?_; clear hK K
  refine gq T 15 65535 rfl (fun _ _ _ _ _ => (rn_sadd rfl (T.e 1 rfl) (T.e 0 rfl) (by (try simp only [List.length_append, List.length_cons, List.length_nil]); omega))) ?_; clear T ac; intro ac T
  refine gw 16 131071 ?_; intro K hK
  refine ow_bs (e := 9) [sv (((((([98, 108, 97, 110, 107, 32]) ++ (Lib.itoa p.l ++ [120] ++ Lib.itoa p.w)) ++ ([32])) ++ wd) ++ ([32])) ++ (Lib.itoa p.pa))] M T rfl rfl rfl rfl (.cons (T.e 0 rfl) .nil) (fun _ => by kernel_rfl) ?_; clear M T; intro g4 wc ac M T
  refine Zso hK _ _ (M.perm [1] rfl rfl) ?_; clear hK K
  refine gw 17 262143 ?_; intro K hK
  refine ow_app ([(g4, .cells [sv (((((([98, 108, 97, 110, 107, 32]) ++ (Lib.itoa p.l ++ [120] ++ Lib.itoa p.w)) ++ ([32])) ++ wd) ++ ([32])) ++ (Lib.itoa p.pa))]), (g3, .cells [.int .i64 p.l, .int .i64 p.w, .bool p.gr, .int .i64 p.pa])]) Tryd.info9 hsl M (by first | rfl | simp) T rfl rfl rfl rfl Tryd.underlying134 rfl rfl rfl (by omega) (T.e 16 rfl) (T.e 0 rfl) (Zne (i := 0) rfl) rfl rfl ?_; clear M T; intro ga1 cga1 wc ac M T
  refine Zso hK _ _ (M.mask [false, false, true] rfl) ?_; clear hK K
  refine g_q (v := (.slice (some ⟨ga1, 0, none⟩) ((k + 1) + 1) cga1)) (T := T.pick [0, 1, 2, 3, 4, 5, 6, 7, 8, 9, 10, 11, 12, 13, 14, 15, 16, 17, 18, 20, 21, 22, 23, 24] rfl) (i := 18) rfl (by kernel_rfl) (by kernel_rfl : (Zpb 19 262143).setIfInBounds 18 true = Zpb 19 524287) si_U (fun _ _ _ h => h) rfl rfl rfl rfl (fun _ _ _ _ _ => (Zra rfl (T.e 0 rfl))) ?_; clear T ac; intro ac T
  refine Zgd (by kernel_rfl) ?_
  replace T := T.pick [0, 19, 22, 23, 24] rfl
  replace M := M.mask [true, false, false] rfl
  refine Znb ?_
  refine nm_then ?_
  refine wp_region_lit ?_
  refine lq T (rn_add rfl (T.e 4 rfl) evc (by omega)) ?_; clear T ac; intro ac T
  refine l_q (v := (.int .i64 ((k : Int) + 1))) (T.pick [0, 1, 2, 3, 4] rfl) rfl rfl rfl rfl (Zrm rfl (T.e 0 rfl)) ?_; clear T ac; intro ac T
  replace T := T.pick [0, 2, 3, 4, 5] rfl
  refine Zln ?_
  have e8 : ((st (rowsT s k)) ++ [sv (((((([98, 108, 97, 110, 107, 32]) ++ (Lib.itoa p.l ++ [120] ++ Lib.itoa p.w)) ++ ([32])) ++ wd) ++ ([32])) ++ (Lib.itoa p.pa))]) = st (rowsT s (k + 1)) := by rw [rowsT_snoc hkp, ← st_snoc, hwd]; simp [partT, blankW]
  rw [e8] at M
  clear e8
  exact ⟨_, by omega, k + 1, _, _, [(ga1, .row 9 1 (k + 1 + 1) (st (rowsT s (k + 1))) cga1)], rfl, (by omega), (Sl.row _ _ _ _ _ _), T.pick [2, 1, 3, 4, 0] rfl, M.perm [0] rfl rfl⟩
 intro h2
 refine wp_exit ?_
 refine Zet ?_
 refine Zet ?_
 refine ex_hit ?_
 refine nm_then ?_
 refine Zsr ?_
 refine lq T (Zrm rfl (T.e 2 rfl)) ?_; clear T ac; intro ac T
 refine Zl2 ?_
 refine ow_bs (e := 9) [sv ([115, 97, 119, 110])] M T rfl rfl rfl rfl (.cons evc .nil) (fun _ => by kernel_rfl) ?_; clear M T; intro g5 wc ac M T
 refine Zl2 ?_
 refine ow_app ([(g5, .cells [sv ([115, 97, 119, 110])])]) Tryd.info9 hsl M (by first | rfl | simp) T rfl rfl rfl rfl Tryd.underlying134 rfl rfl rfl (by omega) (T.e 1 rfl) (T.e 0 rfl) (Zne (i := 0) rfl) rfl rfl ?_; clear M T; intro ga2 cga2 wc ac M T
 refine Zl2 ?_
 have hk9 : k = s.ps.length := by omega
 have e8 : ((st (rowsT s k)) ++ [sv ([115, 97, 119, 110])]) = st (rowsT s s.ps.length ++ [sawnW]) := by rw [← hk9, ← st_snoc]; rfl
 rw [e8] at M
 have hrl := rows_len hsn hs5
 have hrn := rowsT_len (s := s) (k := s.ps.length) (Nat.le_refl _)
 refine Zoc (first := []) (cap := []) T rfl rfl rfl rfl evf (.cons (T.e 0 rfl) (.cons evc .nil)) Tryd.func61 rfl rfl ?_
 refine Calls.mono (JoinR_any (rowsT s s.ps.length ++ [sawnW]) M (Zne (i := 0) rfl) (by rw [List.length_append, hrn, List.length_singleton]; omega) (by omega) (by rw [List.length_append, hrn, List.length_singleton]; omega)) ?_
 clear T; rintro e wc ⟨rfl, hb⟩ ac T
 replace M := M.call hb; clear hb
 refine Zg3 T (Zq (rn_sadd rfl (T.e 0 rfl) evc (by (try simp only [List.length_append, List.length_cons, List.length_nil]); omega))) rfl (Za 0 rfl rfl) rfl (Zc rfl) rfl ?_; clear T ac; intro ac T
 refine wpList_nil ?_
 replace T := T.pick [0, 1] rfl
 replace M := M.mask [true, false] rfl
 refine Znr ?_
 refine rt_2 T rfl (T.e 1 rfl) (T.e 0 rfl) ?_
 have e9 : joinC 10 (rowsT s s.ps.length ++ [sawnW]) ++ [10] = wrS s := by unfold wrS; rw [if_pos (by omega), write_is]
 have e8 : skErr s = 0 := by omega
 rw [e9, e8]
 exact ⟨rfl, M.below⟩
theorem kn_write : wrS ({ prdS with ps := [⟨3, 2, false, 1⟩] } : Sk) = [115, 104, 101, 101, 116, 32, 54, 120, 51, 32, 48, 126, 49, 32, 48, 126, 48, 10, 98, 108, 97, 110, 107, 32, 51, 120, 50, 32, 97, 110, 121, 32, 49, 10, 115, 97, 119, 110, 10] ∧ skErr ({ prdS with ps := [⟨3, 2, false, 1⟩] } : Sk) = 0 := by
 have h : skErr ({ prdS with ps := [⟨3, 2, false, 1⟩] } : Sk) = 0 := by decide +kernel
 refine ⟨?_, h⟩
 unfold wrS
 rw [if_pos h]
 decide +kernel
theorem kn_wr (A : Option Addr) (c : Nat) (l : List Pt) (hl : l = [⟨3, 2, false, 1⟩]) (w : World) (hr : Rd w w.heap.size 4 A l.length (pc l)) (hS : StrW w) :
  Calls Tryd.prog 28 #[.agg #[.int .i64 prdS.lo, .int .i64 prdS.wi, .int .i64 prdS.a0, .int .i64 prdS.a1, .int .i64 prdS.c0, .int .i64 prdS.c1, .slice A l.length c]] w fun e w' => e = .returned (.tuple #[sv [115, 104, 101, 101, 116, 32, 54, 120, 51, 32, 48, 126, 49, 32, 48, 126, 48, 10, 98, 108, 97, 110, 107, 32, 51, 120, 50, 32, 97, 110, 121, 32, 49, 10, 115, 97, 119, 110, 10], .int .i64 0]) ∧ Below w.heap.size w w' := by
 subst hl
 have h := swrite_any ({ prdS with ps := [⟨3, 2, false, 1⟩] } : Sk) A c w hr (by decide) hS
 rw [kn_write.1, kn_write.2] at h
 exact h
set_option maxHeartbeats 16000000 in
theorem SheetKnown_any  (w : World) (hT : TabW w) (hS : StrW w) :
   Calls Tryd.prog 4 #[] w fun e w' => e = .returned (.bool true) ∧ Below w.heap.size w w' := by
 refine Zpx noEx Tryd.func4 rfl 434 rfl [] rfl rfl (Mem.init w _) ?_
 intro ac wc T M
 refine Zsr ?_
 refine lq T (Zra rfl evc) ?_; clear T ac; intro ac T
 replace T := T.pick [] rfl
 refine Zln ?_
 refine Zsr ?_
 refine Zl2 ?_
 refine Zoc (first := []) (cap := []) T rfl rfl rfl rfl evf .nil Tryd.func13 rfl rfl ?_
 refine Calls.mono (stock_any _) ?_
 clear T; rintro e wc ⟨gsu1, rfl, N⟩ ac T
 replace M := M.join N; clear N
 replace M := M.mask [true] rfl
 refine Zl2 ?_
 refine Zoc (first := []) (cap := []) T rfl rfl rfl rfl evf .nil Tryd.func13 rfl rfl ?_
 refine Calls.mono (stock_any _) ?_
 clear T; rintro e wc ⟨gsu2, rfl, N⟩ ac T
 replace M := M.join N; clear N
 replace M := M.mask [true, true] rfl
 refine Zl2 ?_
 refine Zoc (first := []) (cap := []) T rfl rfl rfl rfl evf .nil Tryd.func13 rfl rfl ?_
 refine Calls.mono (stock_any _) ?_
 clear T; rintro e wc ⟨gsu3, rfl, N⟩ ac T
 replace M := M.join N; clear N
 replace M := M.mask [true, true, true] rfl
 refine Zl2 ?_
 refine Zoc (first := []) (cap := []) T rfl rfl rfl rfl evf .nil Tryd.func13 rfl rfl ?_
 refine Calls.mono (stock_any _) ?_
 clear T; rintro e wc ⟨gsu4, rfl, N⟩ ac T
 replace M := M.join N; clear N
 replace M := M.mask [true, true, true, true] rfl
 refine Zl2 ?_
 refine Zoc (first := []) (cap := []) T rfl rfl rfl rfl evf .nil Tryd.func13 rfl rfl ?_
 refine Calls.mono (stock_any _) ?_
 clear T; rintro e wc ⟨gsu5, rfl, N⟩ ac T
 replace M := M.join N; clear N
 replace M := M.mask [true, true, true, true, true] rfl
 refine Zl2 ?_
 refine Zoa M T rfl rfl rfl rfl ?_; clear M T; intro g1 wc ac M T
 refine Zl2 ?_
 refine Zoa M T rfl rfl rfl rfl ?_; clear M T; intro g2 wc ac M T
 refine Zl2 ?_
 refine Zoa M T rfl rfl rfl rfl ?_; clear M T; intro g3 wc ac M T
 refine Zl2 ?_
 refine Zoa M T rfl rfl rfl rfl ?_; clear M T; intro g4 wc ac M T
 refine Zl2 ?_
 refine Zoa M T rfl rfl rfl rfl ?_; clear M T; intro g5 wc ac M T
 refine Zl2 ?_
 refine Zos M T rfl rfl (T.e 4 rfl) (T.e 9 rfl) rfl (.tail (.tail (.tail (.tail .head)))) rfl (by simp) rfl (by kernel_rfl) ?_; clear M T; intro wc ac M T
 refine Zl2 ?_
 refine Zos M T rfl rfl (T.e 3 rfl) (T.e 8 rfl) rfl (.tail (.tail (.tail .head))) rfl (by simp) rfl (by kernel_rfl) ?_; clear M T; intro wc ac M T
 refine Zl2 ?_
 refine Zos M T rfl rfl (T.e 2 rfl) (T.e 7 rfl) rfl (.tail (.tail .head)) rfl (by simp) rfl (by kernel_rfl) ?_; clear M T; intro wc ac M T
 refine Zl2 ?_
 refine Zos M T rfl rfl (T.e 1 rfl) (T.e 6 rfl) rfl (.tail .head) rfl (by simp) rfl (by kernel_rfl) ?_; clear M T; intro wc ac M T
 refine Zl2 ?_
 refine Zos M T rfl rfl (T.e 0 rfl) (T.e 5 rfl) rfl .head rfl (by simp) rfl (by kernel_rfl) ?_; clear M T; intro wc ac M T
 replace T := T.pick [0, 1, 2, 3, 4] rfl
 refine Zln ?_
 refine wp_seq ?_
 refine Zgs M (M.perm [] rfl rfl) 15 (by kernel_rfl) rfl (by kernel_rfl) ?_
 clear M; intro wc M
 refine g_addG 5 M ?_
 refine g_addG 7 (M.perm [0, 1, 2, 3, 5, 6, 7, 8, 9] rfl rfl) ?_
 refine g_addG 9 (M.perm [0, 1, 2, 5, 6, 7, 8, 9] rfl rfl) ?_
 refine g_addG 12 (M.perm [0, 1, 5, 6, 7, 8, 9] rfl rfl) ?_
 refine g_have (fun ac wc => ∃ (lmgr2_3 : List Pt), (lmgr2_3 = List.replicate 6 ⟨0, 0, false, 0⟩) ∧ (lmgr2_3.length = 6) ∧ ∃ (gr2_3 : Nat), Tm ac 434 [(44, .slice (some ⟨gr2_3, 0, none⟩) 6 6), (46, .pointer (some ⟨g2, 2, none⟩)), (43, .agg #[.int .i64 2, .int .i64 1]), (45, .pointer (some ⟨g1, 0, none⟩)), (42, .slice (some ⟨gsu4, 0, none⟩) stkS.ps.length 3), (41, .pointer (some ⟨g4, 6, none⟩)), (5, .pointer (some ⟨g5, 0, none⟩)), (4, .pointer (some ⟨g4, 0, none⟩)), (3, .pointer (some ⟨g3, 0, none⟩)), (2, .pointer (some ⟨g2, 0, none⟩)), (1, .pointer (some ⟨g1, 0, none⟩))] ∧ Mem w noEx wc [(gr2_3, .cells (pc lmgr2_3 ++ [])), (g5, .cells [.int .i64 stkS.lo, .int .i64 stkS.wi, .int .i64 stkS.a0, .int .i64 stkS.a1, .int .i64 stkS.c0, .int .i64 stkS.c1, .slice (some ⟨gsu5, 0, none⟩) stkS.ps.length 3]), (g4, .cells [.int .i64 stkS.lo, .int .i64 stkS.wi, .int .i64 stkS.a0, .int .i64 stkS.a1, .int .i64 stkS.c0, .int .i64 stkS.c1, .slice (some ⟨gsu4, 0, none⟩) stkS.ps.length 3]), (g3, .cells [.int .i64 stkS.lo, .int .i64 stkS.wi, .int .i64 stkS.a0, .int .i64 stkS.a1, .int .i64 stkS.c0, .int .i64 stkS.c1, .slice (some ⟨gsu3, 0, none⟩) stkS.ps.length 3]), (g2, .cells [.int .i64 stkS.lo, .int .i64 stkS.wi, .int .i64 2, .int .i64 1, .int .i64 stkS.c0, .int .i64 stkS.c1, .slice (some ⟨gsu2, 0, none⟩) stkS.ps.length 3]), (g1, .cells [.int .i64 13, .int .i64 stkS.wi, .int .i64 stkS.a0, .int .i64 stkS.a1, .int .i64 stkS.c0, .int .i64 stkS.c1, .slice (some ⟨gsu1, 0, none⟩) stkS.ps.length 3]), (gsu5, .cells [.int .i64 3, .int .i64 2, .bool false, .int .i64 0, .int .i64 2, .int .i64 3, .bool true, .int .i64 0, .int .i64 4, .int .i64 1, .bool false, .int .i64 0]), (gsu4, .cells [.int .i64 3, .int .i64 2, .bool false, .int .i64 0, .int .i64 2, .int .i64 3, .bool true, .int .i64 0, .int .i64 4, .int .i64 1, .bool false, .int .i64 0]), (gsu3, .cells [.int .i64 3, .int .i64 2, .bool false, .int .i64 0, .int .i64 2, .int .i64 3, .bool true, .int .i64 0, .int .i64 4, .int .i64 1, .bool false, .int .i64 0]), (gsu2, .cells [.int .i64 3, .int .i64 2, .bool false, .int .i64 0, .int .i64 2, .int .i64 3, .bool true, .int .i64 0, .int .i64 4, .int .i64 1, .bool false, .int .i64 0]), (gsu1, .cells [.int .i64 3, .int .i64 2, .bool false, .int .i64 0, .int .i64 2, .int .i64 3, .bool true, .int .i64 0, .int .i64 4, .int .i64 1, .bool false, .int .i64 0])]) (Zpb 15 255) 7 ?_ ?_
 ·clear T M
  rintro ac wc ⟨lmgr2_3, hlmgr2_3, llmgr2_3, gr2_3, T, M⟩
  refine gq (v := (.pointer (some ⟨g3, 6, none⟩))) T 8 511 rfl (fun _ _ _ _ _ => (Zrf (off := 6) rfl (T.e 8 rfl) (fun _ _ _ => by kernel_rfl))) ?_; clear T ac; intro ac T
  refine gw 9 1023 ?_; intro K hK
  refine Zos M T rfl rfl (T.e 0 rfl) (T.e 1 rfl) rfl (.tail (.tail (.tail .head))) rfl (by simp) rfl (by kernel_rfl) ?_; clear M T; intro wc ac M T
  refine Zso hK _ _ (MA.mk (fun _ => M.mask [false, true, true, false, false, false, true, true, true, true, true] rfl) (MA.mk (fun h => (no_of (by kernel_rfl) h).elim) (MA.mk (fun h => (no_of (by kernel_rfl) h).elim) (MA.mk (fun h => (no_of (by kernel_rfl) h).elim) (M.mask [false, false, false, false, false, false, false, false, false, false, false] rfl))))) ?_; clear hK K
  refine gq (v := (.pointer (some ⟨gsu4, 0, none⟩))) T 10 2047 rfl (fun _ _ _ _ _ => (Zri (size := 4) 0 rfl (T.e 5 rfl) evc ⟨_, Tryd.underlying27, by kernel_rfl⟩ rfl (by decide) rfl)) ?_; clear T ac; intro ac T
  refine gq (v := (.pointer (some ⟨gsu4, 3, none⟩))) T 11 4095 rfl (fun _ _ _ _ _ => (Zrf (off := 3) rfl (T.e 0 rfl) (fun _ _ _ => by kernel_rfl))) ?_; clear T ac; intro ac T
  refine gw 12 8191 ?_; intro K hK
  refine Zos M T rfl rfl (T.e 0 rfl) evc rfl (.tail (.tail (.tail (.tail (.tail (.tail (.tail .head))))))) rfl (by simp) rfl (by kernel_rfl) ?_; clear M T; intro wc ac M T
  refine Zso hK _ _ (MA.mk (fun h => (no_of (by kernel_rfl) h).elim) (MA.mk (fun h => (no_of (by kernel_rfl) h).elim) (MA.mk (fun h => (no_of (by kernel_rfl) h).elim) (MA.mk (fun h => (no_of (by kernel_rfl) h).elim) (M.mask [false, false, false, false, false, false, false, false, false, false, false] rfl))))) ?_; clear hK K
  refine gq (v := (.pointer (some ⟨g5, 0, none⟩))) T 13 16383 rfl (fun _ _ _ _ _ => (Zrf (off := 0) rfl (T.e 9 rfl) (fun _ _ _ => by kernel_rfl))) ?_; clear T ac; intro ac T
  refine gw 14 32767 ?_; intro K hK
  refine Zos M T rfl rfl (T.e 0 rfl) evc rfl (.tail .head) rfl (by simp) rfl (by kernel_rfl) ?_; clear M T; intro wc ac M T
  refine Zso hK _ _ (MA.mk (fun h => (no_of (by kernel_rfl) h).elim) (MA.mk (fun h => (no_of (by kernel_rfl) h).elim) (MA.mk (fun h => (no_of (by kernel_rfl) h).elim) (MA.mk (fun h => (no_of (by kernel_rfl) h).elim) (M.mask [false, false, false, false, false, false, false, false, false, false, false] rfl))))) ?_; clear hK K
  refine Zgd (by kernel_rfl) ?_
  replace T := T.pick [10, 11, 12, 13, 14] rfl
  replace M := M.mask [true, true, true, true, true, true, true, true, false, true, true] rfl
  refine Zns ?_
  refine Zsr ?_
  refine Zl2 ?_
  refine Zoc (first := []) (cap := []) T rfl rfl rfl rfl evf .nil Tryd.func15 rfl rfl ?_
  refine Calls.mono (sawn8_any _ (hT.mem M (fun h => h))) ?_
  clear T; rintro e wc ⟨rfl, hb⟩ ac T
  replace M := M.call hb; clear hb
  refine Zg2 (v1 := (.bool false)) T (Zq (Zrq (rn_not rfl (T.e 0 rfl)) (by simp))) rfl (Zm 0 rfl rfl) rfl ?_; clear T ac; intro ac T
  refine l_w (Zwy rfl rfl (T.e 0 rfl) rfl) ?_; intro K hK
  refine Zoc (first := []) (cap := []) T rfl rfl rfl rfl evf .nil Tryd.func13 rfl rfl ?_
  refine Calls.mono (stock_any _) ?_
  clear T; rintro e wc ⟨gsu7, rfl, N⟩ ac T
  replace M := M.join N; clear N
  replace M := M.mask [true, true, true, true, true, true, true, true, true, true, true] rfl
  refine Zso hK _ _ ?_; clear hK K
  refine l_w (Zwy rfl rfl (T.e 1 rfl) rfl) ?_; intro K hK
  refine Zoc (first := []) (cap := []) T rfl rfl rfl rfl evf (.cons (T.e 0 rfl) .nil) Tryd.func16 rfl rfl ?_
  refine Calls.mono (skCheck_any stkS (some ⟨gsu7, 0, none⟩) 3 _ (M.rdOwn (Zne (i := 0) rfl) rfl rfl) (by decide)) ?_
  clear T; rintro e wc ⟨rfl, hb⟩ ac T
  rw [st_err] at T
  replace M := M.call hb; clear hb
  refine Zso hK _ _ ?_; clear hK K
  refine Zg4 (v1 := (.bool false)) T (Zw (Zwy rfl rfl (T.e 2 rfl) rfl) (Zrq (rn_neq rfl (T.e 0 rfl) evc) (by simp))) rfl (fun _ T => Zq (Zr0 rfl (T.e 3 rfl) rfl (T.e 0 rfl))) rfl (Zm 0 rfl rfl) rfl (fun _ T => Zw (Zwy rfl rfl (T.e 0 rfl) rfl) (Zrr (Mem.nth M 6 rfl) rfl (T.e 12 rfl) rfl)) rfl ?_; clear T ac; intro ac T
  refine l_w (Zwy rfl rfl (T.e 1 rfl) rfl) ?_; intro K hK
  refine Zoc (first := []) (cap := []) T rfl rfl rfl rfl evf (.cons (T.e 0 rfl) .nil) Tryd.func16 rfl rfl ?_
  refine Calls.mono (skCheck_any ({ stkS with lo := 13 } : Sk) (some ⟨gsu1, 0, none⟩) 3 _ (M.rdOwn (Zne (i := 10) rfl) rfl rfl) (by decide)) ?_
  clear T; rintro e wc ⟨rfl, hb⟩ ac T
  rw [kn_chk.1] at T
  replace M := M.call hb; clear hb
  refine Zso hK _ _ ?_; clear hK K
  refine Zg4 (v1 := (.bool false)) T (Zw (Zwy rfl rfl (T.e 2 rfl) rfl) (Zrq (rn_neq rfl (T.e 0 rfl) evc) (by simp))) rfl (fun _ T => Zq (Zr0 rfl (T.e 3 rfl) rfl (T.e 0 rfl))) rfl (Zm 0 rfl rfl) rfl (fun _ T => Zw (Zwy rfl rfl (T.e 0 rfl) rfl) (Zrr (Mem.nth M 5 rfl) rfl (T.e 16 rfl) rfl)) rfl ?_; clear T ac; intro ac T
  refine l_w (Zwy rfl rfl (T.e 1 rfl) rfl) ?_; intro K hK
  refine Zoc (first := []) (cap := []) T rfl rfl rfl rfl evf (.cons (T.e 0 rfl) .nil) Tryd.func16 rfl rfl ?_
  refine Calls.mono (skCheck_any ({ stkS with a0 := 2, a1 := 1 } : Sk) (some ⟨gsu2, 0, none⟩) 3 _ (M.rdOwn (Zne (i := 9) rfl) rfl rfl) (by decide)) ?_
  clear T; rintro e wc ⟨rfl, hb⟩ ac T
  rw [kn_chk.2.1] at T
  replace M := M.call hb; clear hb
  refine Zso hK _ _ ?_; clear hK K
  refine Zg4 (v1 := (.bool false)) T (Zw (Zwy rfl rfl (T.e 2 rfl) rfl) (Zrq (rn_neq rfl (T.e 0 rfl) evc) (by simp))) rfl (fun _ T => Zq (Zr0 rfl (T.e 3 rfl) rfl (T.e 0 rfl))) rfl (Zm 0 rfl rfl) rfl (fun _ T => Zw (Zwy rfl rfl (T.e 0 rfl) rfl) (Zrr (Mem.nth M 4 rfl) rfl (T.e 20 rfl) rfl)) rfl ?_; clear T ac; intro ac T
  refine l_w (Zwy rfl rfl (T.e 1 rfl) rfl) ?_; intro K hK
  refine Zoc (first := []) (cap := []) T rfl rfl rfl rfl evf (.cons (T.e 0 rfl) .nil) Tryd.func16 rfl rfl ?_
  refine Calls.mono (skCheck_any ({ stkS with ps := List.replicate 6 ⟨0, 0, false, 0⟩ } : Sk) (some ⟨gr2_3, 0, none⟩) 6 _ (by have h9 := (Sp.pre (w := w) (ex := noEx) (size := 4) (n := lmgr2_3.length) (g := gr2_3) (xs := pc lmgr2_3) (ys := []) (by simp [pc_length])).rd M (.cons _ (List.Sublist.cons_cons _ (Zz9 _))); rw [hlmgr2_3] at h9; exact h9) (by decide)) ?_
  clear T; rintro e wc ⟨rfl, hb⟩ ac T
  rw [kn_chk.2.2.1] at T
  replace M := M.call hb; clear hb
  refine Zso hK _ _ ?_; clear hK K
  refine Zg4 (v1 := (.bool false)) T (Zw (Zwy rfl rfl (T.e 2 rfl) rfl) (Zrq (rn_neq rfl (T.e 0 rfl) evc) (by simp))) rfl (fun _ T => Zq (Zr0 rfl (T.e 3 rfl) rfl (T.e 0 rfl))) rfl (Zm 0 rfl rfl) rfl (fun _ T => Zw (Zwy rfl rfl (T.e 0 rfl) rfl) (Zrr (Mem.nth M 3 rfl) rfl (T.e 24 rfl) rfl)) rfl ?_; clear T ac; intro ac T
  refine l_w (Zwy rfl rfl (T.e 1 rfl) rfl) ?_; intro K hK
  refine Zoc (first := []) (cap := []) T rfl rfl rfl rfl evf (.cons (T.e 0 rfl) .nil) Tryd.func16 rfl rfl ?_
  refine Calls.mono (skCheck_any ({ stkS with ps := [⟨3, 2, false, 4⟩, ⟨2, 3, true, 0⟩, ⟨4, 1, false, 0⟩] } : Sk) (some ⟨gsu4, 0, none⟩) 3 _ (M.rdOwn (Zne (i := 8) rfl) rfl rfl) (by decide)) ?_
  clear T; rintro e wc ⟨rfl, hb⟩ ac T
  rw [kn_chk.2.2.2] at T
  replace M := M.call hb; clear hb
  refine Zso hK _ _ ?_; clear hK K
  refine Zg2 (v1 := (.bool false)) T (Zw (Zwy rfl rfl (T.e 2 rfl) rfl) (Zrq (rn_neq rfl (T.e 0 rfl) evc) (by simp))) rfl (fun _ T => Zq (Zr0 rfl (T.e 3 rfl) rfl (T.e 0 rfl))) rfl ?_; clear T ac; intro ac T
  refine wpList_nil ?_
  replace T := T.pick [0, 27] rfl
  replace M := M.mask [false, true, true, false, false, false, false, true, false, false, false] rfl
  refine nm_then ?_
  refine wp_cond_false (T.e 0 rfl) ?_
  refine Zsk ?_
  refine Zsr ?_
  refine Zl2 ?_
  refine Zoc (first := []) (cap := []) T rfl rfl rfl rfl evf .nil Tryd.func13 rfl rfl ?_
  refine Calls.mono (stock_any _) ?_
  clear T; rintro e wc ⟨gsu13, rfl, N⟩ ac T
  replace M := M.join N; clear N
  replace M := M.mask [true, true, true, true] rfl
  refine Zl2 ?_
  refine Zoc (first := []) (cap := []) T rfl rfl rfl rfl evf (.cons (T.e 0 rfl) (.cons evc (.cons evc (.cons evc .nil)))) Tryd.func17 rfl rfl ?_
  refine Calls.mono (Size_any stkS (some ⟨gsu13, 0, none⟩) 3 0 false true _ (M.rdOwn (Zne (i := 0) rfl) rfl rfl) (by decide)) ?_
  clear T; rintro e wc ⟨rfl, hb⟩ ac T
  rw [kn_size.2.1, kn_size.2.2.1, kn_size.1] at T
  replace M := M.call hb; clear hb
  refine Zg7 T (Zq (Zrm rfl (T.e 0 rfl))) rfl (Ze 0 rfl rfl rfl) rfl (Ze 1 rfl rfl rfl) rfl (Ze 2 rfl rfl rfl) rfl (Za 2 rfl rfl) rfl (Za 2 rfl rfl) rfl (Za 2 rfl rfl) rfl ?_; clear T ac; intro ac T
  refine wpList_nil ?_
  replace T := T.pick [0, 1, 2, 10] rfl
  replace M := M.mask [false, true, true, true] rfl
  refine nm_then ?_
  refine Zsr ?_
  refine Zl2 ?_
  refine Zoc (first := []) (cap := []) T rfl rfl rfl rfl evf .nil Tryd.func13 rfl rfl ?_
  refine Calls.mono (stock_any _) ?_
  clear T; rintro e wc ⟨gsu15, rfl, N⟩ ac T
  replace M := M.join N; clear N
  replace M := M.mask [true, true, true, true] rfl
  refine Zl2 ?_
  refine Zoc (first := []) (cap := []) T rfl rfl rfl rfl evf (.cons (T.e 0 rfl) (.cons evc (.cons evc (.cons evc .nil)))) Tryd.func17 rfl rfl ?_
  refine Calls.mono (Size_any stkS (some ⟨gsu15, 0, none⟩) 3 0 true true _ (M.rdOwn (Zne (i := 0) rfl) rfl rfl) (by decide)) ?_
  clear T; rintro e wc ⟨rfl, hb⟩ ac T
  rw [kn_size.2.2.2.2.1, kn_size.2.2.2.2.2.1, kn_size.2.2.2.1] at T
  replace M := M.call hb; clear hb
  refine Zg7 T (Zq (Zrm rfl (T.e 0 rfl))) rfl (Ze 0 rfl rfl rfl) rfl (Ze 1 rfl rfl rfl) rfl (Ze 2 rfl rfl rfl) rfl (Za 2 rfl rfl) rfl (Za 2 rfl rfl) rfl (Za 2 rfl rfl) rfl ?_; clear T ac; intro ac T
  refine wpList_nil ?_
  replace T := T.pick [0, 1, 2, 9, 10, 11, 12] rfl
  replace M := M.mask [false, true, true, true] rfl
  refine nm_then ?_
  refine Zsr ?_
  refine Zl2 ?_
  refine Zoc (first := []) (cap := []) T rfl rfl rfl rfl evf .nil Tryd.func13 rfl rfl ?_
  refine Calls.mono (stock_any _) ?_
  clear T; rintro e wc ⟨gsu17, rfl, N⟩ ac T
  replace M := M.join N; clear N
  replace M := M.mask [true, true, true, true] rfl
  refine Zl2 ?_
  refine Zoc (first := []) (cap := []) T rfl rfl rfl rfl evf (.cons (T.e 0 rfl) (.cons evc (.cons evc (.cons evc .nil)))) Tryd.func17 rfl rfl ?_
  refine Calls.mono (Size_any stkS (some ⟨gsu17, 0, none⟩) 3 0 false false _ (M.rdOwn (Zne (i := 0) rfl) rfl rfl) (by decide)) ?_
  clear T; rintro e wc ⟨rfl, hb⟩ ac T
  rw [kn_size.2.2.2.2.2.2.1, kn_size.2.2.2.2.2.2.2.1, kn_size.1] at T
  replace M := M.call hb; clear hb
  refine Zg7 T (Zq (Zrm rfl (T.e 0 rfl))) rfl (Ze 0 rfl rfl rfl) rfl (Ze 1 rfl rfl rfl) rfl (Ze 2 rfl rfl rfl) rfl (Za 2 rfl rfl) rfl (Za 2 rfl rfl) rfl (Za 2 rfl rfl) rfl ?_; clear T ac; intro ac T
  refine wpList_nil ?_
  replace T := T.pick [0, 1, 2, 9, 10, 11, 12, 13, 14, 15] rfl
  replace M := M.mask [false, true, true, true] rfl
  refine nm_then ?_
  refine Zsr ?_
  refine Zl2 ?_
  refine Zoc (first := []) (cap := []) T rfl rfl rfl rfl evf .nil Tryd.func13 rfl rfl ?_
  refine Calls.mono (stock_any _) ?_
  clear T; rintro e wc ⟨gsu19, rfl, N⟩ ac T
  replace M := M.join N; clear N
  replace M := M.mask [true, true, true, true] rfl
  refine Zl2 ?_
  refine Zoc (first := []) (cap := []) T rfl rfl rfl rfl evf (.cons (T.e 0 rfl) (.cons evc (.cons evc (.cons evc .nil)))) Tryd.func17 rfl rfl ?_
  refine Calls.mono (Size_any stkS (some ⟨gsu19, 0, none⟩) 3 1 true true _ (M.rdOwn (Zne (i := 0) rfl) rfl rfl) (by decide)) ?_
  clear T; rintro e wc ⟨rfl, hb⟩ ac T
  rw [kn_size.2.2.2.2.2.2.2.2.2.1, kn_size.2.2.2.2.2.2.2.2.2.2, kn_size.2.2.2.2.2.2.2.2.1] at T
  replace M := M.call hb; clear hb
  refine Zg7 T (Zq (Zrm rfl (T.e 0 rfl))) rfl (Ze 0 rfl rfl rfl) rfl (Ze 1 rfl rfl rfl) rfl (Ze 2 rfl rfl rfl) rfl (Za 2 rfl rfl) rfl (Za 2 rfl rfl) rfl (Za 2 rfl rfl) rfl ?_; clear T ac; intro ac T
  refine wpList_nil ?_
  replace T := T.pick [0, 9, 10, 11, 12, 13, 14, 15, 16, 17, 18] rfl
  replace M := M.mask [false, true, true, true] rfl
  refine Zns ?_
  refine Zsr ?_
  refine Zg8 (v2 := (.bool false)) (v5 := (.bool false)) T (Zq (Zrm rfl (T.e 7 rfl))) rfl (fun _ T => Zq (Zrq (rn_neq rfl (T.e 0 rfl) evc) (by simp))) rfl (Zm 0 rfl rfl) rfl (fun _ T => Zw (Zwy rfl rfl (T.e 0 rfl) rfl) (Zrm rfl (T.e 7 rfl))) rfl (fun _ T => Zw (Zwy rfl rfl (T.e 1 rfl) rfl) (Zrq (rn_neq rfl (T.e 0 rfl) evc) (by simp))) rfl (fun _ T => Zq (Zr0 rfl (T.e 2 rfl) rfl (T.e 0 rfl))) rfl (Zm 0 rfl rfl) rfl (fun _ T => Zw (Zwy rfl rfl (T.e 0 rfl) rfl) (Zrm rfl (T.e 8 rfl))) rfl ?_; clear T ac; intro ac T
  refine Zg8 (v1 := (.bool false)) (v5 := (.bool false)) T (Zw (Zwy rfl rfl (T.e 1 rfl) rfl) (Zrq (rn_neq rfl (T.e 0 rfl) evc) (by simp))) rfl (fun _ T => Zq (Zr0 rfl (T.e 2 rfl) rfl (T.e 0 rfl))) rfl (Zm 0 rfl rfl) rfl (fun _ T => Zw (Zwy rfl rfl (T.e 0 rfl) rfl) (Zrm rfl (T.e 11 rfl))) rfl (fun _ T => Zw (Zwy rfl rfl (T.e 1 rfl) rfl) (Zrq (rn_neq rfl (T.e 0 rfl) evc) (by simp))) rfl (fun _ T => Zq (Zr0 rfl (T.e 2 rfl) rfl (T.e 0 rfl))) rfl (Zm 0 rfl rfl) rfl (fun _ T => Zw (Zwy rfl rfl (T.e 0 rfl) rfl) (Zrm rfl (T.e 24 rfl))) rfl ?_; clear T ac; intro ac T
  refine Zg8 (v1 := (.bool false)) (v5 := (.bool false)) T (Zw (Zwy rfl rfl (T.e 1 rfl) rfl) (Zrq (rn_neq rfl (T.e 0 rfl) evc) (by simp))) rfl (fun _ T => Zq (Zr0 rfl (T.e 2 rfl) rfl (T.e 0 rfl))) rfl (Zm 0 rfl rfl) rfl (fun _ T => Zw (Zwy rfl rfl (T.e 0 rfl) rfl) (Zrm rfl (T.e 27 rfl))) rfl (fun _ T => Zw (Zwy rfl rfl (T.e 1 rfl) rfl) (Zrq (rn_neq rfl (T.e 0 rfl) evc) (by simp))) rfl (fun _ T => Zq (Zr0 rfl (T.e 2 rfl) rfl (T.e 0 rfl))) rfl (Zm 0 rfl rfl) rfl (fun _ T => Zw (Zwy rfl rfl (T.e 0 rfl) rfl) (Zrm rfl (T.e 29 rfl))) rfl ?_; clear T ac; intro ac T
  refine Zg8 (v1 := (.bool false)) (v5 := (.bool false)) T (Zw (Zwy rfl rfl (T.e 1 rfl) rfl) (Zrq (rn_neq rfl (T.e 0 rfl) evc) (by simp))) rfl (fun _ T => Zq (Zr0 rfl (T.e 2 rfl) rfl (T.e 0 rfl))) rfl (Zm 0 rfl rfl) rfl (fun _ T => Zw (Zwy rfl rfl (T.e 0 rfl) rfl) (Zrm rfl (T.e 32 rfl))) rfl (fun _ T => Zw (Zwy rfl rfl (T.e 1 rfl) rfl) (Zrq (rn_neq rfl (T.e 0 rfl) evc) (by simp))) rfl (fun _ T => Zq (Zr0 rfl (T.e 2 rfl) rfl (T.e 0 rfl))) rfl (Zm 0 rfl rfl) rfl (fun _ T => Zw (Zwy rfl rfl (T.e 0 rfl) rfl) (Zrm rfl (T.e 34 rfl))) rfl ?_; clear T ac; intro ac T
  refine Zg6 (v1 := (.bool false)) (v5 := (.bool false)) T (Zw (Zwy rfl rfl (T.e 1 rfl) rfl) (Zrq (rn_neq rfl (T.e 0 rfl) evc) (by simp))) rfl (fun _ T => Zq (Zr0 rfl (T.e 2 rfl) rfl (T.e 0 rfl))) rfl (Zm 0 rfl rfl) rfl (fun _ T => Zw (Zwy rfl rfl (T.e 0 rfl) rfl) (Zrm rfl (T.e 37 rfl))) rfl (fun _ T => Zw (Zwy rfl rfl (T.e 1 rfl) rfl) (Zrq (rn_neq rfl (T.e 0 rfl) evc) (by simp))) rfl (fun _ T => Zq (Zr0 rfl (T.e 2 rfl) rfl (T.e 0 rfl))) rfl ?_; clear T ac; intro ac T
  replace T := T.pick [0, 48] rfl
  refine Zln ?_
  refine wp_cond_false (T.e 0 rfl) ?_
  refine Zsk ?_
  refine Zsr ?_
  refine Zl2 ?_
  refine Zoc (first := []) (cap := []) T rfl rfl rfl rfl evf .nil Tryd.func13 rfl rfl ?_
  refine Calls.mono (stock_any _) ?_
  clear T; rintro e wc ⟨gsu21, rfl, N⟩ ac T
  replace M := M.join N; clear N
  replace M := M.mask [true, true, true, true] rfl
  refine Zl2 ?_
  refine ow_bs (e := 3) [.int .i64 1, .int .i64 0] M T rfl rfl rfl rfl (.cons evc (.cons evc .nil)) (fun _ => by kernel_rfl) ?_; clear M T; intro g6 wc ac M T
  refine Zl2 ?_
  refine Zoc (first := []) (cap := []) T rfl rfl rfl rfl evf (.cons (T.e 1 rfl) (.cons (T.e 0 rfl) (.cons evc .nil))) Tryd.func18 rfl rfl ?_
  refine Calls.mono (Plan_any stkS (some ⟨gsu21, 0, none⟩) 3 (some ⟨g6, 0, none⟩) 2 ([1, 0]) true _ (M.rdOwn (Zne (i := 1) rfl) rfl rfl) (M.rdOwn (Zne (i := 0) rfl) rfl rfl) (by decide) (by decide) (by decide) (hT.mem M (fun h => h))) ?_
  clear T; rintro e wc ⟨APu22, cPu22, IPu22, rfl, hcpPu22, SVPu22, N⟩ ac T
  rw [kn_plan0.1] at SVPu22 hcpPu22
  rw [kn_plan0.1, kn_plan0.2] at T
  obtain ⟨bAPu22, oAPu22, SVPu22⟩ := SVPu22
  have SAPu22 := SVPu22 w noEx
  replace M := (M.join N).swapI
  clear N
  replace M : Mem w noEx wc ((g6, .cells [.int .i64 1, .int .i64 0]) :: (gsu21, .cells [.int .i64 3, .int .i64 2, .bool false, .int .i64 0, .int .i64 2, .int .i64 3, .bool true, .int .i64 0, .int .i64 4, .int .i64 1, .bool false, .int .i64 0]) :: (gr2_3, .cells (pc lmgr2_3 ++ [])) :: (g5, .cells [.int .i64 5, .int .i64 stkS.wi, .int .i64 stkS.a0, .int .i64 stkS.a1, .int .i64 stkS.c0, .int .i64 stkS.c1, .slice (some ⟨gsu5, 0, none⟩) stkS.ps.length 3]) :: (gsu5, .cells [.int .i64 3, .int .i64 2, .bool false, .int .i64 0, .int .i64 2, .int .i64 3, .bool true, .int .i64 0, .int .i64 4, .int .i64 1, .bool false, .int .i64 0]) :: IPu22) := M
  refine Zg5 T (Zq (Zrm rfl (T.e 0 rfl))) rfl (Ze 0 rfl rfl rfl) rfl (Ze 1 rfl rfl rfl) rfl (Za 1 rfl rfl) rfl (Za 1 rfl rfl) rfl ?_; clear T ac; intro ac T
  refine wpList_nil ?_
  replace T := T.pick [0, 1, 9] rfl
  replace M := M.mask [false, false, true, true, true] rfl
  refine nm_then ?_
  refine Zsr ?_
  refine Zl2 ?_
  refine Zoc (first := []) (cap := []) T rfl rfl rfl rfl evf .nil Tryd.func13 rfl rfl ?_
  refine Calls.mono (stock_any _) ?_
  clear T; rintro e wc ⟨gsu23, rfl, N⟩ ac T
  replace M := M.join N; clear N
  replace M := M.mask [true, true, true, true] rfl
  refine Zl2 ?_
  refine ow_bs (e := 3) [.int .i64 0, .int .i64 2] M T rfl rfl rfl rfl (.cons evc (.cons evc .nil)) (fun _ => by kernel_rfl) ?_; clear M T; intro g7 wc ac M T
  refine Zl2 ?_
  refine Zoc (first := []) (cap := []) T rfl rfl rfl rfl evf (.cons (T.e 1 rfl) (.cons (T.e 0 rfl) (.cons evc .nil))) Tryd.func18 rfl rfl ?_
  refine Calls.mono (Plan_any stkS (some ⟨gsu23, 0, none⟩) 3 (some ⟨g7, 0, none⟩) 2 ([0, 2]) true _ (M.rdOwn (Zne (i := 1) rfl) rfl rfl) (M.rdOwn (Zne (i := 0) rfl) rfl rfl) (by decide) (by decide) (by decide) (hT.mem M (fun h => h))) ?_
  clear T; rintro e wc ⟨APu24, cPu24, IPu24, rfl, hcpPu24, SVPu24, N⟩ ac T
  rw [kn_plan1.1] at SVPu24 hcpPu24
  rw [kn_plan1.1, kn_plan1.2] at T
  obtain ⟨bAPu24, oAPu24, SVPu24⟩ := SVPu24
  have SAPu24 := SVPu24 w noEx
  replace M := (M.join N).swapI
  clear N
  replace M : Mem w noEx wc ((g7, .cells [.int .i64 0, .int .i64 2]) :: (gsu23, .cells [.int .i64 3, .int .i64 2, .bool false, .int .i64 0, .int .i64 2, .int .i64 3, .bool true, .int .i64 0, .int .i64 4, .int .i64 1, .bool false, .int .i64 0]) :: (gr2_3, .cells (pc lmgr2_3 ++ [])) :: (g5, .cells [.int .i64 5, .int .i64 stkS.wi, .int .i64 stkS.a0, .int .i64 stkS.a1, .int .i64 stkS.c0, .int .i64 stkS.c1, .slice (some ⟨gsu5, 0, none⟩) stkS.ps.length 3]) :: (gsu5, .cells [.int .i64 3, .int .i64 2, .bool false, .int .i64 0, .int .i64 2, .int .i64 3, .bool true, .int .i64 0, .int .i64 4, .int .i64 1, .bool false, .int .i64 0]) :: (IPu22 ++ IPu24)) := M
  refine Zg5 T (Zq (Zrm rfl (T.e 0 rfl))) rfl (Ze 0 rfl rfl rfl) rfl (Ze 1 rfl rfl rfl) rfl (Za 1 rfl rfl) rfl (Za 1 rfl rfl) rfl ?_; clear T ac; intro ac T
  refine wpList_nil ?_
  replace T := T.pick [0, 1, 8, 9, 10] rfl
  replace M := M.mask [false, false, true, true, true] rfl
  refine nm_then ?_
  refine Zsr ?_
  refine Zl2 ?_
  refine Zoc (first := []) (cap := []) T rfl rfl rfl rfl evf .nil Tryd.func13 rfl rfl ?_
  refine Calls.mono (stock_any _) ?_
  clear T; rintro e wc ⟨gsu25, rfl, N⟩ ac T
  replace M := M.join N; clear N
  replace M := M.mask [true, true, true, true] rfl
  refine Zl2 ?_
  refine ow_bs (e := 3) [.int .i64 0, .int .i64 1, .int .i64 2] M T rfl rfl rfl rfl (.cons evc (.cons evc (.cons evc .nil))) (fun _ => by kernel_rfl) ?_; clear M T; intro g8 wc ac M T
  refine Zl2 ?_
  refine Zoc (first := []) (cap := []) T rfl rfl rfl rfl evf (.cons (T.e 1 rfl) (.cons (T.e 0 rfl) (.cons evc .nil))) Tryd.func18 rfl rfl ?_
  refine Calls.mono (Plan_any stkS (some ⟨gsu25, 0, none⟩) 3 (some ⟨g8, 0, none⟩) 3 ([0, 1, 2]) true _ (M.rdOwn (Zne (i := 1) rfl) rfl rfl) (M.rdOwn (Zne (i := 0) rfl) rfl rfl) (by decide) (by decide) (by decide) (hT.mem M (fun h => h))) ?_
  clear T; rintro e wc ⟨APu26, cPu26, IPu26, rfl, hcpPu26, SVPu26, N⟩ ac T
  rw [kn_plan2.1] at SVPu26 hcpPu26
  rw [kn_plan2.1, kn_plan2.2] at T
  obtain ⟨bAPu26, oAPu26, SVPu26⟩ := SVPu26
  have SAPu26 := SVPu26 w noEx
  replace M := (M.join N).swapI
  clear N
  replace M : Mem w noEx wc ((g8, .cells [.int .i64 0, .int .i64 1, .int .i64 2]) :: (gsu25, .cells [.int .i64 3, .int .i64 2, .bool false, .int .i64 0, .int .i64 2, .int .i64 3, .bool true, .int .i64 0, .int .i64 4, .int .i64 1, .bool false, .int .i64 0]) :: (gr2_3, .cells (pc lmgr2_3 ++ [])) :: (g5, .cells [.int .i64 5, .int .i64 stkS.wi, .int .i64 stkS.a0, .int .i64 stkS.a1, .int .i64 stkS.c0, .int .i64 stkS.c1, .slice (some ⟨gsu5, 0, none⟩) stkS.ps.length 3]) :: (gsu5, .cells [.int .i64 3, .int .i64 2, .bool false, .int .i64 0, .int .i64 2, .int .i64 3, .bool true, .int .i64 0, .int .i64 4, .int .i64 1, .bool false, .int .i64 0]) :: (IPu22 ++ IPu24 ++ IPu26)) := M
  refine Zg4 T (Zq (Zrm rfl (T.e 0 rfl))) rfl (Ze 0 rfl rfl rfl) rfl (Ze 1 rfl rfl rfl) rfl (Za 0 rfl rfl) rfl ?_; clear T ac; intro ac T
  refine wpList_nil ?_
  replace T := T.pick [0, 7, 8, 9, 10, 11] rfl
  replace M := M.mask [false, false, true, true, true] rfl
  replace M : Mem w noEx wc ((gr2_3, .cells (pc lmgr2_3 ++ [])) :: (g5, .cells [.int .i64 5, .int .i64 stkS.wi, .int .i64 stkS.a0, .int .i64 stkS.a1, .int .i64 stkS.c0, .int .i64 stkS.c1, .slice (some ⟨gsu5, 0, none⟩) stkS.ps.length 3]) :: (gsu5, .cells [.int .i64 3, .int .i64 2, .bool false, .int .i64 0, .int .i64 2, .int .i64 3, .bool true, .int .i64 0, .int .i64 4, .int .i64 1, .bool false, .int .i64 0]) :: (IPu22 ++ IPu24 ++ IPu26)) := M
  refine nm_then ?_
  refine Zsr ?_
  refine Zl2 ?_
  refine Zoc (first := []) (cap := []) T rfl rfl rfl rfl evf .nil Tryd.func13 rfl rfl ?_
  refine Calls.mono (stock_any _) ?_
  clear T; rintro e wc ⟨gsu27, rfl, N⟩ ac T
  replace M := M.join N; clear N
  replace M := M.mask [true, true, true, true] rfl
  refine Zl2 ?_
  refine ow_bs (e := 3) [.int .i64 0, .int .i64 1, .int .i64 2] M T rfl rfl rfl rfl (.cons evc (.cons evc (.cons evc .nil))) (fun _ => by kernel_rfl) ?_; clear M T; intro g9 wc ac M T
  refine Zl2 ?_
  refine Zoc (first := []) (cap := []) T rfl rfl rfl rfl evf (.cons (T.e 1 rfl) (.cons (T.e 0 rfl) (.cons evc .nil))) Tryd.func18 rfl rfl ?_
  refine Calls.mono (Plan_any stkS (some ⟨gsu27, 0, none⟩) 3 (some ⟨g9, 0, none⟩) 3 ([0, 1, 2]) false _ (M.rdOwn (Zne (i := 1) rfl) rfl rfl) (M.rdOwn (Zne (i := 0) rfl) rfl rfl) (by decide) (by decide) (by decide) (hT.mem M (fun h => h))) ?_
  clear T; rintro e wc ⟨APu28, cPu28, IPu28, rfl, hcpPu28, SVPu28, N⟩ ac T
  rw [kn_plan3.1] at SVPu28 hcpPu28
  rw [kn_plan3.1, kn_plan3.2] at T
  obtain ⟨bAPu28, oAPu28, SVPu28⟩ := SVPu28
  have SAPu28 := SVPu28 w noEx
  replace M := (M.join N).swapI
  clear N
  replace M : Mem w noEx wc ((g9, .cells [.int .i64 0, .int .i64 1, .int .i64 2]) :: (gsu27, .cells [.int .i64 3, .int .i64 2, .bool false, .int .i64 0, .int .i64 2, .int .i64 3, .bool true, .int .i64 0, .int .i64 4, .int .i64 1, .bool false, .int .i64 0]) :: (gr2_3, .cells (pc lmgr2_3 ++ [])) :: (g5, .cells [.int .i64 5, .int .i64 stkS.wi, .int .i64 stkS.a0, .int .i64 stkS.a1, .int .i64 stkS.c0, .int .i64 stkS.c1, .slice (some ⟨gsu5, 0, none⟩) stkS.ps.length 3]) :: (gsu5, .cells [.int .i64 3, .int .i64 2, .bool false, .int .i64 0, .int .i64 2, .int .i64 3, .bool true, .int .i64 0, .int .i64 4, .int .i64 1, .bool false, .int .i64 0]) :: (IPu22 ++ IPu24 ++ IPu26 ++ IPu28)) := M
  refine Zg5 T (Zq (Zrm rfl (T.e 0 rfl))) rfl (Ze 0 rfl rfl rfl) rfl (Ze 1 rfl rfl rfl) rfl (Za 1 rfl rfl) rfl (Za 1 rfl rfl) rfl ?_; clear T ac; intro ac T
  refine wpList_nil ?_
  replace T := T.pick [0, 1, 8, 9, 10, 11, 12, 13] rfl
  replace M := M.mask [false, false, true, true, true] rfl
  replace M : Mem w noEx wc ((gr2_3, .cells (pc lmgr2_3 ++ [])) :: (g5, .cells [.int .i64 5, .int .i64 stkS.wi, .int .i64 stkS.a0, .int .i64 stkS.a1, .int .i64 stkS.c0, .int .i64 stkS.c1, .slice (some ⟨gsu5, 0, none⟩) stkS.ps.length 3]) :: (gsu5, .cells [.int .i64 3, .int .i64 2, .bool false, .int .i64 0, .int .i64 2, .int .i64 3, .bool true, .int .i64 0, .int .i64 4, .int .i64 1, .bool false, .int .i64 0]) :: (IPu22 ++ IPu24 ++ IPu26 ++ IPu28)) := M
  refine nm_then ?_
  refine Zsr ?_
  refine Zl2 ?_
  refine Zoc (first := []) (cap := []) T rfl rfl rfl rfl evf .nil Tryd.func13 rfl rfl ?_
  refine Calls.mono (stock_any _) ?_
  clear T; rintro e wc ⟨gsu29, rfl, N⟩ ac T
  replace M := M.join N; clear N
  replace M := M.mask [true, true, true, true] rfl
  refine Zl2 ?_
  refine ow_bs (e := 3) [.int .i64 0, .int .i64 0] M T rfl rfl rfl rfl (.cons evc (.cons evc .nil)) (fun _ => by kernel_rfl) ?_; clear M T; intro g10 wc ac M T
  refine Zl2 ?_
  refine Zoc (first := []) (cap := []) T rfl rfl rfl rfl evf (.cons (T.e 1 rfl) (.cons (T.e 0 rfl) (.cons evc .nil))) Tryd.func18 rfl rfl ?_
  refine Calls.mono (Plan_any stkS (some ⟨gsu29, 0, none⟩) 3 (some ⟨g10, 0, none⟩) 2 ([0, 0]) true _ (M.rdOwn (Zne (i := 1) rfl) rfl rfl) (M.rdOwn (Zne (i := 0) rfl) rfl rfl) (by decide) (by decide) (by decide) (hT.mem M (fun h => h))) ?_
  clear T; rintro e wc ⟨APu30, cPu30, IPu30, rfl, hcpPu30, SVPu30, N⟩ ac T
  rw [kn_plan4.1] at SVPu30 hcpPu30
  rw [kn_plan4.1, kn_plan4.2] at T
  obtain ⟨bAPu30, oAPu30, SVPu30⟩ := SVPu30
  have SAPu30 := SVPu30 w noEx
  replace M := (M.join N).swapI
  clear N
  replace M : Mem w noEx wc ((g10, .cells [.int .i64 0, .int .i64 0]) :: (gsu29, .cells [.int .i64 3, .int .i64 2, .bool false, .int .i64 0, .int .i64 2, .int .i64 3, .bool true, .int .i64 0, .int .i64 4, .int .i64 1, .bool false, .int .i64 0]) :: (gr2_3, .cells (pc lmgr2_3 ++ [])) :: (g5, .cells [.int .i64 5, .int .i64 stkS.wi, .int .i64 stkS.a0, .int .i64 stkS.a1, .int .i64 stkS.c0, .int .i64 stkS.c1, .slice (some ⟨gsu5, 0, none⟩) stkS.ps.length 3]) :: (gsu5, .cells [.int .i64 3, .int .i64 2, .bool false, .int .i64 0, .int .i64 2, .int .i64 3, .bool true, .int .i64 0, .int .i64 4, .int .i64 1, .bool false, .int .i64 0]) :: (IPu22 ++ IPu24 ++ IPu26 ++ IPu28 ++ IPu30)) := M
  refine Zg5 T (Zq (Zrm rfl (T.e 0 rfl))) rfl (Ze 0 rfl rfl rfl) rfl (Ze 1 rfl rfl rfl) rfl (Za 1 rfl rfl) rfl (Za 1 rfl rfl) rfl ?_; clear T ac; intro ac T
  refine wpList_nil ?_
  replace T := T.pick [0, 8, 9, 10, 11, 12, 13, 14, 15] rfl
  replace M := M.mask [false, false, true, true, true] rfl
  replace M : Mem w noEx wc ((gr2_3, .cells (pc lmgr2_3 ++ [])) :: (g5, .cells [.int .i64 5, .int .i64 stkS.wi, .int .i64 stkS.a0, .int .i64 stkS.a1, .int .i64 stkS.c0, .int .i64 stkS.c1, .slice (some ⟨gsu5, 0, none⟩) stkS.ps.length 3]) :: (gsu5, .cells [.int .i64 3, .int .i64 2, .bool false, .int .i64 0, .int .i64 2, .int .i64 3, .bool true, .int .i64 0, .int .i64 4, .int .i64 1, .bool false, .int .i64 0]) :: (IPu22 ++ IPu24 ++ IPu26 ++ IPu28 ++ IPu30)) := M
  refine Zns ?_
  refine Zsr ?_
  refine Zg8 (v2 := (.bool false)) (v5 := (.bool false)) T (Zq (Zrm rfl (T.e 6 rfl))) rfl (fun _ T => Zq (Zrq (rn_neq rfl (T.e 0 rfl) evc) (by simp))) rfl (Zm 0 rfl rfl) rfl (fun _ T => Zw (Zwy rfl rfl (T.e 0 rfl) rfl) (Zrm rfl (T.e 7 rfl))) rfl (fun _ T => Zw (Zwy rfl rfl (T.e 1 rfl) rfl) (Zrq (rn_neq rfl (T.e 0 rfl) evc) (by simp))) rfl (fun _ T => Zq (Zr0 rfl (T.e 2 rfl) rfl (T.e 0 rfl))) rfl (Zm 0 rfl rfl) rfl (fun _ T => Zw (Zwy rfl rfl (T.e 0 rfl) rfl) (Zrm rfl (T.e 10 rfl))) rfl ?_; clear T ac; intro ac T
  refine Zg8 (v1 := (.bool false)) (v5 := (.bool false)) T (Zw (Zwy rfl rfl (T.e 1 rfl) rfl) (Zrq (rn_neq rfl (T.e 0 rfl) evc) (by simp))) rfl (fun _ T => Zq (Zr0 rfl (T.e 2 rfl) rfl (T.e 0 rfl))) rfl (Zm 0 rfl rfl) rfl (fun _ T => Zw (Zwy rfl rfl (T.e 0 rfl) rfl) (Zrm rfl (T.e 12 rfl))) rfl (fun _ T => Zw (Zwy rfl rfl (T.e 1 rfl) rfl) (Zrq (rn_neq rfl (T.e 0 rfl) evc) (by simp))) rfl (fun _ T => Zq (Zr0 rfl (T.e 2 rfl) rfl (T.e 0 rfl))) rfl (Zm 0 rfl rfl) rfl (fun _ T => Zw (Zwy rfl rfl (T.e 0 rfl) rfl) (Zrm rfl (T.e 15 rfl))) rfl ?_; clear T ac; intro ac T
  refine Zg4 (v1 := (.bool false)) T (Zw (Zwy rfl rfl (T.e 1 rfl) rfl) (Zrq (rn_neq rfl (T.e 0 rfl) evc) (by simp))) rfl (fun _ T => Zq (Zr0 rfl (T.e 2 rfl) rfl (T.e 0 rfl))) rfl (Zm 0 rfl rfl) rfl (fun _ T => Zw (Zwy rfl rfl (T.e 0 rfl) rfl) (Zrm rfl (T.e 26 rfl))) rfl ?_; clear T ac; intro ac T
  refine l_w (Zwy rfl rfl (T.e 1 rfl) rfl) ?_; intro K hK
  refine Zoc (first := []) (cap := []) T rfl rfl rfl rfl evf (.cons evc (.cons evc (.cons evc .nil))) Tryd.func20 rfl rfl ?_
  refine Calls.mono (spot8_any 0 0 false _) ?_
  clear T; rintro e wc ⟨rfl, hb⟩ ac T
  replace M := M.call hb; clear hb
  refine Zso hK _ _ ?_; clear hK K
  refine l_w (Zwy rfl rfl (T.e 2 rfl) rfl) ?_; intro K hK
  refine Zoc (first := []) (cap := []) T rfl rfl rfl rfl evf (.cons evc (.cons evc (.cons evc .nil))) Tryd.func20 rfl rfl ?_
  refine Calls.mono (spot8_any 3 0 true _) ?_
  clear T; rintro e wc ⟨rfl, hb⟩ ac T
  replace M := M.call hb; clear hb
  refine Zso hK _ _ ?_; clear hK K
  refine l_w (Zwy rfl rfl (T.e 3 rfl) rfl) ?_; intro K hK
  refine ow_bs (e := 63) [.int .i64 0, .int .i64 0, .bool false, .int .i64 3, .int .i64 0, .bool true] M T rfl rfl rfl rfl (.cons (T.e 1 rfl) (.cons (T.e 0 rfl) .nil)) (fun _ => by kernel_rfl) ?_; clear M T; intro g11 wc ac M T
  refine Zso hK _ _ ?_; clear hK K
  refine l_w (Zwy rfl rfl (T.e 4 rfl) rfl) ?_; intro K hK
  refine Zoc (first := []) (cap := []) T rfl rfl rfl rfl evf (.cons (T.e 3 rfl) (.cons (T.e 0 rfl) .nil)) Tryd.func19 rfl rfl ?_
  refine Calls.mono (sameSpots_any APu22 cPu22 ([⟨0, 0, false⟩, ⟨3, 0, true⟩] : List Spt) (some ⟨g11, 0, none⟩) 2 ([⟨0, 0, false⟩, ⟨3, 0, true⟩] : List Spt) _ (SAPu22.rd M (.cons _ (.cons _ (.cons _ (.cons _ (subL (subL (subL (subL (List.Sublist.refl _)))))))))) (M.rdOwn (Zne (i := 0) rfl) rfl rfl) (by decide) (by decide)) ?_
  clear T; rintro e wc ⟨rfl, hb⟩ ac T
  replace M := M.call hb; clear hb
  rw [Zdt (@rfl (List Spt) ([⟨0, 0, false⟩, ⟨3, 0, true⟩] : List Spt))] at T
  refine Zso hK _ _ ?_; clear hK K
  refine Zg4 (v1 := (.bool false)) T (Zw (Zwy rfl rfl (T.e 5 rfl) rfl) (Zrq (rn_not rfl (T.e 0 rfl)) (by simp))) rfl (fun _ T => Zq (Zr0 rfl (T.e 6 rfl) rfl (T.e 0 rfl))) rfl (Zm 0 rfl rfl) rfl (fun _ T => Zw (Zwy rfl rfl (T.e 0 rfl) rfl) (Zrm rfl (T.e 32 rfl))) rfl ?_; clear T ac; intro ac T
  refine l_w (Zwy rfl rfl (T.e 1 rfl) rfl) ?_; intro K hK
  refine Zoc (first := []) (cap := []) T rfl rfl rfl rfl evf (.cons evc (.cons evc (.cons evc .nil))) Tryd.func20 rfl rfl ?_
  refine Calls.mono (spot8_any 0 1 false _) ?_
  clear T; rintro e wc ⟨rfl, hb⟩ ac T
  replace M := M.call hb; clear hb
  refine Zso hK _ _ ?_; clear hK K
  refine l_w (Zwy rfl rfl (T.e 2 rfl) rfl) ?_; intro K hK
  refine Zoc (first := []) (cap := []) T rfl rfl rfl rfl evf (.cons evc (.cons evc (.cons evc .nil))) Tryd.func20 rfl rfl ?_
  refine Calls.mono (spot8_any 0 0 false _) ?_
  clear T; rintro e wc ⟨rfl, hb⟩ ac T
  replace M := M.call hb; clear hb
  refine Zso hK _ _ ?_; clear hK K
  refine l_w (Zwy rfl rfl (T.e 3 rfl) rfl) ?_; intro K hK
  refine ow_bs (e := 63) [.int .i64 0, .int .i64 1, .bool false, .int .i64 0, .int .i64 0, .bool false] M T rfl rfl rfl rfl (.cons (T.e 1 rfl) (.cons (T.e 0 rfl) .nil)) (fun _ => by kernel_rfl) ?_; clear M T; intro g12 wc ac M T
  refine Zso hK _ _ ?_; clear hK K
  refine l_w (Zwy rfl rfl (T.e 4 rfl) rfl) ?_; intro K hK
  refine Zoc (first := []) (cap := []) T rfl rfl rfl rfl evf (.cons (T.e 3 rfl) (.cons (T.e 0 rfl) .nil)) Tryd.func19 rfl rfl ?_
  refine Calls.mono (sameSpots_any APu24 cPu24 ([⟨0, 1, false⟩, ⟨0, 0, false⟩] : List Spt) (some ⟨g12, 0, none⟩) 2 ([⟨0, 1, false⟩, ⟨0, 0, false⟩] : List Spt) _ (SAPu24.rd M (.cons _ (.cons _ (.cons _ (.cons _ (.cons _ (subL (subL (subL (Zsq _ _)))))))))) (M.rdOwn (Zne (i := 0) rfl) rfl rfl) (by decide) (by decide)) ?_
  clear T; rintro e wc ⟨rfl, hb⟩ ac T
  replace M := M.call hb; clear hb
  rw [Zdt (@rfl (List Spt) ([⟨0, 1, false⟩, ⟨0, 0, false⟩] : List Spt))] at T
  refine Zso hK _ _ ?_; clear hK K
  refine Zg4 (v1 := (.bool false)) T (Zw (Zwy rfl rfl (T.e 5 rfl) rfl) (Zrq (rn_not rfl (T.e 0 rfl)) (by simp))) rfl (fun _ T => Zq (Zr0 rfl (T.e 6 rfl) rfl (T.e 0 rfl))) rfl (Zm 0 rfl rfl) rfl (fun _ T => Zw (Zwy rfl rfl (T.e 0 rfl) rfl) (Zrm rfl (T.e 37 rfl))) rfl ?_; clear T ac; intro ac T
  refine l_w (Zwy rfl rfl (T.e 1 rfl) rfl) ?_; intro K hK
  refine Zoc (first := []) (cap := []) T rfl rfl rfl rfl evf (.cons evc (.cons evc (.cons evc .nil))) Tryd.func20 rfl rfl ?_
  refine Calls.mono (spot8_any 2 1 false _) ?_
  clear T; rintro e wc ⟨rfl, hb⟩ ac T
  replace M := M.call hb; clear hb
  refine Zso hK _ _ ?_; clear hK K
  refine l_w (Zwy rfl rfl (T.e 2 rfl) rfl) ?_; intro K hK
  refine Zoc (first := []) (cap := []) T rfl rfl rfl rfl evf (.cons evc (.cons evc (.cons evc .nil))) Tryd.func20 rfl rfl ?_
  refine Calls.mono (spot8_any 0 0 false _) ?_
  clear T; rintro e wc ⟨rfl, hb⟩ ac T
  replace M := M.call hb; clear hb
  refine Zso hK _ _ ?_; clear hK K
  refine l_w (Zwy rfl rfl (T.e 3 rfl) rfl) ?_; intro K hK
  refine Zoc (first := []) (cap := []) T rfl rfl rfl rfl evf (.cons evc (.cons evc (.cons evc .nil))) Tryd.func20 rfl rfl ?_
  refine Calls.mono (spot8_any 2 0 false _) ?_
  clear T; rintro e wc ⟨rfl, hb⟩ ac T
  replace M := M.call hb; clear hb
  refine Zso hK _ _ ?_; clear hK K
  refine l_w (Zwy rfl rfl (T.e 4 rfl) rfl) ?_; intro K hK
  refine ow_bs (e := 63) [.int .i64 2, .int .i64 1, .bool false, .int .i64 0, .int .i64 0, .bool false, .int .i64 2, .int .i64 0, .bool false] M T rfl rfl rfl rfl (.cons (T.e 2 rfl) (.cons (T.e 1 rfl) (.cons (T.e 0 rfl) .nil))) (fun _ => by kernel_rfl) ?_; clear M T; intro g13 wc ac M T
  refine Zso hK _ _ ?_; clear hK K
  refine l_w (Zwy rfl rfl (T.e 5 rfl) rfl) ?_; intro K hK
  refine Zoc (first := []) (cap := []) T rfl rfl rfl rfl evf (.cons (T.e 4 rfl) (.cons (T.e 0 rfl) .nil)) Tryd.func19 rfl rfl ?_
  refine Calls.mono (sameSpots_any APu28 cPu28 ([⟨2, 1, false⟩, ⟨0, 0, false⟩, ⟨2, 0, false⟩] : List Spt) (some ⟨g13, 0, none⟩) 3 ([⟨2, 1, false⟩, ⟨0, 0, false⟩, ⟨2, 0, false⟩] : List Spt) _ (SAPu28.rd M (.cons _ (.cons _ (.cons _ (.cons _ (.cons _ (.cons _ (subL (Zsq _ _))))))))) (M.rdOwn (Zne (i := 0) rfl) rfl rfl) (by decide) (by decide)) ?_
  clear T; rintro e wc ⟨rfl, hb⟩ ac T
  replace M := M.call hb; clear hb
  rw [Zdt (@rfl (List Spt) ([⟨2, 1, false⟩, ⟨0, 0, false⟩, ⟨2, 0, false⟩] : List Spt))] at T
  refine Zso hK _ _ ?_; clear hK K
  refine Zg2 (v1 := (.bool false)) T (Zw (Zwy rfl rfl (T.e 6 rfl) rfl) (Zrq (rn_not rfl (T.e 0 rfl)) (by simp))) rfl (fun _ T => Zq (Zr0 rfl (T.e 7 rfl) rfl (T.e 0 rfl))) rfl ?_; clear T ac; intro ac T
  refine wpList_nil ?_
  replace T := T.pick [0, 51] rfl
  replace M := M.mask [false, false, false, true, true, true] rfl
  replace M : Mem w noEx wc ((gr2_3, .cells (pc lmgr2_3 ++ [])) :: (g5, .cells [.int .i64 5, .int .i64 stkS.wi, .int .i64 stkS.a0, .int .i64 stkS.a1, .int .i64 stkS.c0, .int .i64 stkS.c1, .slice (some ⟨gsu5, 0, none⟩) stkS.ps.length 3]) :: (gsu5, .cells [.int .i64 3, .int .i64 2, .bool false, .int .i64 0, .int .i64 2, .int .i64 3, .bool true, .int .i64 0, .int .i64 4, .int .i64 1, .bool false, .int .i64 0]) :: (IPu22 ++ IPu24 ++ IPu26 ++ IPu28 ++ IPu30)) := M
  refine nm_then ?_
  refine wp_cond_false (T.e 0 rfl) ?_
  refine Zsk ?_
  refine Zsr ?_
  refine Zl2 ?_
  refine Zoc (first := []) (cap := []) T rfl rfl rfl rfl evf .nil Tryd.func13 rfl rfl ?_
  refine Calls.mono (stock_any _) ?_
  clear T; rintro e wc ⟨gsu41, rfl, N⟩ ac T
  replace M := M.join N; clear N
  replace M := M.mask [true, true, true, true] rfl
  refine Zl2 ?_
  refine ow_bs (e := 3) [.int .i64 0, .int .i64 2] M T rfl rfl rfl rfl (.cons evc (.cons evc .nil)) (fun _ => by kernel_rfl) ?_; clear M T; intro g14 wc ac M T
  refine Zl2 ?_
  refine Zoc (first := []) (cap := []) T rfl rfl rfl rfl evf (.cons (T.e 1 rfl) (.cons (T.e 0 rfl) .nil)) Tryd.func21 rfl rfl ?_
  refine Calls.mono (Fits_any stkS (some ⟨gsu41, 0, none⟩) 3 (some ⟨g14, 0, none⟩) 2 ([0, 2]) _ (M.rdOwn (Zne (i := 1) rfl) rfl rfl) (M.rdOwn (Zne (i := 0) rfl) rfl rfl) (by decide) (by decide) (by decide) (hT.mem M (fun h => h))) ?_
  clear T; rintro e wc ⟨rfl, hb⟩ ac T
  rw [kn_fit0.1, kn_fit0.2] at T
  replace M := M.call hb; clear hb
  refine Zg5 T (Zq (Zrm rfl (T.e 0 rfl))) rfl (Ze 0 rfl rfl rfl) rfl (Ze 1 rfl rfl rfl) rfl (Za 1 rfl rfl) rfl (Za 1 rfl rfl) rfl ?_; clear T ac; intro ac T
  refine wpList_nil ?_
  replace T := T.pick [0, 1, 9] rfl
  replace M := M.mask [false, false, true, true, true] rfl
  replace M : Mem w noEx wc ((gr2_3, .cells (pc lmgr2_3 ++ [])) :: (g5, .cells [.int .i64 5, .int .i64 stkS.wi, .int .i64 stkS.a0, .int .i64 stkS.a1, .int .i64 stkS.c0, .int .i64 stkS.c1, .slice (some ⟨gsu5, 0, none⟩) stkS.ps.length 3]) :: (gsu5, .cells [.int .i64 3, .int .i64 2, .bool false, .int .i64 0, .int .i64 2, .int .i64 3, .bool true, .int .i64 0, .int .i64 4, .int .i64 1, .bool false, .int .i64 0]) :: (IPu22 ++ IPu24 ++ IPu26 ++ IPu28 ++ IPu30)) := M
  refine nm_then ?_
  refine Zsr ?_
  refine Zl2 ?_
  refine Zoc (first := []) (cap := []) T rfl rfl rfl rfl evf .nil Tryd.func13 rfl rfl ?_
  refine Calls.mono (stock_any _) ?_
  clear T; rintro e wc ⟨gsu43, rfl, N⟩ ac T
  replace M := M.join N; clear N
  replace M := M.mask [true, true, true, true] rfl
  refine Zl2 ?_
  refine ow_bs (e := 3) [.int .i64 0, .int .i64 1, .int .i64 2] M T rfl rfl rfl rfl (.cons evc (.cons evc (.cons evc .nil))) (fun _ => by kernel_rfl) ?_; clear M T; intro g15 wc ac M T
  refine Zl2 ?_
  refine Zoc (first := []) (cap := []) T rfl rfl rfl rfl evf (.cons (T.e 1 rfl) (.cons (T.e 0 rfl) .nil)) Tryd.func21 rfl rfl ?_
  refine Calls.mono (Fits_any stkS (some ⟨gsu43, 0, none⟩) 3 (some ⟨g15, 0, none⟩) 3 ([0, 1, 2]) _ (M.rdOwn (Zne (i := 1) rfl) rfl rfl) (M.rdOwn (Zne (i := 0) rfl) rfl rfl) (by decide) (by decide) (by decide) (hT.mem M (fun h => h))) ?_
  clear T; rintro e wc ⟨rfl, hb⟩ ac T
  rw [kn_fit1.1, kn_fit1.2] at T
  replace M := M.call hb; clear hb
  refine Zg5 T (Zq (Zrm rfl (T.e 0 rfl))) rfl (Ze 0 rfl rfl rfl) rfl (Ze 1 rfl rfl rfl) rfl (Za 1 rfl rfl) rfl (Za 1 rfl rfl) rfl ?_; clear T ac; intro ac T
  refine wpList_nil ?_
  replace T := T.pick [0, 1, 8, 9, 10] rfl
  replace M := M.mask [false, false, true, true, true] rfl
  replace M : Mem w noEx wc ((gr2_3, .cells (pc lmgr2_3 ++ [])) :: (g5, .cells [.int .i64 5, .int .i64 stkS.wi, .int .i64 stkS.a0, .int .i64 stkS.a1, .int .i64 stkS.c0, .int .i64 stkS.c1, .slice (some ⟨gsu5, 0, none⟩) stkS.ps.length 3]) :: (gsu5, .cells [.int .i64 3, .int .i64 2, .bool false, .int .i64 0, .int .i64 2, .int .i64 3, .bool true, .int .i64 0, .int .i64 4, .int .i64 1, .bool false, .int .i64 0]) :: (IPu22 ++ IPu24 ++ IPu26 ++ IPu28 ++ IPu30)) := M
  refine nm_then ?_
  refine Zsr ?_
  refine lq T (Zrr (Mem.nth M 1 rfl) rfl (T.e 4 rfl) rfl) ?_; clear T ac; intro ac T
  refine Zl2 ?_
  refine ow_bs (e := 3) [.int .i64 0, .int .i64 1, .int .i64 2] M T rfl rfl rfl rfl (.cons evc (.cons evc (.cons evc .nil))) (fun _ => by kernel_rfl) ?_; clear M T; intro g16 wc ac M T
  refine Zl2 ?_
  refine Zoc (first := []) (cap := []) T rfl rfl rfl rfl evf (.cons (T.e 1 rfl) (.cons (T.e 0 rfl) .nil)) Tryd.func21 rfl rfl ?_
  refine Calls.mono (Fits_any ({ stkS with lo := 5 } : Sk) (some ⟨gsu5, 0, none⟩) 3 (some ⟨g16, 0, none⟩) 3 ([0, 1, 2]) _ (M.rdOwn (Zne (i := 3) rfl) rfl rfl) (M.rdOwn (Zne (i := 0) rfl) rfl rfl) (by decide) (by decide) (by decide) (hT.mem M (fun h => h))) ?_
  clear T; rintro e wc ⟨rfl, hb⟩ ac T
  rw [kn_fit2.1, kn_fit2.2] at T
  replace M := M.call hb; clear hb
  refine Zg5 T (Zq (Zrm rfl (T.e 0 rfl))) rfl (Ze 0 rfl rfl rfl) rfl (Ze 1 rfl rfl rfl) rfl (Za 1 rfl rfl) rfl (Za 1 rfl rfl) rfl ?_; clear T ac; intro ac T
  refine wpList_nil ?_
  replace T := T.pick [0, 1, 8, 9, 10, 11] rfl
  replace M := M.mask [false, true, false, false] rfl
  replace M : Mem w noEx wc ((gr2_3, .cells (pc lmgr2_3 ++ [])) :: (IPu22 ++ IPu24 ++ IPu26 ++ IPu28 ++ IPu30)) := M
  refine nm_then ?_
  refine Zsr ?_
  refine Zl2 ?_
  refine Zoc (first := []) (cap := []) T rfl rfl rfl rfl evf .nil Tryd.func13 rfl rfl ?_
  refine Calls.mono (stock_any _) ?_
  clear T; rintro e wc ⟨gsu46, rfl, N⟩ ac T
  replace M := M.join N; clear N
  replace M := M.mask [true, true] rfl
  refine Zl2 ?_
  refine ow_bs (e := 3) [.int .i64 0, .int .i64 2] M T rfl rfl rfl rfl (.cons evc (.cons evc .nil)) (fun _ => by kernel_rfl) ?_; clear M T; intro g17 wc ac M T
  refine Zl2 ?_
  refine Zoc (first := []) (cap := []) T rfl rfl rfl rfl evf (.cons evc (.cons evc (.cons evc .nil))) Tryd.func20 rfl rfl ?_
  refine Calls.mono (spot8_any 0 0 false _) ?_
  clear T; rintro e wc ⟨rfl, hb⟩ ac T
  replace M := M.call hb; clear hb
  refine Zl2 ?_
  refine Zoc (first := []) (cap := []) T rfl rfl rfl rfl evf (.cons evc (.cons evc (.cons evc .nil))) Tryd.func20 rfl rfl ?_
  refine Calls.mono (spot8_any 0 1 false _) ?_
  clear T; rintro e wc ⟨rfl, hb⟩ ac T
  replace M := M.call hb; clear hb
  refine Zl2 ?_
  refine ow_bs (e := 63) [.int .i64 0, .int .i64 0, .bool false, .int .i64 0, .int .i64 1, .bool false] M T rfl rfl rfl rfl (.cons (T.e 1 rfl) (.cons (T.e 0 rfl) .nil)) (fun _ => by kernel_rfl) ?_; clear M T; intro g18 wc ac M T
  refine Zl2 ?_
  refine Zoc (first := []) (cap := []) T rfl rfl rfl rfl evf (.cons (T.e 4 rfl) (.cons (T.e 3 rfl) (.cons (T.e 0 rfl) (.cons evc .nil)))) Tryd.func22 rfl rfl ?_
  refine Calls.mono (Cuts_any stkS (some ⟨gsu46, 0, none⟩) 3 (some ⟨g17, 0, none⟩) 2 ([0, 2]) (some ⟨g18, 0, none⟩) 2 ([⟨0, 0, false⟩, ⟨0, 1, false⟩] : List Spt) true _ (M.rdOwn (Zne (i := 2) rfl) rfl rfl) (M.rdOwn (Zne (i := 1) rfl) rfl rfl) (by decide) (by decide) (by decide) (M.rdOwn (Zne (i := 0) rfl) rfl rfl) (by decide)) ?_
  clear T; rintro e wc ⟨rfl, hb⟩ ac T
  rw [kn_cuts0.1, show cutsE stkS [0, 2] ([⟨0, 0, false⟩, ⟨0, 1, false⟩] : List Spt).length = 0 from kn_cuts0.2] at T
  replace M := M.call hb; clear hb
  refine Zg5 T (Zq (Zrm rfl (T.e 0 rfl))) rfl (Ze 0 rfl rfl rfl) rfl (Ze 1 rfl rfl rfl) rfl (Za 1 rfl rfl) rfl (Za 1 rfl rfl) rfl ?_; clear T ac; intro ac T
  refine wpList_nil ?_
  replace T := T.pick [0, 1, 11, 12, 13, 14, 15, 16] rfl
  replace M := M.mask [false, false, false, true] rfl
  replace M : Mem w noEx wc ((gr2_3, .cells (pc lmgr2_3 ++ [])) :: (IPu22 ++ IPu24 ++ IPu26 ++ IPu28 ++ IPu30)) := M
  refine nm_then ?_
  refine Zsr ?_
  refine Zl2 ?_
  refine Zoc (first := []) (cap := []) T rfl rfl rfl rfl evf .nil Tryd.func13 rfl rfl ?_
  refine Calls.mono (stock_any _) ?_
  clear T; rintro e wc ⟨gsu50, rfl, N⟩ ac T
  replace M := M.join N; clear N
  replace M := M.mask [true, true] rfl
  refine Zl2 ?_
  refine ow_bs (e := 3) [.int .i64 0] M T rfl rfl rfl rfl (.cons evc .nil) (fun _ => by kernel_rfl) ?_; clear M T; intro g19 wc ac M T
  refine Zl2 ?_
  refine Zoc (first := []) (cap := []) T rfl rfl rfl rfl evf (.cons evc (.cons evc (.cons evc .nil))) Tryd.func20 rfl rfl ?_
  refine Calls.mono (spot8_any 3 0 false _) ?_
  clear T; rintro e wc ⟨rfl, hb⟩ ac T
  replace M := M.call hb; clear hb
  refine Zl2 ?_
  refine ow_bs (e := 63) [.int .i64 3, .int .i64 0, .bool false] M T rfl rfl rfl rfl (.cons (T.e 0 rfl) .nil) (fun _ => by kernel_rfl) ?_; clear M T; intro g20 wc ac M T
  refine Zl2 ?_
  refine Zoc (first := []) (cap := []) T rfl rfl rfl rfl evf (.cons (T.e 3 rfl) (.cons (T.e 2 rfl) (.cons (T.e 0 rfl) (.cons evc .nil)))) Tryd.func22 rfl rfl ?_
  refine Calls.mono (Cuts_any stkS (some ⟨gsu50, 0, none⟩) 3 (some ⟨g19, 0, none⟩) 1 ([0]) (some ⟨g20, 0, none⟩) 1 ([⟨3, 0, false⟩] : List Spt) true _ (M.rdOwn (Zne (i := 2) rfl) rfl rfl) (M.rdOwn (Zne (i := 1) rfl) rfl rfl) (by decide) (by decide) (by decide) (M.rdOwn (Zne (i := 0) rfl) rfl rfl) (by decide)) ?_
  clear T; rintro e wc ⟨rfl, hb⟩ ac T
  rw [kn_cuts1.1, show cutsE stkS [0] ([⟨3, 0, false⟩] : List Spt).length = 0 from kn_cuts1.2] at T
  replace M := M.call hb; clear hb
  refine Zg5 T (Zq (Zrm rfl (T.e 0 rfl))) rfl (Ze 0 rfl rfl rfl) rfl (Ze 1 rfl rfl rfl) rfl (Za 1 rfl rfl) rfl (Za 1 rfl rfl) rfl ?_; clear T ac; intro ac T
  refine wpList_nil ?_
  replace T := T.pick [0, 1, 10, 11, 12, 13, 14, 15, 16, 17] rfl
  replace M := M.mask [false, false, false, true] rfl
  replace M : Mem w noEx wc ((gr2_3, .cells (pc lmgr2_3 ++ [])) :: (IPu22 ++ IPu24 ++ IPu26 ++ IPu28 ++ IPu30)) := M
  refine nm_then ?_
  refine Zsr ?_
  refine Zl2 ?_
  refine Zoc (first := []) (cap := []) T rfl rfl rfl rfl evf .nil Tryd.func13 rfl rfl ?_
  refine Calls.mono (stock_any _) ?_
  clear T; rintro e wc ⟨gsu53, rfl, N⟩ ac T
  replace M := M.join N; clear N
  replace M := M.mask [true, true] rfl
  refine Zl2 ?_
  refine ow_bs (e := 3) [.int .i64 0] M T rfl rfl rfl rfl (.cons evc .nil) (fun _ => by kernel_rfl) ?_; clear M T; intro g21 wc ac M T
  refine Zl2 ?_
  refine Zoc (first := []) (cap := []) T rfl rfl rfl rfl evf (.cons evc (.cons evc (.cons evc .nil))) Tryd.func20 rfl rfl ?_
  refine Calls.mono (spot8_any 2 1 false _) ?_
  clear T; rintro e wc ⟨rfl, hb⟩ ac T
  replace M := M.call hb; clear hb
  refine Zl2 ?_
  refine ow_bs (e := 63) [.int .i64 2, .int .i64 1, .bool false] M T rfl rfl rfl rfl (.cons (T.e 0 rfl) .nil) (fun _ => by kernel_rfl) ?_; clear M T; intro g22 wc ac M T
  refine Zl2 ?_
  refine Zoc (first := []) (cap := []) T rfl rfl rfl rfl evf (.cons (T.e 3 rfl) (.cons (T.e 2 rfl) (.cons (T.e 0 rfl) (.cons evc .nil)))) Tryd.func22 rfl rfl ?_
  refine Calls.mono (Cuts_any stkS (some ⟨gsu53, 0, none⟩) 3 (some ⟨g21, 0, none⟩) 1 ([0]) (some ⟨g22, 0, none⟩) 1 ([⟨2, 1, false⟩] : List Spt) true _ (M.rdOwn (Zne (i := 2) rfl) rfl rfl) (M.rdOwn (Zne (i := 1) rfl) rfl rfl) (by decide) (by decide) (by decide) (M.rdOwn (Zne (i := 0) rfl) rfl rfl) (by decide)) ?_
  clear T; rintro e wc ⟨rfl, hb⟩ ac T
  rw [kn_cuts2.1, show cutsE stkS [0] ([⟨2, 1, false⟩] : List Spt).length = 0 from kn_cuts2.2] at T
  replace M := M.call hb; clear hb
  refine Zg5 T (Zq (Zrm rfl (T.e 0 rfl))) rfl (Ze 0 rfl rfl rfl) rfl (Ze 1 rfl rfl rfl) rfl (Za 1 rfl rfl) rfl (Za 1 rfl rfl) rfl ?_; clear T ac; intro ac T
  refine wpList_nil ?_
  replace T := T.pick [0, 1, 10, 11, 12, 13, 14, 15, 16, 17, 18, 19] rfl
  replace M := M.mask [false, false, false, true] rfl
  replace M : Mem w noEx wc ((gr2_3, .cells (pc lmgr2_3 ++ [])) :: (IPu22 ++ IPu24 ++ IPu26 ++ IPu28 ++ IPu30)) := M
  refine Zns ?_
  refine Zsr ?_
  refine Zg8 (v2 := (.bool false)) (v5 := (.bool false)) T (Zq (Zrm rfl (T.e 10 rfl))) rfl (fun _ T => Zq (Zrq (rn_neq rfl (T.e 0 rfl) evc) (by simp))) rfl (Zm 0 rfl rfl) rfl (fun _ T => Zw (Zwy rfl rfl (T.e 0 rfl) rfl) (Zrm rfl (T.e 11 rfl))) rfl (fun _ T => Zw (Zwy rfl rfl (T.e 1 rfl) rfl) (Zrq (rn_neq rfl (T.e 0 rfl) evc) (by simp))) rfl (fun _ T => Zq (Zr0 rfl (T.e 2 rfl) rfl (T.e 0 rfl))) rfl (Zm 0 rfl rfl) rfl (fun _ T => Zw (Zwy rfl rfl (T.e 0 rfl) rfl) (Zrm rfl (T.e 13 rfl))) rfl ?_; clear T ac; intro ac T
  refine Zg8 (v1 := (.bool false)) (v5 := (.bool false)) T (Zw (Zwy rfl rfl (T.e 1 rfl) rfl) (Zrq (rn_neq rfl (T.e 0 rfl) evc) (by simp))) rfl (fun _ T => Zq (Zr0 rfl (T.e 2 rfl) rfl (T.e 0 rfl))) rfl (Zm 0 rfl rfl) rfl (fun _ T => Zw (Zwy rfl rfl (T.e 0 rfl) rfl) (Zrm rfl (T.e 15 rfl))) rfl (fun _ T => Zw (Zwy rfl rfl (T.e 1 rfl) rfl) (Zrq (rn_neq rfl (T.e 0 rfl) evc) (by simp))) rfl (fun _ T => Zq (Zr0 rfl (T.e 2 rfl) rfl (T.e 0 rfl))) rfl (Zm 0 rfl rfl) rfl (fun _ T => Zw (Zwy rfl rfl (T.e 0 rfl) rfl) (Zrm rfl (T.e 17 rfl))) rfl ?_; clear T ac; intro ac T
  refine Zg8 (v1 := (.bool false)) (v5 := (.bool false)) T (Zw (Zwy rfl rfl (T.e 1 rfl) rfl) (Zrq (rn_neq rfl (T.e 0 rfl) evc) (by simp))) rfl (fun _ T => Zq (Zr0 rfl (T.e 2 rfl) rfl (T.e 0 rfl))) rfl (Zm 0 rfl rfl) rfl (fun _ T => Zw (Zwy rfl rfl (T.e 0 rfl) rfl) (Zrm rfl (T.e 19 rfl))) rfl (fun _ T => Zw (Zwy rfl rfl (T.e 1 rfl) rfl) (Zrq (rn_neq rfl (T.e 0 rfl) evc) (by simp))) rfl (fun _ T => Zq (Zr0 rfl (T.e 2 rfl) rfl (T.e 0 rfl))) rfl (Zm 0 rfl rfl) rfl (fun _ T => Zw (Zwy rfl rfl (T.e 0 rfl) rfl) (Zrm rfl (T.e 34 rfl))) rfl ?_; clear T ac; intro ac T
  refine Zg8 (v1 := (.bool false)) (v5 := (.bool false)) T (Zw (Zwy rfl rfl (T.e 1 rfl) rfl) (Zrq (rn_neq rfl (T.e 0 rfl) evc) (by simp))) rfl (fun _ T => Zq (Zr0 rfl (T.e 2 rfl) rfl (T.e 0 rfl))) rfl (Zm 0 rfl rfl) rfl (fun _ T => Zw (Zwy rfl rfl (T.e 0 rfl) rfl) (Zrm rfl (T.e 36 rfl))) rfl (fun _ T => Zw (Zwy rfl rfl (T.e 1 rfl) rfl) (Zrq (rn_neq rfl (T.e 0 rfl) evc) (by simp))) rfl (fun _ T => Zq (Zr0 rfl (T.e 2 rfl) rfl (T.e 0 rfl))) rfl (Zm 0 rfl rfl) rfl (fun _ T => Zw (Zwy rfl rfl (T.e 0 rfl) rfl) (Zrm rfl (T.e 38 rfl))) rfl ?_; clear T ac; intro ac T
  refine Zg8 (v1 := (.bool false)) T (Zw (Zwy rfl rfl (T.e 1 rfl) rfl) (Zrq (rn_neq rfl (T.e 0 rfl) evc) (by simp))) rfl (fun _ T => Zq (Zr0 rfl (T.e 2 rfl) rfl (T.e 0 rfl))) rfl (Zm 0 rfl rfl) rfl (fun _ T => Zw (Zwy rfl rfl (T.e 0 rfl) rfl) (Zrm rfl (T.e 40 rfl))) rfl (fun _ T => Zq (Zr0 rfl (T.e 1 rfl) rfl (T.e 0 rfl))) rfl (Zm 0 rfl rfl) rfl (fun _ T => Zw (Zwy rfl rfl (T.e 0 rfl) rfl) (Zrm rfl (T.e 41 rfl))) rfl (fun _ T => Zq (Zr0 rfl (T.e 1 rfl) rfl (T.e 0 rfl))) rfl ?_; clear T ac; intro ac T
  refine Zg4 (v3 := (.bool false)) T (Zq (Zrm rfl (T.e 0 rfl))) rfl (fun _ T => Zw (Zwy rfl rfl (T.e 0 rfl) rfl) (Zrm rfl (T.e 42 rfl))) rfl (fun _ T => Zw (Zwy rfl rfl (T.e 1 rfl) rfl) (Zrq (rn_not rfl (T.e 0 rfl)) (by simp))) rfl (fun _ T => Zq (Zr0 rfl (T.e 2 rfl) rfl (T.e 0 rfl))) rfl ?_; clear T ac; intro ac T
  replace T := T.pick [0] rfl
  refine Zln ?_
  refine wp_cond_false (T.e 0 rfl) ?_
  refine Zsk ?_
  refine Zsr ?_
  refine Zl2 ?_
  refine Zoc (first := []) (cap := []) T rfl rfl rfl rfl evf .nil Tryd.func13 rfl rfl ?_
  refine Calls.mono (stock_any _) ?_
  clear T; rintro e wc ⟨gsu56, rfl, N⟩ ac T
  replace M := M.join N; clear N
  replace M := M.mask [true, true] rfl
  refine Zl2 ?_
  refine Zoc (first := []) (cap := []) T rfl rfl rfl rfl evf (.cons (T.e 0 rfl) (.cons evc .nil)) Tryd.func7 rfl rfl ?_
  refine Calls.mono (Sheets_any stkS (some ⟨gsu56, 0, none⟩) 3 true _ (M.rdOwn (Zne (i := 0) rfl) rfl rfl) (by decide) (by decide) (hT.mem M (fun h => h))) ?_
  clear T; rintro e wc ⟨ASu57, cSu57, ISu57, rfl, hcpSu57, SVSu57, N⟩ ac T
  rw [kn_sh0.1] at SVSu57 hcpSu57
  rw [kn_sh0.1, kn_sh0.2.1, kn_sh0.2.2] at T
  obtain ⟨bASu57, oASu57, SVSu57⟩ := SVSu57
  have SASu57 := SVSu57 w noEx
  replace M := (M.join N).swapI
  clear N
  replace M : Mem w noEx wc ((gsu56, .cells [.int .i64 3, .int .i64 2, .bool false, .int .i64 0, .int .i64 2, .int .i64 3, .bool true, .int .i64 0, .int .i64 4, .int .i64 1, .bool false, .int .i64 0]) :: (gr2_3, .cells (pc lmgr2_3 ++ [])) :: (IPu22 ++ IPu24 ++ IPu26 ++ IPu28 ++ IPu30 ++ ISu57)) := M
  refine Zg7 T (Zq (Zrm rfl (T.e 0 rfl))) rfl (Ze 0 rfl rfl rfl) rfl (Ze 1 rfl rfl rfl) rfl (Ze 2 rfl rfl rfl) rfl (Za 2 rfl rfl) rfl (Za 2 rfl rfl) rfl (Za 2 rfl rfl) rfl ?_; clear T ac; intro ac T
  refine wpList_nil ?_
  replace T := T.pick [0, 1, 2] rfl
  replace M := M.mask [false, true] rfl
  replace M : Mem w noEx wc ((gr2_3, .cells (pc lmgr2_3 ++ [])) :: (IPu22 ++ IPu24 ++ IPu26 ++ IPu28 ++ IPu30 ++ ISu57)) := M
  refine nm_then ?_
  refine Zsr ?_
  refine Zl2 ?_
  refine Zoc (first := []) (cap := []) T rfl rfl rfl rfl evf .nil Tryd.func13 rfl rfl ?_
  refine Calls.mono (stock_any _) ?_
  clear T; rintro e wc ⟨gsu58, rfl, N⟩ ac T
  replace M := M.join N; clear N
  replace M := M.mask [true, true] rfl
  refine Zl2 ?_
  refine Zoc (first := []) (cap := []) T rfl rfl rfl rfl evf (.cons (T.e 0 rfl) (.cons evc .nil)) Tryd.func7 rfl rfl ?_
  refine Calls.mono (Sheets_any stkS (some ⟨gsu58, 0, none⟩) 3 false _ (M.rdOwn (Zne (i := 0) rfl) rfl rfl) (by decide) (by decide) (hT.mem M (fun h => h))) ?_
  clear T; rintro e wc ⟨ASu59, cSu59, ISu59, rfl, hcpSu59, SVSu59, N⟩ ac T
  rw [kn_sh1.1] at SVSu59 hcpSu59
  rw [kn_sh1.1, kn_sh1.2.1, kn_sh1.2.2] at T
  obtain ⟨bASu59, oASu59, SVSu59⟩ := SVSu59
  have SASu59 := SVSu59 w noEx
  replace M := (M.join N).swapI
  clear N
  replace M : Mem w noEx wc ((gsu58, .cells [.int .i64 3, .int .i64 2, .bool false, .int .i64 0, .int .i64 2, .int .i64 3, .bool true, .int .i64 0, .int .i64 4, .int .i64 1, .bool false, .int .i64 0]) :: (gr2_3, .cells (pc lmgr2_3 ++ [])) :: (IPu22 ++ IPu24 ++ IPu26 ++ IPu28 ++ IPu30 ++ ISu57 ++ ISu59)) := M
  refine Zg7 T (Zq (Zrm rfl (T.e 0 rfl))) rfl (Ze 0 rfl rfl rfl) rfl (Ze 1 rfl rfl rfl) rfl (Ze 2 rfl rfl rfl) rfl (Za 2 rfl rfl) rfl (Za 2 rfl rfl) rfl (Za 2 rfl rfl) rfl ?_; clear T ac; intro ac T
  refine wpList_nil ?_
  replace T := T.pick [0, 1, 2, 9, 10, 11] rfl
  replace M := M.mask [false, true] rfl
  replace M : Mem w noEx wc ((gr2_3, .cells (pc lmgr2_3 ++ [])) :: (IPu22 ++ IPu24 ++ IPu26 ++ IPu28 ++ IPu30 ++ ISu57 ++ ISu59)) := M
  refine nm_then ?_
  refine Zsr ?_
  refine Zl2 ?_
  refine Zoc (first := []) (cap := []) T rfl rfl rfl rfl evf .nil Tryd.func13 rfl rfl ?_
  refine Calls.mono (stock_any _) ?_
  clear T; rintro e wc ⟨gsu60, rfl, N⟩ ac T
  replace M := M.join N; clear N
  replace M := M.mask [true, true] rfl
  refine Zl2 ?_
  refine Zoc (first := []) (cap := []) T rfl rfl rfl rfl evf (.cons (T.e 0 rfl) (.cons evc .nil)) Tryd.func23 rfl rfl ?_
  refine Calls.mono (Scrap_any stkS (some ⟨gsu60, 0, none⟩) 3 true _ (M.rdOwn (Zne (i := 0) rfl) rfl rfl) (by decide) (by decide) (hT.mem M (fun h => h))) ?_
  clear T; rintro e wc ⟨rfl, hb⟩ ac T
  rw [kn_scr.1, kn_sh0.2.2] at T
  replace M := M.call hb; clear hb
  refine Zg5 T (Zq (Zrm rfl (T.e 0 rfl))) rfl (Ze 0 rfl rfl rfl) rfl (Ze 1 rfl rfl rfl) rfl (Za 1 rfl rfl) rfl (Za 1 rfl rfl) rfl ?_; clear T ac; intro ac T
  refine wpList_nil ?_
  replace T := T.pick [0, 1, 7, 8, 9, 10, 11, 12] rfl
  replace M := M.mask [false, true] rfl
  replace M : Mem w noEx wc ((gr2_3, .cells (pc lmgr2_3 ++ [])) :: (IPu22 ++ IPu24 ++ IPu26 ++ IPu28 ++ IPu30 ++ ISu57 ++ ISu59)) := M
  refine nm_then ?_
  refine Zsr ?_
  refine Zl2 ?_
  refine Zoc (first := []) (cap := []) T rfl rfl rfl rfl evf .nil Tryd.func13 rfl rfl ?_
  refine Calls.mono (stock_any _) ?_
  clear T; rintro e wc ⟨gsu62, rfl, N⟩ ac T
  replace M := M.join N; clear N
  replace M := M.mask [true, true] rfl
  refine Zl2 ?_
  refine Zoc (first := []) (cap := []) T rfl rfl rfl rfl evf (.cons (T.e 0 rfl) (.cons evc .nil)) Tryd.func23 rfl rfl ?_
  refine Calls.mono (Scrap_any stkS (some ⟨gsu62, 0, none⟩) 3 false _ (M.rdOwn (Zne (i := 0) rfl) rfl rfl) (by decide) (by decide) (hT.mem M (fun h => h))) ?_
  clear T; rintro e wc ⟨rfl, hb⟩ ac T
  rw [kn_scr.2, kn_sh1.2.2] at T
  replace M := M.call hb; clear hb
  refine Zg5 T (Zq (Zrm rfl (T.e 0 rfl))) rfl (Ze 0 rfl rfl rfl) rfl (Ze 1 rfl rfl rfl) rfl (Za 1 rfl rfl) rfl (Za 1 rfl rfl) rfl ?_; clear T ac; intro ac T
  refine wpList_nil ?_
  replace T := T.pick [0, 1, 7, 8, 9, 10, 11, 12, 13, 14] rfl
  replace M := M.mask [false, true] rfl
  replace M : Mem w noEx wc ((gr2_3, .cells (pc lmgr2_3 ++ [])) :: (IPu22 ++ IPu24 ++ IPu26 ++ IPu28 ++ IPu30 ++ ISu57 ++ ISu59)) := M
  refine nm_then ?_
  refine Zsr ?_
  refine Zl2 ?_
  refine Zoc (first := []) (cap := []) T rfl rfl rfl rfl evf .nil Tryd.func13 rfl rfl ?_
  refine Calls.mono (stock_any _) ?_
  clear T; rintro e wc ⟨gsu64, rfl, N⟩ ac T
  replace M := M.join N; clear N
  replace M := M.mask [true, true] rfl
  refine Zl2 ?_
  refine Zoc (first := []) (cap := []) T rfl rfl rfl rfl evf (.cons (T.e 0 rfl) (.cons evc .nil)) Tryd.func24 rfl rfl ?_
  refine Calls.mono (Bound_any stkS (some ⟨gsu64, 0, none⟩) 3 true _ (M.rdOwn (Zne (i := 0) rfl) rfl rfl) (by decide)) ?_
  clear T; rintro e wc ⟨rfl, hb⟩ ac T
  rw [kn_bnd.1, st_err] at T
  replace M := M.call hb; clear hb
  refine Zg5 T (Zq (Zrm rfl (T.e 0 rfl))) rfl (Ze 0 rfl rfl rfl) rfl (Ze 1 rfl rfl rfl) rfl (Za 1 rfl rfl) rfl (Za 1 rfl rfl) rfl ?_; clear T ac; intro ac T
  refine wpList_nil ?_
  replace T := T.pick [0, 1, 7, 8, 9, 10, 11, 12, 13, 14, 15, 16] rfl
  replace M := M.mask [false, true] rfl
  replace M : Mem w noEx wc ((gr2_3, .cells (pc lmgr2_3 ++ [])) :: (IPu22 ++ IPu24 ++ IPu26 ++ IPu28 ++ IPu30 ++ ISu57 ++ ISu59)) := M
  refine nm_then ?_
  refine Zsr ?_
  refine Zl2 ?_
  refine Zoc (first := []) (cap := []) T rfl rfl rfl rfl evf .nil Tryd.func13 rfl rfl ?_
  refine Calls.mono (stock_any _) ?_
  clear T; rintro e wc ⟨gsu66, rfl, N⟩ ac T
  replace M := M.join N; clear N
  replace M := M.mask [true, true] rfl
  refine Zl2 ?_
  refine Zoc (first := []) (cap := []) T rfl rfl rfl rfl evf (.cons (T.e 0 rfl) (.cons evc .nil)) Tryd.func24 rfl rfl ?_
  refine Calls.mono (Bound_any stkS (some ⟨gsu66, 0, none⟩) 3 false _ (M.rdOwn (Zne (i := 0) rfl) rfl rfl) (by decide)) ?_
  clear T; rintro e wc ⟨rfl, hb⟩ ac T
  rw [kn_bnd.2, st_err] at T
  replace M := M.call hb; clear hb
  refine Zg5 T (Zq (Zrm rfl (T.e 0 rfl))) rfl (Ze 0 rfl rfl rfl) rfl (Ze 1 rfl rfl rfl) rfl (Za 1 rfl rfl) rfl (Za 1 rfl rfl) rfl ?_; clear T ac; intro ac T
  refine wpList_nil ?_
  replace T := T.pick [0, 1, 7, 8, 9, 10, 11, 12, 13, 14, 15, 16, 17, 18] rfl
  replace M := M.mask [false, true] rfl
  replace M : Mem w noEx wc ((gr2_3, .cells (pc lmgr2_3 ++ [])) :: (IPu22 ++ IPu24 ++ IPu26 ++ IPu28 ++ IPu30 ++ ISu57 ++ ISu59)) := M
  refine Zns ?_
  refine Zsr ?_
  refine Zg8 (v2 := (.bool false)) (v5 := (.bool false)) T (Zq (Zrm rfl (T.e 11 rfl))) rfl (fun _ T => Zq (Zrq (rn_neq rfl (T.e 0 rfl) evc) (by simp))) rfl (Zm 0 rfl rfl) rfl (fun _ T => Zw (Zwy rfl rfl (T.e 0 rfl) rfl) (Zrm rfl (T.e 11 rfl))) rfl (fun _ T => Zw (Zwy rfl rfl (T.e 1 rfl) rfl) (Zrq (rn_neq rfl (T.e 0 rfl) evc) (by simp))) rfl (fun _ T => Zq (Zr0 rfl (T.e 2 rfl) rfl (T.e 0 rfl))) rfl (Zm 0 rfl rfl) rfl (fun _ T => Zw (Zwy rfl rfl (T.e 0 rfl) rfl) (Zrm rfl (T.e 13 rfl))) rfl ?_; clear T ac; intro ac T
  refine Zg8 (v1 := (.bool false)) (v5 := (.bool false)) T (Zw (Zwy rfl rfl (T.e 1 rfl) rfl) (Zrq (rn_neq rfl (T.e 0 rfl) evc) (by simp))) rfl (fun _ T => Zq (Zr0 rfl (T.e 2 rfl) rfl (T.e 0 rfl))) rfl (Zm 0 rfl rfl) rfl (fun _ T => Zw (Zwy rfl rfl (T.e 0 rfl) rfl) (Zrm rfl (T.e 15 rfl))) rfl (fun _ T => Zw (Zwy rfl rfl (T.e 1 rfl) rfl) (Zrq (rn_neq rfl (T.e 0 rfl) evc) (by simp))) rfl (fun _ T => Zq (Zr0 rfl (T.e 2 rfl) rfl (T.e 0 rfl))) rfl (Zm 0 rfl rfl) rfl (fun _ T => Zw (Zwy rfl rfl (T.e 0 rfl) rfl) (Zrm rfl (T.e 17 rfl))) rfl ?_; clear T ac; intro ac T
  refine Zg8 (v1 := (.bool false)) (v5 := (.bool false)) T (Zw (Zwy rfl rfl (T.e 1 rfl) rfl) (Zrq (rn_neq rfl (T.e 0 rfl) evc) (by simp))) rfl (fun _ T => Zq (Zr0 rfl (T.e 2 rfl) rfl (T.e 0 rfl))) rfl (Zm 0 rfl rfl) rfl (fun _ T => Zw (Zwy rfl rfl (T.e 0 rfl) rfl) (Zrm rfl (T.e 19 rfl))) rfl (fun _ T => Zw (Zwy rfl rfl (T.e 1 rfl) rfl) (Zrq (rn_neq rfl (T.e 0 rfl) evc) (by simp))) rfl (fun _ T => Zq (Zr0 rfl (T.e 2 rfl) rfl (T.e 0 rfl))) rfl (Zm 0 rfl rfl) rfl (fun _ T => Zw (Zwy rfl rfl (T.e 0 rfl) rfl) (Zrm rfl (T.e 35 rfl))) rfl ?_; clear T ac; intro ac T
  refine Zg8 (v1 := (.bool false)) (v5 := (.bool false)) T (Zw (Zwy rfl rfl (T.e 1 rfl) rfl) (Zrq (rn_neq rfl (T.e 0 rfl) evc) (by simp))) rfl (fun _ T => Zq (Zr0 rfl (T.e 2 rfl) rfl (T.e 0 rfl))) rfl (Zm 0 rfl rfl) rfl (fun _ T => Zw (Zwy rfl rfl (T.e 0 rfl) rfl) (Zrm rfl (T.e 36 rfl))) rfl (fun _ T => Zw (Zwy rfl rfl (T.e 1 rfl) rfl) (Zrq (rn_neq rfl (T.e 0 rfl) evc) (by simp))) rfl (fun _ T => Zq (Zr0 rfl (T.e 2 rfl) rfl (T.e 0 rfl))) rfl (Zm 0 rfl rfl) rfl (fun _ T => Zw (Zwy rfl rfl (T.e 0 rfl) rfl) (Zrm rfl (T.e 38 rfl))) rfl ?_; clear T ac; intro ac T
  refine Zg8 (v1 := (.bool false)) (v5 := (.bool false)) T (Zw (Zwy rfl rfl (T.e 1 rfl) rfl) (Zrq (rn_neq rfl (T.e 0 rfl) evc) (by simp))) rfl (fun _ T => Zq (Zr0 rfl (T.e 2 rfl) rfl (T.e 0 rfl))) rfl (Zm 0 rfl rfl) rfl (fun _ T => Zw (Zwy rfl rfl (T.e 0 rfl) rfl) (Zrm rfl (T.e 40 rfl))) rfl (fun _ T => Zw (Zwy rfl rfl (T.e 1 rfl) rfl) (Zrq (rn_neq rfl (T.e 0 rfl) evc) (by simp))) rfl (fun _ T => Zq (Zr0 rfl (T.e 2 rfl) rfl (T.e 0 rfl))) rfl (Zm 0 rfl rfl) rfl (fun _ T => Zw (Zwy rfl rfl (T.e 0 rfl) rfl) (Zrm rfl (T.e 42 rfl))) rfl ?_; clear T ac; intro ac T
  refine Zg8 (v1 := (.bool false)) (v5 := (.bool false)) T (Zw (Zwy rfl rfl (T.e 1 rfl) rfl) (Zrq (rn_neq rfl (T.e 0 rfl) evc) (by simp))) rfl (fun _ T => Zq (Zr0 rfl (T.e 2 rfl) rfl (T.e 0 rfl))) rfl (Zm 0 rfl rfl) rfl (fun _ T => Zw (Zwy rfl rfl (T.e 0 rfl) rfl) (Zrm rfl (T.e 44 rfl))) rfl (fun _ T => Zw (Zwy rfl rfl (T.e 1 rfl) rfl) (Zrq (rn_neq rfl (T.e 0 rfl) evc) (by simp))) rfl (fun _ T => Zq (Zr0 rfl (T.e 2 rfl) rfl (T.e 0 rfl))) rfl (Zm 0 rfl rfl) rfl (fun _ T => Zw (Zwy rfl rfl (T.e 0 rfl) rfl) (Zrm rfl (T.e 60 rfl))) rfl ?_; clear T ac; intro ac T
  refine l_w (Zwy rfl rfl (T.e 1 rfl) rfl) ?_; intro K hK
  refine ow_bs (e := 3) [.int .i64 0, .int .i64 0, .int .i64 1] M T rfl rfl rfl rfl (.cons evc (.cons evc (.cons evc .nil))) (fun _ => by kernel_rfl) ?_; clear M T; intro g23 wc ac M T
  refine Zso hK _ _ ?_; clear hK K
  refine l_w (Zwy rfl rfl (T.e 2 rfl) rfl) ?_; intro K hK
  refine Zoc (first := []) (cap := []) T rfl rfl rfl rfl evf (.cons (T.e 1 rfl) (.cons (T.e 0 rfl) .nil)) Tryd.func25 rfl rfl ?_
  refine Calls.mono (sameInts_any _ _ _ _ _ _ ([0, 0, 1]) ([0, 0, 1]) _ (SASu57.rd M (.cons _ (.cons _ (subL (Zsq _ _))))) (M.rdOwn (Zne (i := 0) rfl) rfl rfl) (by decide) (by decide)) ?_
  clear T; rintro e wc ⟨rfl, hb⟩ ac T
  replace M := M.call hb; clear hb
  rw [Zdt (@rfl (List Int) [0, 0, 1])] at T
  refine Zso hK _ _ ?_; clear hK K
  refine Zg4 (v1 := (.bool false)) T (Zw (Zwy rfl rfl (T.e 3 rfl) rfl) (Zrq (rn_not rfl (T.e 0 rfl)) (by simp))) rfl (fun _ T => Zq (Zr0 rfl (T.e 4 rfl) rfl (T.e 0 rfl))) rfl (Zm 0 rfl rfl) rfl (fun _ T => Zw (Zwy rfl rfl (T.e 0 rfl) rfl) (Zrm rfl (T.e 63 rfl))) rfl ?_; clear T ac; intro ac T
  refine l_w (Zwy rfl rfl (T.e 1 rfl) rfl) ?_; intro K hK
  refine ow_bs (e := 3) [.int .i64 0, .int .i64 0, .int .i64 0] M T rfl rfl rfl rfl (.cons evc (.cons evc (.cons evc .nil))) (fun _ => by kernel_rfl) ?_; clear M T; intro g24 wc ac M T
  refine Zso hK _ _ ?_; clear hK K
  refine l_w (Zwy rfl rfl (T.e 2 rfl) rfl) ?_; intro K hK
  refine Zoc (first := []) (cap := []) T rfl rfl rfl rfl evf (.cons (T.e 1 rfl) (.cons (T.e 0 rfl) .nil)) Tryd.func25 rfl rfl ?_
  refine Calls.mono (sameInts_any _ _ _ _ _ _ ([0, 0, 0]) ([0, 0, 0]) _ (SASu59.rd M (.cons _ (.cons _ (.cons _ (Zsq _ _))))) (M.rdOwn (Zne (i := 0) rfl) rfl rfl) (by decide) (by decide)) ?_
  clear T; rintro e wc ⟨rfl, hb⟩ ac T
  replace M := M.call hb; clear hb
  rw [Zdt (@rfl (List Int) [0, 0, 0])] at T
  refine Zso hK _ _ ?_; clear hK K
  refine Zg2 (v1 := (.bool false)) T (Zw (Zwy rfl rfl (T.e 3 rfl) rfl) (Zrq (rn_not rfl (T.e 0 rfl)) (by simp))) rfl (fun _ T => Zq (Zr0 rfl (T.e 4 rfl) rfl (T.e 0 rfl))) rfl ?_; clear T ac; intro ac T
  refine wpList_nil ?_
  replace T := T.pick [0] rfl
  replace M := M.mask [false, false, true] rfl
  replace M : Mem w noEx wc ((gr2_3, .cells (pc lmgr2_3 ++ [])) :: (IPu22 ++ IPu24 ++ IPu26 ++ IPu28 ++ IPu30 ++ ISu57 ++ ISu59)) := M
  refine nm_then ?_
  refine wp_cond_false (T.e 0 rfl) ?_
  refine Zsk ?_
  refine Zsr ?_
  refine Zl2 ?_
  refine Zoc (first := []) (cap := []) T rfl rfl rfl rfl evf .nil Tryd.func13 rfl rfl ?_
  refine Calls.mono (stock_any _) ?_
  clear T; rintro e wc ⟨gsu70, rfl, N⟩ ac T
  replace M := M.join N; clear N
  replace M := M.mask [true, true] rfl
  refine lq (v := (.agg #[.int .i64 1, .int .i64 1, .bool false, .int .i64 0])) T (rn_build rfl (.cons evc (.cons evc .nil)) (fun _ => by kernel_rfl)) ?_; clear T ac; intro ac T
  refine Zl2 ?_
  refine Zoc (first := []) (cap := []) T rfl rfl rfl rfl evf (.cons (T.e 1 rfl) (.cons (T.e 0 rfl) (.cons evc .nil))) Tryd.func26 rfl rfl ?_
  refine Calls.mono (Spare_any stkS (some ⟨gsu70, 0, none⟩) 3 (⟨1, 1, false, 0⟩ : Pt) true _ (M.rdOwn (Zne (i := 0) rfl) rfl rfl) (by decide) (by decide) (hT.mem M (fun h => h))) ?_
  clear T; rintro e wc ⟨rfl, hb⟩ ac T
  rw [kn_spr0.1, kn_spr0.2] at T
  replace M := M.call hb; clear hb
  refine Zg5 T (Zq (Zrm rfl (T.e 0 rfl))) rfl (Ze 0 rfl rfl rfl) rfl (Ze 1 rfl rfl rfl) rfl (Za 1 rfl rfl) rfl (Za 1 rfl rfl) rfl ?_; clear T ac; intro ac T
  refine wpList_nil ?_
  replace T := T.pick [0, 1] rfl
  replace M := M.mask [false, true] rfl
  replace M : Mem w noEx wc ((gr2_3, .cells (pc lmgr2_3 ++ [])) :: (IPu22 ++ IPu24 ++ IPu26 ++ IPu28 ++ IPu30 ++ ISu57 ++ ISu59)) := M
  refine nm_then ?_
  refine Zsr ?_
  refine Zl2 ?_
  refine Zoc (first := []) (cap := []) T rfl rfl rfl rfl evf .nil Tryd.func13 rfl rfl ?_
  refine Calls.mono (stock_any _) ?_
  clear T; rintro e wc ⟨gsu72, rfl, N⟩ ac T
  replace M := M.join N; clear N
  replace M := M.mask [true, true] rfl
  refine lq (v := (.agg #[.int .i64 6, .int .i64 3, .bool false, .int .i64 0])) T (rn_build rfl (.cons evc (.cons evc .nil)) (fun _ => by kernel_rfl)) ?_; clear T ac; intro ac T
  refine Zl2 ?_
  refine Zoc (first := []) (cap := []) T rfl rfl rfl rfl evf (.cons (T.e 1 rfl) (.cons (T.e 0 rfl) (.cons evc .nil))) Tryd.func26 rfl rfl ?_
  refine Calls.mono (Spare_any stkS (some ⟨gsu72, 0, none⟩) 3 (⟨6, 3, false, 0⟩ : Pt) true _ (M.rdOwn (Zne (i := 0) rfl) rfl rfl) (by decide) (by decide) (hT.mem M (fun h => h))) ?_
  clear T; rintro e wc ⟨rfl, hb⟩ ac T
  rw [kn_spr1.1, kn_spr1.2] at T
  replace M := M.call hb; clear hb
  refine Zg5 T (Zq (Zrm rfl (T.e 0 rfl))) rfl (Ze 0 rfl rfl rfl) rfl (Ze 1 rfl rfl rfl) rfl (Za 1 rfl rfl) rfl (Za 1 rfl rfl) rfl ?_; clear T ac; intro ac T
  refine wpList_nil ?_
  replace T := T.pick [0, 1, 8, 9] rfl
  replace M := M.mask [false, true] rfl
  replace M : Mem w noEx wc ((gr2_3, .cells (pc lmgr2_3 ++ [])) :: (IPu22 ++ IPu24 ++ IPu26 ++ IPu28 ++ IPu30 ++ ISu57 ++ ISu59)) := M
  refine nm_then ?_
  refine Zsr ?_
  refine Zl2 ?_
  refine Zoc (first := []) (cap := []) T rfl rfl rfl rfl evf .nil Tryd.func27 rfl rfl ?_
  refine Calls.mono (paired_any _) ?_
  clear T; rintro e wc ⟨gsu74, rfl, N⟩ ac T
  replace M := M.join N; clear N
  replace M := M.mask [true, true] rfl
  have hpl9 : prdS.ps.length = 3 := rfl
  have Sg := Sp.cells (w := w) (ex := noEx) (g := gsu74) (xs := pc prdS.ps) (n := 3) (size := 4) (by rfl)
  refine Zl2 ?_
  refine Zoa M T rfl rfl rfl rfl ?_; clear M T; intro g25 wc ac M T
  refine Zl2 ?_
  refine Zos M T rfl rfl (T.e 0 rfl) (T.e 1 rfl) rfl .head rfl (by simp) rfl (by kernel_rfl) ?_; clear M T; intro wc ac M T
  replace T := T.pick [0, 2, 3, 4, 5] rfl
  refine Zln ?_
  refine Zsr ?_
  refine Zg3 (v1 := (.pointer (some ⟨g25, 6, none⟩))) T (Zq (Zrf (off := 6) rfl (T.e 0 rfl) (fun _ _ _ => by kernel_rfl))) rfl (Zo M 0 0 rfl rfl rfl rfl) rfl (fun _ T => Zq (rn_slice (size := 4) (l := 0) (h := 1) rfl Tryd.underlying27 (by kernel_rfl) (T.e 0 rfl) rfl evc (by omega) (by omega))) rfl ?_; clear T ac; intro ac T
  obtain ⟨Aq1, hAq1⟩ : ∃ q : Option Addr, q = (if 3 = 0 then some ⟨gsu74, 0, none⟩ else Option.map (fun x : Addr => x.add (0 * 4)) (some ⟨gsu74, 0, none⟩)) := ⟨_, rfl⟩
  rw [← hAq1] at T
  obtain ⟨lq1, hlq1⟩ : ∃ q, q = (prdS.ps.drop 0).take (1 - 0) := ⟨_, rfl⟩
  have nlq1 : lq1.length = 1 - 0 := by rw [hlq1, List.length_take, List.length_drop]; (try simp only [List.length_cons, List.length_append, List.length_nil]); omega
  rw [← nlq1] at T
  have SAq1 : Sp w noEx [(gsu74, .cells [.int .i64 3, .int .i64 2, .bool false, .int .i64 1, .int .i64 2, .int .i64 3, .bool true, .int .i64 0, .int .i64 4, .int .i64 1, .bool false, .int .i64 1])] Aq1 lq1.length 4 gsu74 (0 + 0 * 4) (pc lq1) := by rw [nlq1, hAq1, hlq1, ← pc_part]; exact Sg.sub (by omega) (by omega) (by omega)
  refine lq (v := (.pointer (some ⟨g25, 6, none⟩))) T (Zrf (off := 6) rfl (T.e 3 rfl) (fun _ _ _ => by kernel_rfl)) ?_; clear T ac; intro ac T
  refine Zl2 ?_
  refine Zos M T rfl rfl (T.e 0 rfl) (T.e 1 rfl) rfl .head rfl (by simp) rfl (by kernel_rfl) ?_; clear M T; intro wc ac M T
  replace T := T.pick [4, 5, 6, 7, 8] rfl
  refine Zln ?_
  refine Zsr ?_
  refine lq T (Zrr (Mem.nth M 0 rfl) rfl (T.e 0 rfl) rfl) ?_; clear T ac; intro ac T
  refine Zl2 ?_
  refine Zoc (first := []) (cap := []) T rfl rfl rfl rfl evf (.cons (T.e 0 rfl) .nil) Tryd.func28 rfl rfl ?_
  refine Calls.mono (kn_wr Aq1 (3 - 0) lq1 (by rw [hlq1]; rfl) _ (SAq1.rd M (.cons _ (List.Sublist.cons_cons _ (Zz9 _)))) (hS.mem0 M)) ?_
  clear T; rintro e wc ⟨rfl, hb⟩ ac T
  replace M := M.call hb; clear hb
  refine Zg5 T (Zq (Zrm rfl (T.e 0 rfl))) rfl (Ze 0 rfl rfl rfl) rfl (Ze 1 rfl rfl rfl) rfl (Za 1 rfl rfl) rfl (Za 1 rfl rfl) rfl ?_; clear T ac; intro ac T
  refine wpList_nil ?_
  replace T := T.pick [0, 1, 8, 9, 10, 11] rfl
  replace M := M.mask [false, true, true] rfl
  replace M : Mem w noEx wc ((gsu74, .cells [.int .i64 3, .int .i64 2, .bool false, .int .i64 1, .int .i64 2, .int .i64 3, .bool true, .int .i64 0, .int .i64 4, .int .i64 1, .bool false, .int .i64 1]) :: (gr2_3, .cells (pc lmgr2_3 ++ [])) :: (IPu22 ++ IPu24 ++ IPu26 ++ IPu28 ++ IPu30 ++ ISu57 ++ ISu59)) := M
  refine nm_then ?_
  refine Zsr ?_
  refine Zg8 (v2 := (.bool true)) (v5 := (.bool true)) T (Zq (Zrm rfl (T.e 4 rfl))) rfl (fun _ T => Zq (Zrq (rn_eql rfl (T.e 0 rfl) evc) (by simp))) rfl (Zm 0 rfl rfl) rfl (fun _ T => Zw (Zwy rfl rfl (T.e 0 rfl) rfl) (Zrm rfl (T.e 5 rfl))) rfl (fun _ T => Zw (Zwy rfl rfl (T.e 1 rfl) rfl) (Zrq (rn_eql rfl (T.e 0 rfl) evc) (by simp))) rfl (fun _ T => Zq (Zr1 rfl (T.e 2 rfl) rfl (T.e 0 rfl))) rfl (Zm 0 rfl rfl) rfl (fun _ T => Zw (Zwy rfl rfl (T.e 0 rfl) rfl) (Zrm rfl (T.e 7 rfl))) rfl ?_; clear T ac; intro ac T
  refine Zg8 (v1 := (.bool true)) (v5 := (.bool true)) T (Zw (Zwy rfl rfl (T.e 1 rfl) rfl) (Zrq (rn_eql rfl (T.e 0 rfl) evc) (by simp))) rfl (fun _ T => Zq (Zr1 rfl (T.e 2 rfl) rfl (T.e 0 rfl))) rfl (Zm 0 rfl rfl) rfl (fun _ T => Zw (Zwy rfl rfl (T.e 0 rfl) rfl) (Zrm rfl (T.e 16 rfl))) rfl (fun _ T => Zw (Zwy rfl rfl (T.e 1 rfl) rfl) (Zrq (rn_eql rfl (T.e 0 rfl) evc) (by simp))) rfl (fun _ T => Zq (Zr1 rfl (T.e 2 rfl) rfl (T.e 0 rfl))) rfl (Zm 0 rfl rfl) rfl (fun _ T => Zw (Zwy rfl rfl (T.e 0 rfl) rfl) (Zrm rfl (T.e 18 rfl))) rfl ?_; clear T ac; intro ac T
  refine Zg7 (v1 := (.bool true)) (v5 := (.bool true)) T (Zw (Zwy rfl rfl (T.e 1 rfl) rfl) (Zrq (rn_eql rfl (T.e 0 rfl) evc) (by simp))) rfl (fun _ T => Zq (Zr1 rfl (T.e 2 rfl) rfl (T.e 0 rfl))) rfl (Zm 0 rfl rfl) rfl (fun _ T => Zw (Zwy rfl rfl (T.e 0 rfl) rfl) (Zrm rfl (T.e 20 rfl))) rfl (fun _ T => Zw (Zwy rfl rfl (T.e 1 rfl) rfl) (Zrq (rn_seql rfl (T.e 0 rfl) evc) (by decide))) rfl (fun _ T => Zq (Zr1 rfl (T.e 2 rfl) rfl (T.e 0 rfl))) rfl (Za 0 rfl rfl) rfl ?_; clear T ac; intro ac T
  replace T := T.pick [0] rfl
  refine Zln ?_
  refine wp_ret ?_
  refine rt_1 T rfl (T.e 0 rfl) ?_
  exact ⟨rfl, M.below⟩
 intro H2
 refine g_have (fun ac wc => ∃ (lmgr2_3 : List Pt), (lmgr2_3 = List.replicate 6 ⟨0, 0, false, 0⟩) ∧ (lmgr2_3.length = 6) ∧ ∃ (gr2_3 : Nat), Tm ac 434 [(44, .slice (some ⟨gr2_3, 0, none⟩) 6 6), (46, .pointer (some ⟨g2, 2, none⟩)), (43, .agg #[.int .i64 2, .int .i64 1]), (45, .pointer (some ⟨g1, 0, none⟩)), (42, .slice (some ⟨gsu4, 0, none⟩) stkS.ps.length 3), (41, .pointer (some ⟨g4, 6, none⟩)), (5, .pointer (some ⟨g5, 0, none⟩)), (4, .pointer (some ⟨g4, 0, none⟩)), (3, .pointer (some ⟨g3, 0, none⟩)), (2, .pointer (some ⟨g2, 0, none⟩)), (1, .pointer (some ⟨g1, 0, none⟩))] ∧ Mem w noEx wc [(gr2_3, .cells (pc lmgr2_3 ++ [])), (g5, .cells [.int .i64 stkS.lo, .int .i64 stkS.wi, .int .i64 stkS.a0, .int .i64 stkS.a1, .int .i64 stkS.c0, .int .i64 stkS.c1, .slice (some ⟨gsu5, 0, none⟩) stkS.ps.length 3]), (g4, .cells [.int .i64 stkS.lo, .int .i64 stkS.wi, .int .i64 stkS.a0, .int .i64 stkS.a1, .int .i64 stkS.c0, .int .i64 stkS.c1, .slice (some ⟨gsu4, 0, none⟩) stkS.ps.length 3]), (g3, .cells [.int .i64 stkS.lo, .int .i64 stkS.wi, .int .i64 stkS.a0, .int .i64 stkS.a1, .int .i64 stkS.c0, .int .i64 stkS.c1, .slice (some ⟨gsu3, 0, none⟩) stkS.ps.length 3]), (g2, .cells [.int .i64 stkS.lo, .int .i64 stkS.wi, .int .i64 stkS.a0, .int .i64 stkS.a1, .int .i64 stkS.c0, .int .i64 stkS.c1, .slice (some ⟨gsu2, 0, none⟩) stkS.ps.length 3]), (g1, .cells [.int .i64 13, .int .i64 stkS.wi, .int .i64 stkS.a0, .int .i64 stkS.a1, .int .i64 stkS.c0, .int .i64 stkS.c1, .slice (some ⟨gsu1, 0, none⟩) stkS.ps.length 3]), (gsu5, .cells [.int .i64 3, .int .i64 2, .bool false, .int .i64 0, .int .i64 2, .int .i64 3, .bool true, .int .i64 0, .int .i64 4, .int .i64 1, .bool false, .int .i64 0]), (gsu4, .cells [.int .i64 3, .int .i64 2, .bool false, .int .i64 0, .int .i64 2, .int .i64 3, .bool true, .int .i64 0, .int .i64 4, .int .i64 1, .bool false, .int .i64 0]), (gsu3, .cells [.int .i64 3, .int .i64 2, .bool false, .int .i64 0, .int .i64 2, .int .i64 3, .bool true, .int .i64 0, .int .i64 4, .int .i64 1, .bool false, .int .i64 0]), (gsu2, .cells [.int .i64 3, .int .i64 2, .bool false, .int .i64 0, .int .i64 2, .int .i64 3, .bool true, .int .i64 0, .int .i64 4, .int .i64 1, .bool false, .int .i64 0]), (gsu1, .cells [.int .i64 3, .int .i64 2, .bool false, .int .i64 0, .int .i64 2, .int .i64 3, .bool true, .int .i64 0, .int .i64 4, .int .i64 1, .bool false, .int .i64 0])]) (Zpb 15 127) 8 ?_ ?_
 ·clear T M
  rintro ac wc ⟨lmgr2_3, hlmgr2_3, llmgr2_3, gr2_3, T, M⟩
  refine gw 7 255 ?_; intro K hK
  refine Zos M T rfl rfl (T.e 1 rfl) (T.e 2 rfl) rfl (.tail (.tail (.tail (.tail .head)))) rfl (by simp) rfl (by kernel_rfl) ?_; clear M T; intro wc ac M T
  refine Zso hK _ _ (MA.mk (fun _ => M.mask [false, true, true, false, false, false, true, true, true, true, true] rfl) (MA.mk (fun _ => M.mask [false, true, true, true, false, false, true, true, true, true, true] rfl) (MA.mk (fun h => (no_of (by kernel_rfl) h).elim) (MA.mk (fun h => (no_of (by kernel_rfl) h).elim) (M.mask [false, false, false, false, false, false, false, false, false, false, false] rfl))))) ?_; clear hK K
  exact H2 _ _ ⟨lmgr2_3, hlmgr2_3, llmgr2_3, gr2_3, T, M⟩
 intro H1
 refine g_have (fun ac wc => ∃ (lmgr2_3 : List Pt), (lmgr2_3 = List.replicate 6 ⟨0, 0, false, 0⟩) ∧ (lmgr2_3.length = 6) ∧ ∃ (gr2_3 : Nat), Tm ac 434 [(44, .slice (some ⟨gr2_3, 0, none⟩) 6 6), (43, .agg #[.int .i64 2, .int .i64 1]), (45, .pointer (some ⟨g1, 0, none⟩)), (42, .slice (some ⟨gsu4, 0, none⟩) stkS.ps.length 3), (41, .pointer (some ⟨g4, 6, none⟩)), (5, .pointer (some ⟨g5, 0, none⟩)), (4, .pointer (some ⟨g4, 0, none⟩)), (3, .pointer (some ⟨g3, 0, none⟩)), (2, .pointer (some ⟨g2, 0, none⟩)), (1, .pointer (some ⟨g1, 0, none⟩))] ∧ Mem w noEx wc [(gr2_3, .cells (pc lmgr2_3 ++ [])), (g5, .cells [.int .i64 stkS.lo, .int .i64 stkS.wi, .int .i64 stkS.a0, .int .i64 stkS.a1, .int .i64 stkS.c0, .int .i64 stkS.c1, .slice (some ⟨gsu5, 0, none⟩) stkS.ps.length 3]), (g4, .cells [.int .i64 stkS.lo, .int .i64 stkS.wi, .int .i64 stkS.a0, .int .i64 stkS.a1, .int .i64 stkS.c0, .int .i64 stkS.c1, .slice (some ⟨gsu4, 0, none⟩) stkS.ps.length 3]), (g3, .cells [.int .i64 stkS.lo, .int .i64 stkS.wi, .int .i64 stkS.a0, .int .i64 stkS.a1, .int .i64 stkS.c0, .int .i64 stkS.c1, .slice (some ⟨gsu3, 0, none⟩) stkS.ps.length 3]), (g2, .cells [.int .i64 stkS.lo, .int .i64 stkS.wi, .int .i64 stkS.a0, .int .i64 stkS.a1, .int .i64 stkS.c0, .int .i64 stkS.c1, .slice (some ⟨gsu2, 0, none⟩) stkS.ps.length 3]), (g1, .cells [.int .i64 stkS.lo, .int .i64 stkS.wi, .int .i64 stkS.a0, .int .i64 stkS.a1, .int .i64 stkS.c0, .int .i64 stkS.c1, .slice (some ⟨gsu1, 0, none⟩) stkS.ps.length 3]), (gsu5, .cells [.int .i64 3, .int .i64 2, .bool false, .int .i64 0, .int .i64 2, .int .i64 3, .bool true, .int .i64 0, .int .i64 4, .int .i64 1, .bool false, .int .i64 0]), (gsu4, .cells [.int .i64 3, .int .i64 2, .bool false, .int .i64 0, .int .i64 2, .int .i64 3, .bool true, .int .i64 0, .int .i64 4, .int .i64 1, .bool false, .int .i64 0]), (gsu3, .cells [.int .i64 3, .int .i64 2, .bool false, .int .i64 0, .int .i64 2, .int .i64 3, .bool true, .int .i64 0, .int .i64 4, .int .i64 1, .bool false, .int .i64 0]), (gsu2, .cells [.int .i64 3, .int .i64 2, .bool false, .int .i64 0, .int .i64 2, .int .i64 3, .bool true, .int .i64 0, .int .i64 4, .int .i64 1, .bool false, .int .i64 0]), (gsu1, .cells [.int .i64 3, .int .i64 2, .bool false, .int .i64 0, .int .i64 2, .int .i64 3, .bool true, .int .i64 0, .int .i64 4, .int .i64 1, .bool false, .int .i64 0])]) (Zpb 15 31) 10 ?_ ?_
 ·clear T M
  rintro ac wc ⟨lmgr2_3, hlmgr2_3, llmgr2_3, gr2_3, T, M⟩
  refine gw 5 63 ?_; intro K hK
  refine Zos M T rfl rfl (T.e 2 rfl) evc rfl (.tail (.tail (.tail (.tail (.tail .head))))) rfl (by simp) rfl (by kernel_rfl) ?_; clear M T; intro wc ac M T
  refine Zso hK _ _ (MA.mk (fun _ => M.mask [false, true, true, false, false, false, true, true, true, true, true] rfl) (MA.mk (fun _ => M.mask [false, true, true, true, false, false, true, true, true, true, true] rfl) (MA.mk (fun _ => M.mask [false, true, true, true, true, false, true, true, true, true, true] rfl) (MA.mk (fun h => (no_of (by kernel_rfl) h).elim) (M.mask [false, false, false, false, false, false, false, false, false, false, false] rfl))))) ?_; clear hK K
  refine gq (v := (.pointer (some ⟨g2, 2, none⟩))) T 6 127 rfl (fun _ _ _ _ _ => (Zrf (off := 2) rfl (T.e 8 rfl) (fun _ _ _ => by kernel_rfl))) ?_; clear T ac; intro ac T
  exact H1 _ _ ⟨lmgr2_3, hlmgr2_3, llmgr2_3, gr2_3, T.pick [1, 0, 2, 3, 4, 5, 6, 7, 8, 9, 10] rfl, M⟩
 intro H0
 refine gq (v := (.pointer (some ⟨g4, 6, none⟩))) T 0 1 rfl (fun _ _ _ _ _ => (Zrf (off := 6) rfl (T.e 1 rfl) (fun _ _ _ => by kernel_rfl))) ?_; clear T ac; intro ac T
 refine gq T 1 3 rfl (fun B w' hD hl hS => (Zro (Mem.nth (show Mem w noEx w' _ from ((MA.lft hS) (hD.wait (i := 1) (m := 12) (by kernel_rfl) hl))) 1 rfl) rfl (T.e 0 rfl) rfl)) ?_; clear T ac; intro ac T
 refine gq (v := (.pointer (some ⟨g1, 0, none⟩))) T 4 19 rfl (fun _ _ _ _ _ => (Zrf (off := 0) rfl (T.e 6 rfl) (fun _ _ _ => by kernel_rfl))) ?_; clear T ac; intro ac T
 refine g_m2 (i := 2) (j := 3) (by kernel_rfl) ?_ ?_
 ·refine gi 23 ?_; intro K hK
  refine Zoc (first := []) (cap := []) T rfl rfl rfl rfl evf (.cons evc (.cons evc .nil)) Tryd.func14 rfl rfl ?_
  refine Calls.mono (to8_any 2 1 _) ?_
  clear T; rintro e wc ⟨rfl, hb⟩ ac T
  replace M := M.call hb; clear hb
  refine Zso hK _ _ (MA.mk (fun _ => M.mask [true, true, false, false, false, true, true, true, true, true] rfl) (MA.mk (fun _ => M.mask [true, true, true, false, false, true, true, true, true, true] rfl) (MA.mk (fun _ => M.mask [true, true, true, true, false, true, true, true, true, true] rfl) (MA.mk (fun _ => M.mask [true, true, true, true, true, true, true, true, true, true] rfl) (M.mask [false, false, false, false, false, false, false, false, false, false] rfl))))) ?_; clear hK K
  refine g_m2 (i := 3) (j := 5) (by kernel_rfl) ?_ ?_
  ·refine gi 31 ?_; intro K hK
   refine ow_msK pcE 4 32 ⟨0, 0, false, 0⟩ rfl (by decide) rfl (m := 6) M T rfl rfl rfl rfl evc evc Tryd.underlying27 Tryd.info54 (by omega) (by decide) (by decide) ?_; clear M T; intro gr2_3 wc ac hgegr2_3 M T
   obtain ⟨lmgr2_3, hlmgr2_3⟩ : ∃ q : List Pt, q = List.replicate 6 ⟨0, 0, false, 0⟩ := ⟨_, rfl⟩
   have llmgr2_3 : lmgr2_3.length = 6 := by rw [hlmgr2_3, List.length_replicate]
   replace M : Mem w noEx wc [(gr2_3, .cells (pc lmgr2_3 ++ [])), (g5, .cells [.int .i64 stkS.lo, .int .i64 stkS.wi, .int .i64 stkS.a0, .int .i64 stkS.a1, .int .i64 stkS.c0, .int .i64 stkS.c1, .slice (some ⟨gsu5, 0, none⟩) stkS.ps.length 3]), (g4, .cells [.int .i64 stkS.lo, .int .i64 stkS.wi, .int .i64 stkS.a0, .int .i64 stkS.a1, .int .i64 stkS.c0, .int .i64 stkS.c1, .slice (some ⟨gsu4, 0, none⟩) stkS.ps.length 3]), (g3, .cells [.int .i64 stkS.lo, .int .i64 stkS.wi, .int .i64 stkS.a0, .int .i64 stkS.a1, .int .i64 stkS.c0, .int .i64 stkS.c1, .slice (some ⟨gsu3, 0, none⟩) stkS.ps.length 3]), (g2, .cells [.int .i64 stkS.lo, .int .i64 stkS.wi, .int .i64 stkS.a0, .int .i64 stkS.a1, .int .i64 stkS.c0, .int .i64 stkS.c1, .slice (some ⟨gsu2, 0, none⟩) stkS.ps.length 3]), (g1, .cells [.int .i64 stkS.lo, .int .i64 stkS.wi, .int .i64 stkS.a0, .int .i64 stkS.a1, .int .i64 stkS.c0, .int .i64 stkS.c1, .slice (some ⟨gsu1, 0, none⟩) stkS.ps.length 3]), (gsu5, .cells [.int .i64 3, .int .i64 2, .bool false, .int .i64 0, .int .i64 2, .int .i64 3, .bool true, .int .i64 0, .int .i64 4, .int .i64 1, .bool false, .int .i64 0]), (gsu4, .cells [.int .i64 3, .int .i64 2, .bool false, .int .i64 0, .int .i64 2, .int .i64 3, .bool true, .int .i64 0, .int .i64 4, .int .i64 1, .bool false, .int .i64 0]), (gsu3, .cells [.int .i64 3, .int .i64 2, .bool false, .int .i64 0, .int .i64 2, .int .i64 3, .bool true, .int .i64 0, .int .i64 4, .int .i64 1, .bool false, .int .i64 0]), (gsu2, .cells [.int .i64 3, .int .i64 2, .bool false, .int .i64 0, .int .i64 2, .int .i64 3, .bool true, .int .i64 0, .int .i64 4, .int .i64 1, .bool false, .int .i64 0]), (gsu1, .cells [.int .i64 3, .int .i64 2, .bool false, .int .i64 0, .int .i64 2, .int .i64 3, .bool true, .int .i64 0, .int .i64 4, .int .i64 1, .bool false, .int .i64 0])] := by rw [hlmgr2_3]; exact M
   have Ssgr2_3 := Sp.pre (w := w) (ex := noEx) (size := 4) (n := lmgr2_3.length) (g := gr2_3) (xs := pc lmgr2_3) (ys := []) (by simp [pc_length])
   refine Zso hK _ _ (MA.mk (fun _ => M.mask [false, true, true, false, false, false, true, true, true, true, true] rfl) (MA.mk (fun _ => M.mask [false, true, true, true, false, false, true, true, true, true, true] rfl) (MA.mk (fun _ => M.mask [false, true, true, true, true, false, true, true, true, true, true] rfl) (MA.mk (fun _ => M.mask [false, true, true, true, true, true, true, true, true, true, true] rfl) (M.mask [false, false, false, false, false, false, false, false, false, false, false] rfl))))) ?_; clear hK K
   exact H0 _ _ ⟨lmgr2_3, hlmgr2_3, llmgr2_3, gr2_3, T, M⟩
  refine gi 55 ?_; intro K hK
  refine Zos M T rfl rfl (T.e 1 rfl) evc rfl (.tail (.tail (.tail (.tail .head)))) rfl (by simp) rfl (by kernel_rfl) ?_; clear M T; intro wc ac M T
  refine Zso hK _ _ (MA.mk (fun _ => M.mask [true, true, false, false, false, true, true, true, true, true] rfl) (MA.mk (fun _ => M.mask [true, true, true, false, false, true, true, true, true, true] rfl) (MA.mk (fun _ => M.mask [true, true, true, true, false, true, true, true, true, true] rfl) (MA.mk (fun h => (no_of (by kernel_rfl) h).elim) (M.mask [false, false, false, false, false, false, false, false, false, false] rfl))))) ?_; clear hK K
  refine gq (v := (.pointer (some ⟨g2, 2, none⟩))) T 6 119 rfl (fun _ _ _ _ _ => (Zrf (off := 2) rfl (T.e 7 rfl) (fun _ _ _ => by kernel_rfl))) ?_; clear T ac; intro ac T
  refine g_m2 (i := 3) (j := 7) (by kernel_rfl) ?_ ?_
  ·refine gi 127 ?_; intro K hK
   refine ow_msK pcE 4 32 ⟨0, 0, false, 0⟩ rfl (by decide) rfl (m := 6) M T rfl rfl rfl rfl evc evc Tryd.underlying27 Tryd.info54 (by omega) (by decide) (by decide) ?_; clear M T; intro gr2_3 wc ac hgegr2_3 M T
   obtain ⟨lmgr2_3, hlmgr2_3⟩ : ∃ q : List Pt, q = List.replicate 6 ⟨0, 0, false, 0⟩ := ⟨_, rfl⟩
   have llmgr2_3 : lmgr2_3.length = 6 := by rw [hlmgr2_3, List.length_replicate]
   replace M : Mem w noEx wc [(gr2_3, .cells (pc lmgr2_3 ++ [])), (g5, .cells [.int .i64 stkS.lo, .int .i64 stkS.wi, .int .i64 stkS.a0, .int .i64 stkS.a1, .int .i64 stkS.c0, .int .i64 stkS.c1, .slice (some ⟨gsu5, 0, none⟩) stkS.ps.length 3]), (g4, .cells [.int .i64 stkS.lo, .int .i64 stkS.wi, .int .i64 stkS.a0, .int .i64 stkS.a1, .int .i64 stkS.c0, .int .i64 stkS.c1, .slice (some ⟨gsu4, 0, none⟩) stkS.ps.length 3]), (g3, .cells [.int .i64 stkS.lo, .int .i64 stkS.wi, .int .i64 stkS.a0, .int .i64 stkS.a1, .int .i64 stkS.c0, .int .i64 stkS.c1, .slice (some ⟨gsu3, 0, none⟩) stkS.ps.length 3]), (g2, .cells [.int .i64 stkS.lo, .int .i64 stkS.wi, .int .i64 stkS.a0, .int .i64 stkS.a1, .int .i64 stkS.c0, .int .i64 stkS.c1, .slice (some ⟨gsu2, 0, none⟩) stkS.ps.length 3]), (g1, .cells [.int .i64 13, .int .i64 stkS.wi, .int .i64 stkS.a0, .int .i64 stkS.a1, .int .i64 stkS.c0, .int .i64 stkS.c1, .slice (some ⟨gsu1, 0, none⟩) stkS.ps.length 3]), (gsu5, .cells [.int .i64 3, .int .i64 2, .bool false, .int .i64 0, .int .i64 2, .int .i64 3, .bool true, .int .i64 0, .int .i64 4, .int .i64 1, .bool false, .int .i64 0]), (gsu4, .cells [.int .i64 3, .int .i64 2, .bool false, .int .i64 0, .int .i64 2, .int .i64 3, .bool true, .int .i64 0, .int .i64 4, .int .i64 1, .bool false, .int .i64 0]), (gsu3, .cells [.int .i64 3, .int .i64 2, .bool false, .int .i64 0, .int .i64 2, .int .i64 3, .bool true, .int .i64 0, .int .i64 4, .int .i64 1, .bool false, .int .i64 0]), (gsu2, .cells [.int .i64 3, .int .i64 2, .bool false, .int .i64 0, .int .i64 2, .int .i64 3, .bool true, .int .i64 0, .int .i64 4, .int .i64 1, .bool false, .int .i64 0]), (gsu1, .cells [.int .i64 3, .int .i64 2, .bool false, .int .i64 0, .int .i64 2, .int .i64 3, .bool true, .int .i64 0, .int .i64 4, .int .i64 1, .bool false, .int .i64 0])] := by rw [hlmgr2_3]; exact M
   have Ssgr2_3 := Sp.pre (w := w) (ex := noEx) (size := 4) (n := lmgr2_3.length) (g := gr2_3) (xs := pc lmgr2_3) (ys := []) (by simp [pc_length])
   refine Zso hK _ _ (MA.mk (fun _ => M.mask [false, true, true, false, false, false, true, true, true, true, true] rfl) (MA.mk (fun _ => M.mask [false, true, true, true, false, false, true, true, true, true, true] rfl) (MA.mk (fun _ => M.mask [false, true, true, true, true, false, true, true, true, true, true] rfl) (MA.mk (fun h => (no_of (by kernel_rfl) h).elim) (M.mask [false, false, false, false, false, false, false, false, false, false, false] rfl))))) ?_; clear hK K
   exact H1 _ _ ⟨lmgr2_3, hlmgr2_3, llmgr2_3, gr2_3, T, M⟩
  refine gi 247 ?_; intro K hK
  refine Zos M T rfl rfl (T.e 0 rfl) (T.e 1 rfl) rfl (.tail (.tail (.tail .head))) rfl (by simp) rfl (by kernel_rfl) ?_; clear M T; intro wc ac M T
  refine Zso hK _ _ (MA.mk (fun _ => M.mask [true, true, false, false, false, true, true, true, true, true] rfl) (MA.mk (fun _ => M.mask [true, true, true, false, false, true, true, true, true, true] rfl) (MA.mk (fun h => (no_of (by kernel_rfl) h).elim) (MA.mk (fun h => (no_of (by kernel_rfl) h).elim) (M.mask [false, false, false, false, false, false, false, false, false, false] rfl))))) ?_; clear hK K
  refine gw 3 255 ?_; intro K hK
  refine ow_msK pcE 4 32 ⟨0, 0, false, 0⟩ rfl (by decide) rfl (m := 6) M T rfl rfl rfl rfl evc evc Tryd.underlying27 Tryd.info54 (by omega) (by decide) (by decide) ?_; clear M T; intro gr2_3 wc ac hgegr2_3 M T
  obtain ⟨lmgr2_3, hlmgr2_3⟩ : ∃ q : List Pt, q = List.replicate 6 ⟨0, 0, false, 0⟩ := ⟨_, rfl⟩
  have llmgr2_3 : lmgr2_3.length = 6 := by rw [hlmgr2_3, List.length_replicate]
  replace M : Mem w noEx wc [(gr2_3, .cells (pc lmgr2_3 ++ [])), (g5, .cells [.int .i64 stkS.lo, .int .i64 stkS.wi, .int .i64 stkS.a0, .int .i64 stkS.a1, .int .i64 stkS.c0, .int .i64 stkS.c1, .slice (some ⟨gsu5, 0, none⟩) stkS.ps.length 3]), (g4, .cells [.int .i64 stkS.lo, .int .i64 stkS.wi, .int .i64 stkS.a0, .int .i64 stkS.a1, .int .i64 stkS.c0, .int .i64 stkS.c1, .slice (some ⟨gsu4, 0, none⟩) stkS.ps.length 3]), (g3, .cells [.int .i64 stkS.lo, .int .i64 stkS.wi, .int .i64 stkS.a0, .int .i64 stkS.a1, .int .i64 stkS.c0, .int .i64 stkS.c1, .slice (some ⟨gsu3, 0, none⟩) stkS.ps.length 3]), (g2, .cells [.int .i64 stkS.lo, .int .i64 stkS.wi, .int .i64 2, .int .i64 1, .int .i64 stkS.c0, .int .i64 stkS.c1, .slice (some ⟨gsu2, 0, none⟩) stkS.ps.length 3]), (g1, .cells [.int .i64 13, .int .i64 stkS.wi, .int .i64 stkS.a0, .int .i64 stkS.a1, .int .i64 stkS.c0, .int .i64 stkS.c1, .slice (some ⟨gsu1, 0, none⟩) stkS.ps.length 3]), (gsu5, .cells [.int .i64 3, .int .i64 2, .bool false, .int .i64 0, .int .i64 2, .int .i64 3, .bool true, .int .i64 0, .int .i64 4, .int .i64 1, .bool false, .int .i64 0]), (gsu4, .cells [.int .i64 3, .int .i64 2, .bool false, .int .i64 0, .int .i64 2, .int .i64 3, .bool true, .int .i64 0, .int .i64 4, .int .i64 1, .bool false, .int .i64 0]), (gsu3, .cells [.int .i64 3, .int .i64 2, .bool false, .int .i64 0, .int .i64 2, .int .i64 3, .bool true, .int .i64 0, .int .i64 4, .int .i64 1, .bool false, .int .i64 0]), (gsu2, .cells [.int .i64 3, .int .i64 2, .bool false, .int .i64 0, .int .i64 2, .int .i64 3, .bool true, .int .i64 0, .int .i64 4, .int .i64 1, .bool false, .int .i64 0]), (gsu1, .cells [.int .i64 3, .int .i64 2, .bool false, .int .i64 0, .int .i64 2, .int .i64 3, .bool true, .int .i64 0, .int .i64 4, .int .i64 1, .bool false, .int .i64 0])] := by rw [hlmgr2_3]; exact M
  have Ssgr2_3 := Sp.pre (w := w) (ex := noEx) (size := 4) (n := lmgr2_3.length) (g := gr2_3) (xs := pc lmgr2_3) (ys := []) (by simp [pc_length])
  refine Zso hK _ _ (MA.mk (fun _ => M.mask [false, true, true, false, false, false, true, true, true, true, true] rfl) (MA.mk (fun _ => M.mask [false, true, true, true, false, false, true, true, true, true, true] rfl) (MA.mk (fun h => (no_of (by kernel_rfl) h).elim) (MA.mk (fun h => (no_of (by kernel_rfl) h).elim) (M.mask [false, false, false, false, false, false, false, false, false, false, false] rfl))))) ?_; clear hK K
  exact H2 _ _ ⟨lmgr2_3, hlmgr2_3, llmgr2_3, gr2_3, T, M⟩
 refine gi 27 ?_; intro K hK
 refine ow_msK pcE 4 32 ⟨0, 0, false, 0⟩ rfl (by decide) rfl (m := 6) M T rfl rfl rfl rfl evc evc Tryd.underlying27 Tryd.info54 (by omega) (by decide) (by decide) ?_; clear M T; intro gr2_3 wc ac hgegr2_3 M T
 obtain ⟨lmgr2_3, hlmgr2_3⟩ : ∃ q : List Pt, q = List.replicate 6 ⟨0, 0, false, 0⟩ := ⟨_, rfl⟩
 have llmgr2_3 : lmgr2_3.length = 6 := by rw [hlmgr2_3, List.length_replicate]
 replace M : Mem w noEx wc [(gr2_3, .cells (pc lmgr2_3 ++ [])), (g5, .cells [.int .i64 stkS.lo, .int .i64 stkS.wi, .int .i64 stkS.a0, .int .i64 stkS.a1, .int .i64 stkS.c0, .int .i64 stkS.c1, .slice (some ⟨gsu5, 0, none⟩) stkS.ps.length 3]), (g4, .cells [.int .i64 stkS.lo, .int .i64 stkS.wi, .int .i64 stkS.a0, .int .i64 stkS.a1, .int .i64 stkS.c0, .int .i64 stkS.c1, .slice (some ⟨gsu4, 0, none⟩) stkS.ps.length 3]), (g3, .cells [.int .i64 stkS.lo, .int .i64 stkS.wi, .int .i64 stkS.a0, .int .i64 stkS.a1, .int .i64 stkS.c0, .int .i64 stkS.c1, .slice (some ⟨gsu3, 0, none⟩) stkS.ps.length 3]), (g2, .cells [.int .i64 stkS.lo, .int .i64 stkS.wi, .int .i64 stkS.a0, .int .i64 stkS.a1, .int .i64 stkS.c0, .int .i64 stkS.c1, .slice (some ⟨gsu2, 0, none⟩) stkS.ps.length 3]), (g1, .cells [.int .i64 stkS.lo, .int .i64 stkS.wi, .int .i64 stkS.a0, .int .i64 stkS.a1, .int .i64 stkS.c0, .int .i64 stkS.c1, .slice (some ⟨gsu1, 0, none⟩) stkS.ps.length 3]), (gsu5, .cells [.int .i64 3, .int .i64 2, .bool false, .int .i64 0, .int .i64 2, .int .i64 3, .bool true, .int .i64 0, .int .i64 4, .int .i64 1, .bool false, .int .i64 0]), (gsu4, .cells [.int .i64 3, .int .i64 2, .bool false, .int .i64 0, .int .i64 2, .int .i64 3, .bool true, .int .i64 0, .int .i64 4, .int .i64 1, .bool false, .int .i64 0]), (gsu3, .cells [.int .i64 3, .int .i64 2, .bool false, .int .i64 0, .int .i64 2, .int .i64 3, .bool true, .int .i64 0, .int .i64 4, .int .i64 1, .bool false, .int .i64 0]), (gsu2, .cells [.int .i64 3, .int .i64 2, .bool false, .int .i64 0, .int .i64 2, .int .i64 3, .bool true, .int .i64 0, .int .i64 4, .int .i64 1, .bool false, .int .i64 0]), (gsu1, .cells [.int .i64 3, .int .i64 2, .bool false, .int .i64 0, .int .i64 2, .int .i64 3, .bool true, .int .i64 0, .int .i64 4, .int .i64 1, .bool false, .int .i64 0])] := by rw [hlmgr2_3]; exact M
 have Ssgr2_3 := Sp.pre (w := w) (ex := noEx) (size := 4) (n := lmgr2_3.length) (g := gr2_3) (xs := pc lmgr2_3) (ys := []) (by simp [pc_length])
 refine Zso hK _ _ (MA.mk (fun _ => M.mask [false, true, true, false, false, false, true, true, true, true, true] rfl) (MA.mk (fun _ => M.mask [false, true, true, true, false, false, true, true, true, true, true] rfl) (MA.mk (fun _ => M.mask [false, true, true, true, true, false, true, true, true, true, true] rfl) (MA.mk (fun _ => M.mask [false, true, true, true, true, true, true, true, true, true, true] rfl) (M.mask [false, false, false, false, false, false, false, false, false, false, false] rfl))))) ?_; clear hK K
 refine gw 2 31 ?_; intro K hK
 refine Zoc (first := []) (cap := []) T rfl rfl rfl rfl evf (.cons evc (.cons evc .nil)) Tryd.func14 rfl rfl ?_
 refine Calls.mono (to8_any 2 1 _) ?_
 clear T; rintro e wc ⟨rfl, hb⟩ ac T
 replace M := M.call hb; clear hb
 refine Zso hK _ _ (MA.mk (fun _ => M.mask [false, true, true, false, false, false, true, true, true, true, true] rfl) (MA.mk (fun _ => M.mask [false, true, true, true, false, false, true, true, true, true, true] rfl) (MA.mk (fun _ => M.mask [false, true, true, true, true, false, true, true, true, true, true] rfl) (MA.mk (fun _ => M.mask [false, true, true, true, true, true, true, true, true, true, true] rfl) (M.mask [false, false, false, false, false, false, false, false, false, false, false] rfl))))) ?_; clear hK K
 exact H0 _ _ ⟨lmgr2_3, hlmgr2_3, llmgr2_3, gr2_3, T.pick [1, 0, 2, 3, 4, 5, 6, 7, 8, 9] rfl, M⟩
end Go.Proofs.YtaikhendogcflaaDoor


/-
  Walks of functions, and plain laws (texts put together). No condition.
-/
import Derived.Shelf.Strings.OnBuilder
import Derived.Shelf.LaysM
import Derived.Shelf.Strconv.Itoa3
import Derived.Test.YtmdbdaofjepelaaDoorProg
import Derived.Lib.Split
import Derived.Lib.Atoi
import Derived.Lib.AtoiAll
import Derived.Lib.ItoaMem
import Derived.LaidMore
import Derived.Stop.Joined
import Derived.Stop.LaidErr
import Derived.Lib.LaidTab
import Derived.Shelf.Vars
import Derived.HandedShaped
import Derived.Lay
import Derived.Test.YtmdbdaofjepelaaDoorRows
import Derived.Test.YtmdbdaofjepelaaDoorMReedKnown1
import Derived.Test.YtmdbdaofjepelaaDoorMReedKnown2
import Derived.Test.YtmdbdaofjepelaaDoorMReedKnown3
set_option maxRecDepth 100000
set_option maxHeartbeats 1000000
set_option linter.unusedSimpArgs false
set_option linter.unusedVariables false
namespace Go.Proofs.YtmdbdaofjepelaaDoor
open Go.RowKit
section
open Go.Shelf
def Tryd.laysM171_ren : Go.Shelf.Ren := ⟨fun | 171 => 70 | 243 => 98 | 246 => 115 | 283 => 124 | 284 => 125 | 285 => 126 | 286 => 127 | 129 => 131 | 317 => 130 | 318 => 132 | 319 => 133 | 320 => 110 | 337 => 122 | 338 => 123 | n => n, fun | 3 => 3 | 9 => 9 | 2 => 2 | 4 => 4 | 171 => 194 | 0 => 0 | 53 => 192 | 37 => 164 | 5 => 5 | 173 => 196 | 212 => 204 | 51 => 190 | 20 => 20 | 213 => 205 | 46 => 109 | 232 => 201 | 233 => 202 | n => n, fun | 17 => 2 | 18 => 0 | 19 => 1 | n => n⟩
theorem Tryd.laysM171 : Go.Proofs.LaysM.n171 Tryd.prog Tryd.laysM171_ren := {
 mixed := by kernel_rfl
 f129 := Tryd.func131.trans (congrArg some (by kernel_rfl))
 f171 := Tryd.func70.trans (congrArg some (by kernel_rfl))
 f243 := Tryd.func98.trans (congrArg some (by kernel_rfl))
 f246 := Tryd.func115.trans (congrArg some (by kernel_rfl))
 f283 := Tryd.func124.trans (congrArg some (by kernel_rfl))
 f284 := Tryd.func125.trans (congrArg some (by kernel_rfl))
 f285 := Tryd.func126.trans (congrArg some (by kernel_rfl))
 f286 := Tryd.func127.trans (congrArg some (by kernel_rfl))
 f317 := Tryd.func130.trans (congrArg some (by kernel_rfl))
 f318 := Tryd.func132.trans (congrArg some (by kernel_rfl))
 f319 := Tryd.func133.trans (congrArg some (by kernel_rfl))
 f320 := Tryd.func110.trans (congrArg some (by kernel_rfl))
 f337 := Tryd.func122.trans (congrArg some (by kernel_rfl))
 f338 := Tryd.func123.trans (congrArg some (by kernel_rfl))
 t0 := Tryd.underlying0
 a0 := Tryd.isAgg0
 z0 := Tryd.sizeOf0
 v0 := Tryd.zeroValue0
 t2 := Tryd.underlying2
 a2 := Tryd.isAgg2
 z2 := Tryd.sizeOf2
 v2 := Tryd.zeroValue2
 t3 := Tryd.underlying3
 a3 := Tryd.isAgg3
 z3 := Tryd.sizeOf3
 v3 := Tryd.zeroValue3
 t4 := Tryd.underlying4
 a4 := Tryd.isAgg4
 z4 := Tryd.sizeOf4
 v4 := Tryd.zeroValue4
 t5 := Tryd.underlying5
 a5 := Tryd.isAgg5
 z5 := Tryd.sizeOf5
 v5 := Tryd.zeroValue5
 t9 := Tryd.underlying9
 a9 := Tryd.isAgg9
 z9 := Tryd.sizeOf9
 v9 := Tryd.zeroValue9
 t20 := Tryd.underlying20
 a20 := Tryd.isAgg20
 z20 := Tryd.sizeOf20
 v20 := Tryd.zeroValue20
 t37 := Tryd.underlying164
 a37 := Tryd.isAgg164
 z37 := Tryd.sizeOf164
 v37 := Tryd.zeroValue164
 t46 := Tryd.underlying109
 a46 := Tryd.isAgg109
 z46 := Tryd.sizeOf109
 v46 := Tryd.zeroValue109
 t51 := Tryd.underlying190
 a51 := Tryd.isAgg190
 z51 := Tryd.sizeOf190
 v51 := Tryd.zeroValue190
 t53 := Tryd.underlying192
 a53 := Tryd.isAgg192
 z53 := Tryd.sizeOf192
 v53 := Tryd.zeroValue192
 t171 := Tryd.underlying194
 a171 := Tryd.isAgg194
 z171 := Tryd.sizeOf194
 v171 := Tryd.zeroValue194
 t173 := Tryd.underlying196
 a173 := Tryd.isAgg196
 z173 := Tryd.sizeOf196
 v173 := Tryd.zeroValue196
 t212 := Tryd.underlying204
 a212 := Tryd.isAgg204
 z212 := Tryd.sizeOf204
 v212 := Tryd.zeroValue204
 t213 := Tryd.underlying205
 a213 := Tryd.isAgg205
 z213 := Tryd.sizeOf205
 t232 := Tryd.underlying201
 a232 := Tryd.isAgg201
 z232 := Tryd.sizeOf201
 v232 := Tryd.zeroValue201
 t233 := Tryd.underlying202
 a233 := Tryd.isAgg202
 z233 := Tryd.sizeOf202
 v233 := Tryd.zeroValue202
 g17 := by kernel_rfl
 g18 := by kernel_rfl
 g19 := by kernel_rfl
 i0 := by kernel_rfl
 i2 := by kernel_rfl
 i3 := by kernel_rfl
 i4 := by kernel_rfl
 i5 := by kernel_rfl
 i9 := by kernel_rfl
 i20 := by kernel_rfl
 i37 := by kernel_rfl
 i46 := by kernel_rfl
 i51 := by kernel_rfl
 i53 := by kernel_rfl
 i171 := by kernel_rfl
 i173 := by kernel_rfl
 i212 := by kernel_rfl
 i232 := by kernel_rfl
 i233 := by kernel_rfl
 m17 := by kernel_rfl
 m18 := by kernel_rfl
 m19 := by kernel_rfl }
end
section
open Go Go.Lib
end
section
open Go Go.Lib
def dd3 (u : Nat) : List UInt8 := if u < 10 then [UInt8.ofNat (48 + u)] else if u < 100 then [UInt8.ofNat (48 + u / 10), UInt8.ofNat (48 + u % 10)] else [UInt8.ofNat (48 + u / 100), UInt8.ofNat (48 + u / 10 % 10), UInt8.ofNat (48 + u % 10)]
theorem dd3_eq {u : Nat} (h : u < 1000) : decDigits u = dd3 u := by
 unfold dd3
 split
 ·rename_i h1; exact decDigits_one h1
 ·rename_i h1
  split
  ·rename_i h2; exact decDigits_two h1 h2
  ·rename_i h2
   rw [decDigits, dif_neg h1, decDigits_two (by omega) (by omega), Nat.div_div_eq_div_mul]
   rfl
def it3 (v : Int) : List UInt8 := if v < 0 then 45 :: dd3 v.natAbs else dd3 v.toNat
theorem it3_eq {v : Int} (h : -999 ≤ v ∧ v ≤ 999) : itoa v = it3 v := by
 unfold itoa it3
 split
 · rw [dd3_eq (by omega)]
 · rw [dd3_eq (by omega)]
end
structure StrW (w : World) : Prop where
 pow : Lib.TabIs Tryd.prog w "internal/strconv.uint64pow10" .u64 Lib.pow10Tab
 lt : 3 < w.heap.size
theorem powNamed : Tryd.prog.globalNamed "internal/strconv.uint64pow10" = some 2 := by kernel_rfl
theorem StrW.mem {w wc : World} {ex : Nat → Prop} {L : List (Nat × BA)} (h : StrW w) (M : Mem w ex wc L) (hx : ∀ b, b ≤ 3 → ¬ ex b) : StrW wc := by
 have hl := h.lt
 have hb : ∀ b, b ≤ 3 → wc.heap[b]? = w.heap[b]? := fun b hb => M.block b (by omega) (hx b hb)
 have hc : ∀ b, b ≤ 3 → ∀ v, w.cell? ⟨b, 0, none⟩ = some v → wc.cell? ⟨b, 0, none⟩ = some v := fun b h9 v hv => (World.cell?_of_block (w := w) (a := ⟨b, 0, none⟩) (hb b h9)).trans hv
 refine ⟨?_, Nat.lt_of_lt_of_le hl M.size⟩
 ·have hp := h.pow
  unfold Lib.TabIs World.var? at hp ⊢
  rw [powNamed] at hp ⊢
  simp only [Option.bind_some] at hp ⊢
  rw [hb 2 (by decide)]
  exact hp
theorem StrW.mem0 {w wc : World} {L : List (Nat × BA)} (h : StrW w) (M : Mem w noEx wc L) : StrW wc := h.mem M (fun _ _ h => h)
section
variable {w w' : World} {ex : Nat → Prop} {I L : List (Nat × BA)} {n b o k : Nat} {A : Option Addr} {l : List (List UInt8)} {p : (List UInt8)}
end
theorem Itoa_any (n : Int) (w : World) (hn : -9223372036854775808 ≤ n ∧ n ≤ 9223372036854775807) (hT : StrW w) : Calls Tryd.prog 70 #[.int .i64 n] w fun e w' => e = .returned (sv (Lib.itoa n)) ∧ Below w.heap.size w w' :=
 (Any.strconv_Itoa Tryd.laysM171 n hn.1 hn.2 w hT.pow).mono fun e w' h => by
  obtain ⟨rfl, k, os, rfl⟩ := h
  exact ⟨rfl, rfl, rfl, rfl, by simp, fun b hb => Sort.heap_grow_old _ _ hb⟩
section
open Go.ChangeShapes Go.WideShapes Go.ChangeAt Go.RowKit
def laidT : List (String × DataW Unit) := [("math/bits.deBruijn32tab", Rows.laid_math_bits_deBruijn32tab), ("math/bits.deBruijn64tab", Rows.laid_math_bits_deBruijn64tab), ("internal/strconv.uint64pow10", Rows.laid_internal_strconv_uint64pow10)]
theorem gPow : Tryd.prog.globalNamed "internal/strconv.uint64pow10" = some 2 := by kernel_rfl
theorem of_laidT {W : World} (h : laidMetH Tryd.prog laidT W) (hs : W.ShapedOpen Tryd.prog) : StrW W := by
 rw [MakeChecks.laidMetH_plain _ _ _ (by kernel_rfl)] at h
 have h2 : laidMet Tryd.prog (("internal/strconv.uint64pow10", Lib.tabData .u64 Lib.pow10Tab) :: _) W := h.tail.tail
 obtain ⟨m, hm⟩ := cell_of_shapedOpen_int (g := 3) (t := 3) (zero := #[.int .i64 0]) hs (of_decide_eq_true (by kernel_rfl)) (by kernel_rfl) rfl (by kernel_rfl) (by kernel_rfl) Tryd.underlying3
 refine ⟨Lib.tabIs_of_head gPow (t := 204) (e := 192) (n := 20) (by kernel_rfl) (by kernel_rfl) (by kernel_rfl) (by kernel_rfl) (by kernel_rfl) h2, ?_⟩
 obtain ⟨ob, h1, -⟩ := cell_isC hm
 exact (Array.getElem?_eq_some_iff.1 h1).1
section
variable {H : Type} {enc : TypeId × Value → H} {W : World}
theorem returnsT {a : Assume} {C : Checked} {os : Os} {f : FuncId} {fn : Func} {s : ChangeSpec} {conds : List PathCond} {apart fresh handsOn again : Bool} {X : World → Array Value → Prop}
  (hX : ∀ (w w' : World) (args : Array Value), w.heap = w'.heap → X w args → X w' args)
  (own : ownKnob C.prog.godebug = none) (started : os.Started) (noInit : C.prog.inits.idxOf? f = none) (hfn : C.prog.funcs[f]? = some fn)
  (witness : ∃ (w : World) (tape : Tape) (i : Input), w.os = os ∧ (w.forCall tape i).Shaped C.prog ∧ i.vars = [] ∧ Input.okWide C.prog (w.forCall tape i) .any w.heap.size f i ∧
   ((s.pre enc C.prog fn conds apart (w.forCall tape i).memory i.args ∧ X (w.forCall tape i).memory i.args) ∧ sizedMet enc C.prog fn (OpenSpec.ofChange s) apart (w.forCall tape i).memory i.args) ∧ a.holds C.prog (lone (Frame.enter C.prog f i.args .normal) [] (w.forCall tape i)))
  (contract : ∀ (W : World) (base : Nat) (args : Array Value) (ds gs : List (DataW H)) (before : List MemPlace),
   (∀ (j : Nat) t v, fn.params[j]? = some t → args[j]? = some v → Value.okWide C.prog W .any base t v) →
   DataW.Whole enc C.prog fn.params.toList s.vars apart W args.toList ds gs before →
   X W args → W.ShapedOpen C.prog →
   Calls C.prog f args W fun e W' => ∃ v, e = .returned v ∧ s.post enc C.prog fn apart fresh handsOn again W args v W') :
  ReturnsInHanded a C os f .any (fun w args => (s.pre enc C.prog fn conds apart w args ∧ X w args) ∧ sizedMet enc C.prog fn (OpenSpec.ofChange s) apart w args) (s.post enc C.prog fn apart fresh handsOn again) := by
 refine returnsInHanded_of_calls own started noInit witness ?_
 intro w tape i _ hsh _ hok hpre hholds
 obtain ⟨_, _, _, fn', hfn', _, _, _, _, hval⟩ := hok
 have e : fn' = fn := Option.some.inj (hfn'.symm.trans hfn)
 subst e
 obtain ⟨⟨⟨ds, gs, before, hw, hc⟩, hx⟩, hz⟩ := hpre
 have hw' := DataW.Whole.of_heap (w' := w.forCall tape i) (by rfl) hw
 refine (contract (w.forCall tape i) w.heap.size i.args ds gs before hval hw' (hX _ _ _ (by rfl) hx) hsh).mono fun e W' ⟨v, he, hp⟩ => ?_
 subst he
 exact ChangeSpec.post_blind hp
end
theorem start_shT (os : Os) (args : Array Value) : ((World.laidAll Tryd.prog os laidT).forCall (fun _ _ => 0) ⟨#[], args, []⟩).Shaped Tryd.prog := World.shaped_of_ZipB (by kernel_rfl) (by kernel_rfl)
theorem start_metT (os : Os) (args : Array Value) : laidMetH Tryd.prog laidT ((World.laidAll Tryd.prog os laidT).forCall (fun _ _ => 0) ⟨#[], args, []⟩).memory := by
 rw [MakeChecks.laidMetH_plain _ _ _ (by kernel_rfl)]
 exact laidMet_laidAll _ (by kernel_rfl) (by kernel_rfl)
end
section
open Go Go.Lib
end
section
open Go Go.Lib
structure Kd where
 word : List UInt8
 rg : Nat
 nm : Nat
section
variable (K0 K1 K2 K3 : Kd)
end
section
variable {K0 K1 K2 K3 : Kd}
end
end
section
open Go Go.Lib
abbrev sm (v : Int) : Prop := -999 ≤ v ∧ v ≤ 999
end
section
open Go Go.Lib
section
variable {K0 K1 K2 K3 : Kd}
end
end
section
open Go Go.Lib
def tongueW : List UInt8 := [116, 111, 110, 103, 117, 101]
def fileW : List UInt8 := [102, 105, 108, 101]
def shiftW : List UInt8 := [115, 104, 105, 102, 116]
def passW : List UInt8 := [112, 97, 115, 115]
def rgT : List (Int × Int) → List UInt8
 | [] => []
 | p :: l => (32 :: (itoa p.1 ++ 58 :: itoa p.2)) ++ rgT l
def writeT (j : Jb) : List UInt8 :=
 (tongueW ++ rgT [(j.p0, j.p1), (j.t0, j.t1), (j.r0, j.r1)] ++ [10]) ++ (fileW ++ rgT [(j.u0, j.u1), (j.d0, j.d1), (j.a0, j.a1), (j.b0, j.b1)] ++ [32] ++ itoa j.le ++ [10]) ++ j.sh.flatMap (fun x => shiftW ++ rgT [x] ++ [10]) ++ (passW ++ [32] ++ itoa j.wi ++ [32] ++ itoa j.me ++ [10])
structure Jb.sm (j : Jb) : Prop where
 one : ∀ v ∈ [j.p0, j.p1, j.t0, j.t1, j.r0, j.r1], Go.Proofs.YtmdbdaofjepelaaDoor.sm v
 two : ∀ v ∈ [j.u0, j.u1, j.d0, j.d1, j.a0, j.a1, j.b0, j.b1, j.le], Go.Proofs.YtmdbdaofjepelaaDoor.sm v
 sh : ∀ x ∈ j.sh, Go.Proofs.YtmdbdaofjepelaaDoor.sm x.1 ∧ Go.Proofs.YtmdbdaofjepelaaDoor.sm x.2
 end' : ∀ v ∈ [j.wi, j.me], Go.Proofs.YtmdbdaofjepelaaDoor.sm v
theorem Jb.good.sm {j : Jb} (h : j.good) : j.sm := by
 have h1 := h.p
 have h2 := h.t
 have h3 := h.r
 have h4 := h.u
 have h5 := h.d
 have h6 := h.a
 have h7 := h.b
 have h8 := h.le
 have h9 := h.wi
 have h10 := h.me
 refine ⟨?_, ?_, fun x hx => ?_, ?_⟩
 ·intro v hv
  simp only [List.mem_cons, List.not_mem_nil, or_false] at hv
  rcases hv with rfl | rfl | rfl | rfl | rfl | rfl <;> exact ⟨by omega, by omega⟩
 ·intro v hv
  simp only [List.mem_cons, List.not_mem_nil, or_false] at hv
  rcases hv with rfl | rfl | rfl | rfl | rfl | rfl | rfl | rfl | rfl <;> exact ⟨by omega, by omega⟩
 ·have := h.sh x hx
  exact ⟨⟨by omega, by omega⟩, by omega, by omega⟩
 ·intro v hv
  simp only [List.mem_cons, List.not_mem_nil, or_false] at hv
  rcases hv with rfl | rfl <;> exact ⟨by omega, by omega⟩
end
section
open Go Go.Lib
theorem itoa_len {v : Int} (h : sm v) : (itoa v).length ≤ 4 := by
 rw [it3_eq h]
 unfold it3 dd3
 split <;> split <;> (try split) <;> simp
end
theorem rgT_snoc (l : List (Int × Int)) (x0 x1 : Int) : rgT (l ++ [(x0, x1)]) = rgT l ++ (([32] ++ Lib.itoa x0 ++ [58]) ++ Lib.itoa x1) := by
 induction l with
 | nil => simp [rgT]
 | cons p r ih => rw [List.cons_append, rgT, rgT, ih]; simp only [List.append_assoc]
theorem rgT_len : ∀ (l : List (Int × Int)), (∀ p ∈ l, sm p.1 ∧ sm p.2) → (rgT l).length ≤ l.length * 10
 | [], _ => Nat.le_refl _
 | p :: r, h => by
  have h1 := itoa_len (h p Zz2).1
  have h2 := itoa_len (h p Zz2).2
  have h3 := rgT_len r fun q hq => h q (Zz1 hq)
  unfold rgT
  simp only [List.length_append, List.length_cons]
  omega
theorem shT_len : ∀ (l : List (Int × Int)), (∀ p ∈ l, sm p.1 ∧ sm p.2) → (l.flatMap fun x => shiftW ++ rgT [x] ++ [10]).length ≤ l.length * 16
 | [], _ => Nat.le_refl _
 | p :: r, h => by
  have h1 := rgT_len [p] (fun q hq => by rcases List.mem_singleton.1 hq with rfl; exact h q Zz2)
  have h3 := shT_len r fun q hq => h q (Zz1 hq)
  rw [List.flatMap_cons, List.length_append]
  simp only [List.length_append, List.length_cons, List.length_nil, shiftW] at h1 h3 ⊢
  omega
theorem take_sn {α : Type} {l : List α} {k : Nat} {x : α} (h : l[k]? = some x) : l.take (k + 1) = l.take k ++ [x] := by rw [List.take_add_one, h]; rfl
def wrT (j : Jb) : List UInt8 := if checkJ j = 0 then writeT j else []
theorem rangesT_any (A : Option Addr) (n c : Nat) (l : List (Int × Int)) (w : World) (hr : Rd w w.heap.size 2 A n (rc l)) (hn : n ≤ 1000) (hl : ∀ p ∈ l, sm p.1 ∧ sm p.2) (hT : StrW w)  :
   Calls Tryd.prog 82 #[.slice A n c] w fun e w' => e = .returned (sv (rgT l)) ∧ Below w.heap.size w w' := by
 have hll := hr.len2
 obtain ⟨bJ, oJ, SJ⟩ := Sp.old hr
 refine Zpx noEx Tryd.func82 rfl 25 rfl [.slice A n c] rfl rfl (Mem.init w _) ?_
 intro ac wc T M
 refine Zsr ?_
 refine lq T (Zra rfl evc) ?_; clear T ac; intro ac T
 replace T := T.pick [1] rfl
 refine Zln ?_
 refine Zsr ?_
 refine lq T (Zra rfl evc) ?_; clear T ac; intro ac T
 refine Zln ?_
 refine wp_seq ?_
 refine Zsr ?_
 refine Zg3 T (Zq (Zrm rfl (T.e 1 rfl))) rfl (Zl Tryd.underlying28 0 rfl rfl) rfl (fun _ T => Zq (Zrm rfl evc)) rfl ?_; clear T ac; intro ac T
 replace T := T.pick [0, 1, 2, 3] rfl
 refine Zln ?_
 refine wp_block ?_
 refine wp_loop_n (fun mz ac wc => ∃ (k : Nat), mz = n - k ∧ (k ≤ n) ∧ ((rgT (l.take k)).length ≤ k * 10) ∧ Tm ac 25 [(3, sv (rgT (l.take k))), (6, .slice A n c), (7, .int .i64 ((n : Nat) : Int)), (8, .int .i64 (k : Int))] ∧ Mem w noEx wc []) ?_ ?_
 ·exact ⟨_, 0, rfl, (Nat.zero_le _), (Nat.le_refl _), T.pick [3, 2, 1, 0] rfl, M.mask [] rfl⟩
 clear T M
 rintro mz ac wc ⟨k, hmm1, hk, hs, T, M⟩
 refine Zsr ?_
 refine lq T (rn_lss rfl (T.e 3 rfl) (T.e 2 rfl)) ?_; clear T ac; intro ac T
 refine Zln ?_
 refine wp_seq ?_
 refine wp_if (T.e 0 rfl) ?_ ?_
 ·intro h1
  obtain ⟨x0, x1, hkx, -⟩ := rc_next (l := l) (k := k) (by omega)
  have hx := hl _ (List.mem_of_getElem? hkx)
  dsimp only at hx
  obtain ⟨⟨hx1, hx2⟩, hx3, hx4⟩ := hx
  refine Zsk ?_
  refine wp_seq ?_
  refine wp_block ?_
  refine Zsr ?_
  refine Zg2 (v2 := (.agg #[.int .i64 x0, .int .i64 x1])) T (Zq (Zri (size := 2) k rfl (T.e 2 rfl) (T.e 4 rfl) ⟨_, Tryd.underlying28, by kernel_rfl⟩ rfl (by omega) (SJ.at0 (by omega)))) rfl (fun _ T => Zq (rn_rowat (Sp.rcR SJ M (Zz9 _) hkx) rfl (T.e 0 rfl) rfl)) rfl ?_; clear T ac; intro ac T
  refine Zl2 ?_
  refine Zoa M T rfl rfl rfl rfl ?_; clear M T; intro g1 wc ac M T
  refine Zl2 ?_
  refine Zos M T rfl rfl (T.e 0 rfl) (T.e 1 rfl) rfl .head rfl (by simp) rfl (by kernel_rfl) ?_; clear M T; intro wc ac M T
  replace T := T.pick [0, 4, 5, 6, 7] rfl
  refine Zln ?_
  refine Zgs M (M.mask [true] rfl) 12 (by kernel_rfl) rfl (by kernel_rfl) ?_
  clear M; intro wc M
  refine gq T 0 1 rfl (fun _ _ _ _ _ => (Zrm rfl (T.e 1 rfl))) ?_; clear T ac; intro ac T
  refine gq (v := (.pointer (some ⟨g1, 0, none⟩))) T 1 3 rfl (fun _ _ _ _ _ => (Zrf (off := 0) rfl (T.e 1 rfl) (fun _ _ _ => by kernel_rfl))) ?_; clear T ac; intro ac T
  refine gq T 2 7 rfl (fun B w' hD hl hS => (Zro (Mem.nth (show Mem w noEx w' _ from hS) 0 rfl) rfl (T.e 0 rfl) rfl)) ?_; clear T ac; intro ac T
  refine gq (v := (.pointer (some ⟨g1, 1, none⟩))) T 6 71 rfl (fun _ _ _ _ _ => (Zrf (off := 1) rfl (T.e 3 rfl) (fun _ _ _ => by kernel_rfl))) ?_; clear T ac; intro ac T
  refine gq T 7 199 rfl (fun B w' hD hl hS => (Zro (Mem.nth (show Mem w noEx w' _ from hS) 0 rfl) rfl (T.e 0 rfl) rfl)) ?_; clear T ac; intro ac T
  refine gw 3 207 ?_; intro K hK
  refine Zoc (first := []) (cap := []) T rfl rfl rfl rfl evf (.cons (T.e 2 rfl) .nil) Tryd.func70 rfl rfl ?_
  refine Calls.mono (Itoa_any x0 _ (by (try dsimp only); omega) (hT.mem0 M)) ?_
  clear T; rintro e wc ⟨rfl, hb⟩ ac T
  replace M := M.call hb; clear hb
  have hiu1 := itoa_len (v := x0) ⟨by (try dsimp only); omega, by (try dsimp only); omega⟩
  refine Zso hK _ _ (M.mask [true] rfl) ?_; clear hK K
  refine gq T 4 223 rfl (fun _ _ _ _ _ => (rn_sadd rfl evc (T.e 0 rfl) (by (try simp only [List.length_append, List.length_cons, List.length_nil]); omega))) ?_; clear T ac; intro ac T
  refine gq T 5 255 rfl (fun _ _ _ _ _ => (rn_sadd rfl (T.e 0 rfl) evc (by (try simp only [List.length_append, List.length_cons, List.length_nil]); omega))) ?_; clear T ac; intro ac T
  refine gw 8 511 ?_; intro K hK
  refine Zoc (first := []) (cap := []) T rfl rfl rfl rfl evf (.cons (T.e 3 rfl) .nil) Tryd.func70 rfl rfl ?_
  refine Calls.mono (Itoa_any x1 _ (by (try dsimp only); omega) (hT.mem0 M)) ?_
  clear T; rintro e wc ⟨rfl, hb⟩ ac T
  replace M := M.call hb; clear hb
  have hiu2 := itoa_len (v := x1) ⟨by (try dsimp only); omega, by (try dsimp only); omega⟩
  refine Zso hK _ _ (M.mask [true] rfl) ?_; clear hK K
  refine gq T 9 1023 rfl (fun _ _ _ _ _ => (rn_sadd rfl (T.e 1 rfl) (T.e 0 rfl) (by (try simp only [List.length_append, List.length_cons, List.length_nil]); omega))) ?_; clear T ac; intro ac T
  refine gq T 10 2047 rfl (fun _ _ _ _ _ => (rn_sadd rfl (T.e 9 rfl) (T.e 0 rfl) (by (try simp only [List.length_append, List.length_cons, List.length_nil]); omega))) ?_; clear T ac; intro ac T
  refine g_q (v := (sv ((rgT (l.take k)) ++ (((([32]) ++ (Lib.itoa x0)) ++ ([58])) ++ (Lib.itoa x1))))) (T := T.pick [0, 1, 2, 3, 4, 5, 6, 7, 8, 9, 10, 11, 13, 14, 15] rfl) (i := 11) rfl (by kernel_rfl) (by kernel_rfl : (Zpb 12 2047).setIfInBounds 11 true = Zpb 12 4095) si_U (fun _ _ _ h => h) rfl rfl rfl rfl (fun _ _ _ _ _ => (Zra rfl (T.e 0 rfl))) ?_; clear T ac; intro ac T
  refine Zgd (by kernel_rfl) ?_
  replace T := T.pick [0, 13, 14, 15] rfl
  replace M := M.mask [false] rfl
  refine Znb ?_
  refine nm_then ?_
  refine wp_region_lit ?_
  refine lq T (rn_add rfl (T.e 3 rfl) evc (by omega)) ?_; clear T ac; intro ac T
  refine l_q (v := (.int .i64 ((k : Int) + 1))) (T.pick [0, 1, 2, 3] rfl) rfl rfl rfl rfl (Zrm rfl (T.e 0 rfl)) ?_; clear T ac; intro ac T
  replace T := T.pick [0, 2, 3, 4] rfl
  refine Zln ?_
  have e9 : rgT (l.take k) ++ (([32] ++ Lib.itoa x0 ++ [58]) ++ Lib.itoa x1) = rgT (l.take (k + 1)) := by rw [take_sn hkx, rgT_snoc]
  rw [e9] at T
  have hs2 := congrArg List.length e9
  simp only [List.length_append, List.length_cons, List.length_nil] at hs2
  exact ⟨_, by omega, k + 1, rfl, (by omega), (by omega), T.pick [1, 2, 3, 0] rfl, M.mask [] rfl⟩
 intro h1
 refine wp_exit ?_
 refine Zet ?_
 refine Zet ?_
 refine ex_hit ?_
 refine nm_then ?_
 refine Zsr ?_
 refine Zg2 T (Zq (Zrm rfl (T.e 1 rfl))) rfl (Za 0 rfl rfl) rfl ?_; clear T ac; intro ac T
 replace T := T.pick [0] rfl
 refine Zln ?_
 refine wp_ret ?_
 refine rt_1 T rfl (T.e 0 rfl) ?_
 have e9 : l.take k = l := List.take_of_length_le (by omega)
 rw [e9]
 exact ⟨rfl, M.below⟩
theorem write_any (j : Jb) (A : Option Addr) (c : Nat) (w : World) (hr : Rd w w.heap.size 2 A j.sh.length (rc j.sh)) (hn : j.sh.length ≤ 1000000) (hT : StrW w)  :
   Calls Tryd.prog 51 #[jobV j A c] w fun e w' => e = .returned (.tuple #[sv (wrT j), .int .i64 (checkJ j)]) ∧ Below w.heap.size w w' := by
 obtain ⟨bJ, oJ, SJ⟩ := Sp.old hr
 refine Zpx noEx Tryd.func51 rfl 77 rfl [.agg #[.int .i64 j.p0, .int .i64 j.p1, .int .i64 j.t0, .int .i64 j.t1, .int .i64 j.r0, .int .i64 j.r1, .int .i64 j.u0, .int .i64 j.u1, .int .i64 j.d0, .int .i64 j.d1, .int .i64 j.a0, .int .i64 j.a1, .int .i64 j.b0, .int .i64 j.b1, .int .i64 j.le, .slice A j.sh.length c, .int .i64 j.wi, .int .i64 j.me]] rfl rfl (Mem.init w _) ?_
 intro ac wc T M
 refine Zsr ?_
 refine Zl2 ?_
 refine Zob M T rfl rfl rfl rfl (T.e 0 rfl) rfl ?_; clear M T; intro g1 wc ac M T
 refine Zg2 T (Zq (Zra rfl evc)) rfl (Zc rfl) rfl ?_; clear T ac; intro ac T
 replace T := T.pick [2] rfl
 refine Zln ?_
 refine wp_seq ?_
 refine Zsr ?_
 refine lq T (Zrr (Mem.nth M 0 rfl) rfl (T.e 0 rfl) rfl) ?_; clear T ac; intro ac T
 refine Zl2 ?_
 refine Zoc (first := []) (cap := []) T rfl rfl rfl rfl evf (.cons (T.e 0 rfl) .nil) Tryd.func8 rfl rfl ?_
 refine Calls.mono (check_any j _ _ _ (SJ.rd M (Zz9 _)) (by omega)) ?_
 clear T; rintro e wc ⟨rfl, hb⟩ ac T
 replace M := M.call hb; clear hb
 refine lq T (Zra rfl (T.e 0 rfl)) ?_; clear T ac; intro ac T
 replace T := T.pick [0, 3] rfl
 refine Zln ?_
 refine Zsr ?_
 refine Zg2 T (Zq (Zrm rfl (T.e 0 rfl))) rfl (fun _ T => Zq (rn_neq rfl (T.e 0 rfl) evc)) rfl ?_; clear T ac; intro ac T
 replace T := T.pick [0, 2, 3] rfl
 refine Zln ?_
 refine wp_ifn (T.e 0 rfl) ?_ ?_
 ·intro h1
  refine Zsr ?_
  refine Zg3 T (Zq (Zrm rfl (T.e 1 rfl))) rfl (Zc rfl) rfl (Za 1 rfl rfl) rfl ?_; clear T ac; intro ac T
  refine wpList_nil ?_
  replace T := T.pick [0, 1] rfl
  replace M := M.mask [false] rfl
  refine Znr ?_
  refine Zrt ?_
  refine rt_2 T rfl (T.e 1 rfl) (T.e 0 rfl) ?_
  have e9 : wrT j = [] := by unfold wrT; rw [if_neg (by assumption)]
  rw [e9]
  exact ⟨rfl, M.below⟩
 intro h1
 have gj := good_of (j := j) (by simpa using h1)
 have gq1 := gj.p
 have gq2 := gj.t
 have gq3 := gj.r
 have gq4 := gj.u
 have gq5 := gj.d
 have gq6 := gj.a
 have gq7 := gj.b
 have gq8 := gj.le
 have gq9 := gj.wi
 have gq10 := gj.me
 have gq11 := gj.few
 have hj0 : checkJ j = 0 := by simpa using h1
 refine Zsk ?_
 refine Zsr ?_
 refine Zg8 (v1 := (.pointer (some ⟨g1, 0, none⟩))) (v2 := (.pointer (some ⟨g1, 0, none⟩))) (v4 := (.pointer (some ⟨g1, 0, none⟩))) (v5 := (.pointer (some ⟨g1, 2, none⟩))) (v7 := (.pointer (some ⟨g1, 0, none⟩))) (v8 := (.pointer (some ⟨g1, 4, none⟩))) T (Zq (Zrf (off := 0) rfl (T.e 2 rfl) (fun _ _ _ => by kernel_rfl))) rfl (Zf 0 0 rfl rfl) rfl (Zr M 0 0 rfl rfl rfl rfl) rfl (Zf 0 5 rfl rfl) rfl (Zf 2 0 rfl rfl) rfl (Zr M 0 0 rfl rfl rfl rfl) rfl (Zf 0 8 rfl rfl) rfl (Zf 4 0 rfl rfl) rfl ?_; clear T ac; intro ac T
 refine lq T (Zrr (Mem.nth M 0 rfl) rfl (T.e 0 rfl) rfl) ?_; clear T ac; intro ac T
 refine Zl2 ?_
 refine ow_bs (e := 23) [.int .i64 j.p0, .int .i64 j.p1, .int .i64 j.t0, .int .i64 j.t1, .int .i64 j.r0, .int .i64 j.r1] M T rfl rfl rfl rfl (.cons (T.e 6 rfl) (.cons (T.e 3 rfl) (.cons (T.e 0 rfl) .nil))) (fun _ => by kernel_rfl) ?_; clear M T; intro g2 wc ac M T
 refine Zl2 ?_
 refine Zoc (first := []) (cap := []) T rfl rfl rfl rfl evf (.cons (T.e 0 rfl) .nil) Tryd.func82 rfl rfl ?_
 refine Calls.mono (rangesT_any _ _ _ ([(j.p0, j.p1), (j.t0, j.t1), (j.r0, j.r1)]) _ (M.rdOwn (Zne (i := 0) rfl) rfl rfl) (by omega) (by intro p hp; simp only [List.mem_cons, List.not_mem_nil, or_false] at hp; rcases hp with rfl | rfl | rfl <;> exact ⟨⟨by dsimp only; omega, by dsimp only; omega⟩, by dsimp only; omega, by dsimp only; omega⟩) (hT.mem0 M)) ?_
 clear T; rintro e wc ⟨rfl, hb⟩ ac T
 replace M := M.call hb; clear hb
 have hru2 := rgT_len ([(j.p0, j.p1), (j.t0, j.t1), (j.r0, j.r1)]) (by intro p hp; simp only [List.mem_cons, List.not_mem_nil, or_false] at hp; rcases hp with rfl | rfl | rfl <;> exact ⟨⟨by dsimp only; omega, by dsimp only; omega⟩, by dsimp only; omega, by dsimp only; omega⟩)
 simp only [List.length_cons, List.length_nil] at hru2
 refine Zg3 T (Zq (rn_sadd rfl evc (T.e 0 rfl) (by (try simp only [List.length_append, List.length_cons, List.length_nil]); omega))) rfl (fun _ T => Zq (rn_sadd rfl (T.e 0 rfl) evc (by (try simp only [List.length_append, List.length_cons, List.length_nil]); omega))) rfl (Za 0 rfl rfl) rfl ?_; clear T ac; intro ac T
 refine wpList_nil ?_
 replace T := T.pick [0, 16] rfl
 replace M := M.mask [false, true] rfl
 refine Zns ?_
 refine Zgs M (M.mask [true] rfl) 25 (by kernel_rfl) rfl (by kernel_rfl) ?_
 clear M; intro wc M
 refine gq T 0 1 rfl (fun _ _ _ _ _ => (Zrm rfl (T.e 0 rfl))) ?_; clear T ac; intro ac T
 refine gq (v := (.pointer (some ⟨g1, 6, none⟩))) T 1 3 rfl (fun _ _ _ _ _ => (Zrf (off := 6) rfl (T.e 2 rfl) (fun _ _ _ => by kernel_rfl))) ?_; clear T ac; intro ac T
 refine gq (v := (.pointer (some ⟨g1, 6, none⟩))) T 2 7 rfl (fun _ _ _ _ _ => (Zrf (off := 0) rfl (T.e 0 rfl) (fun _ _ _ => by kernel_rfl))) ?_; clear T ac; intro ac T
 refine gq T 3 15 rfl (fun B w' hD hl hS => (Zrr (Mem.nth (show Mem w noEx w' _ from hS) 0 rfl) rfl (T.e 0 rfl) rfl)) ?_; clear T ac; intro ac T
 refine gq (v := (.pointer (some ⟨g1, 6, none⟩))) T 4 31 rfl (fun _ _ _ _ _ => (Zrf (off := 6) rfl (T.e 5 rfl) (fun _ _ _ => by kernel_rfl))) ?_; clear T ac; intro ac T
 refine gq (v := (.pointer (some ⟨g1, 8, none⟩))) T 5 63 rfl (fun _ _ _ _ _ => (Zrf (off := 2) rfl (T.e 0 rfl) (fun _ _ _ => by kernel_rfl))) ?_; clear T ac; intro ac T
 refine gq T 6 127 rfl (fun B w' hD hl hS => (Zrr (Mem.nth (show Mem w noEx w' _ from hS) 0 rfl) rfl (T.e 0 rfl) rfl)) ?_; clear T ac; intro ac T
 refine gq (v := (.pointer (some ⟨g1, 6, none⟩))) T 7 255 rfl (fun _ _ _ _ _ => (Zrf (off := 6) rfl (T.e 8 rfl) (fun _ _ _ => by kernel_rfl))) ?_; clear T ac; intro ac T
 refine gq (v := (.pointer (some ⟨g1, 10, none⟩))) T 8 511 rfl (fun _ _ _ _ _ => (Zrf (off := 4) rfl (T.e 0 rfl) (fun _ _ _ => by kernel_rfl))) ?_; clear T ac; intro ac T
 refine gq T 9 1023 rfl (fun B w' hD hl hS => (Zrr (Mem.nth (show Mem w noEx w' _ from hS) 0 rfl) rfl (T.e 0 rfl) rfl)) ?_; clear T ac; intro ac T
 refine gq (v := (.pointer (some ⟨g1, 6, none⟩))) T 10 2047 rfl (fun _ _ _ _ _ => (Zrf (off := 6) rfl (T.e 11 rfl) (fun _ _ _ => by kernel_rfl))) ?_; clear T ac; intro ac T
 refine gq (v := (.pointer (some ⟨g1, 12, none⟩))) T 11 4095 rfl (fun _ _ _ _ _ => (Zrf (off := 6) rfl (T.e 0 rfl) (fun _ _ _ => by kernel_rfl))) ?_; clear T ac; intro ac T
 refine gq T 12 8191 rfl (fun B w' hD hl hS => (Zrr (Mem.nth (show Mem w noEx w' _ from hS) 0 rfl) rfl (T.e 0 rfl) rfl)) ?_; clear T ac; intro ac T
 refine gq (v := (.pointer (some ⟨g1, 6, none⟩))) T 17 139263 rfl (fun _ _ _ _ _ => (Zrf (off := 6) rfl (T.e 14 rfl) (fun _ _ _ => by kernel_rfl))) ?_; clear T ac; intro ac T
 refine gq (v := (.pointer (some ⟨g1, 14, none⟩))) T 18 401407 rfl (fun _ _ _ _ _ => (Zrf (off := 8) rfl (T.e 0 rfl) (fun _ _ _ => by kernel_rfl))) ?_; clear T ac; intro ac T
 refine gq T 19 925695 rfl (fun B w' hD hl hS => (Zro (Mem.nth (show Mem w noEx w' _ from hS) 0 rfl) rfl (T.e 0 rfl) rfl)) ?_; clear T ac; intro ac T
 refine gw 13 933887 ?_; intro K hK
 refine ow_bs (e := 23) [.int .i64 j.u0, .int .i64 j.u1, .int .i64 j.d0, .int .i64 j.d1, .int .i64 j.a0, .int .i64 j.a1, .int .i64 j.b0, .int .i64 j.b1] M T rfl rfl rfl rfl (.cons (T.e 12 rfl) (.cons (T.e 9 rfl) (.cons (T.e 6 rfl) (.cons (T.e 3 rfl) .nil)))) (fun _ => by kernel_rfl) ?_; clear M T; intro g3 wc ac M T
 refine Zso hK _ _ (M.mask [false, true] rfl) ?_; clear hK K
 refine gw 14 950271 ?_; intro K hK
 refine Zoc (first := []) (cap := []) T rfl rfl rfl rfl evf (.cons (T.e 0 rfl) .nil) Tryd.func82 rfl rfl ?_
 refine Calls.mono (rangesT_any _ _ _ ([(j.u0, j.u1), (j.d0, j.d1), (j.a0, j.a1), (j.b0, j.b1)]) _ (M.rdOwn (Zne (i := 0) rfl) rfl rfl) (by omega) (by intro p hp; simp only [List.mem_cons, List.not_mem_nil, or_false] at hp; rcases hp with rfl | rfl | rfl | rfl <;> exact ⟨⟨by dsimp only; omega, by dsimp only; omega⟩, by dsimp only; omega, by dsimp only; omega⟩) (hT.mem0 M)) ?_
 clear T; rintro e wc ⟨rfl, hb⟩ ac T
 replace M := M.call hb; clear hb
 have hru3 := rgT_len ([(j.u0, j.u1), (j.d0, j.d1), (j.a0, j.a1), (j.b0, j.b1)]) (by intro p hp; simp only [List.mem_cons, List.not_mem_nil, or_false] at hp; rcases hp with rfl | rfl | rfl | rfl <;> exact ⟨⟨by dsimp only; omega, by dsimp only; omega⟩, by dsimp only; omega, by dsimp only; omega⟩)
 simp only [List.length_cons, List.length_nil] at hru3
 refine Zso hK _ _ (M.mask [false, true] rfl) ?_; clear hK K
 refine gq T 15 983039 rfl (fun _ _ _ _ _ => (rn_sadd rfl evc (T.e 0 rfl) (by (try simp only [List.length_append, List.length_cons, List.length_nil]); omega))) ?_; clear T ac; intro ac T
 refine gq T 16 1048575 rfl (fun _ _ _ _ _ => (rn_sadd rfl (T.e 0 rfl) evc (by (try simp only [List.length_append, List.length_cons, List.length_nil]); omega))) ?_; clear T ac; intro ac T
 refine gw 20 2097151 ?_; intro K hK
 refine Zoc (first := []) (cap := []) T rfl rfl rfl rfl evf (.cons (T.e 4 rfl) .nil) Tryd.func70 rfl rfl ?_
 refine Calls.mono (Itoa_any j.le _ (by (try dsimp only); omega) (hT.mem0 M)) ?_
 clear T; rintro e wc ⟨rfl, hb⟩ ac T
 replace M := M.call hb; clear hb
 have hiu4 := itoa_len (v := j.le) ⟨by (try dsimp only); omega, by (try dsimp only); omega⟩
 refine Zso hK _ _ (M.mask [false, true] rfl) ?_; clear hK K
 refine gq T 21 4194303 rfl (fun _ _ _ _ _ => (rn_sadd rfl (T.e 1 rfl) (T.e 0 rfl) (by (try simp only [List.length_append, List.length_cons, List.length_nil]); omega))) ?_; clear T ac; intro ac T
 refine gq T 22 8388607 rfl (fun _ _ _ _ _ => (rn_sadd rfl (T.e 0 rfl) evc (by (try simp only [List.length_append, List.length_cons, List.length_nil]); omega))) ?_; clear T ac; intro ac T
 refine gq T 23 16777215 rfl (fun _ _ _ _ _ => (rn_sadd rfl (T.e 22 rfl) (T.e 0 rfl) (by (try simp only [List.length_append, List.length_cons, List.length_nil]); omega))) ?_; clear T ac; intro ac T
 refine g_q (v := (sv (((([116, 111, 110, 103, 117, 101]) ++ (rgT ([(j.p0, j.p1), (j.t0, j.t1), (j.r0, j.r1)]))) ++ ([10])) ++ ((((([102, 105, 108, 101]) ++ (rgT ([(j.u0, j.u1), (j.d0, j.d1), (j.a0, j.a1), (j.b0, j.b1)]))) ++ ([32])) ++ (Lib.itoa j.le)) ++ ([10]))))) (T := T.pick [0, 1, 2, 3, 4, 5, 6, 7, 8, 9, 10, 11, 12, 13, 14, 15, 16, 17, 18, 19, 20, 21, 22, 23, 25] rfl) (i := 24) rfl (by kernel_rfl) (by kernel_rfl : (Zpb 25 16777215).setIfInBounds 24 true = Zpb 25 33554431) si_U (fun _ _ _ h => h) rfl rfl rfl rfl (fun _ _ _ _ _ => (Zra rfl (T.e 0 rfl))) ?_; clear T ac; intro ac T
 refine Zgd (by kernel_rfl) ?_
 replace T := T.pick [0, 25] rfl
 replace M := M.mask [false, true] rfl
 refine Zns ?_
 refine Zsr ?_
 refine Zg4 (v1 := (.pointer (some ⟨g1, 15, none⟩))) T (Zq (Zrf (off := 15) rfl (T.e 1 rfl) (fun _ _ _ => by kernel_rfl))) rfl (Zo M 0 0 rfl rfl rfl rfl) rfl (Zl Tryd.underlying28 0 rfl rfl) rfl (fun _ T => Zq (Zrm rfl evc)) rfl ?_; clear T ac; intro ac T
 replace T := T.pick [0, 1, 2, 4, 5] rfl
 refine Zln ?_
 refine wp_block ?_
 obtain ⟨pre9, hpre⟩ : ∃ q : List UInt8, q = (((([116, 111, 110, 103, 117, 101]) ++ (rgT ([(j.p0, j.p1), (j.t0, j.t1), (j.r0, j.r1)]))) ++ ([10])) ++ ((((([102, 105, 108, 101]) ++ (rgT ([(j.u0, j.u1), (j.d0, j.d1), (j.a0, j.a1), (j.b0, j.b1)]))) ++ ([32])) ++ (Lib.itoa j.le)) ++ ([10]))) := ⟨_, rfl⟩
 rw [← hpre] at T
 have hp9 := congrArg List.length hpre
 simp only [List.length_append, List.length_cons, List.length_nil] at hp9
 refine wp_loop_n (fun mz ac wc => ∃ (k : Nat), mz = j.sh.length - k ∧ (k ≤ j.sh.length) ∧ (((j.sh.take k).flatMap (fun x => shiftW ++ rgT [x] ++ [10])).length ≤ k * 16) ∧ Tm ac 77 [(1, .pointer (some ⟨g1, 0, none⟩)), (5, sv (pre9 ++ (j.sh.take k).flatMap (fun x => shiftW ++ rgT [x] ++ [10]))), (51, .slice A j.sh.length c), (52, .int .i64 ((j.sh.length : Nat) : Int)), (53, .int .i64 (k : Int))] ∧ Mem w noEx wc [(g1, .cells (jobL j A c))]) ?_ ?_
 ·have e0 : pre9 = pre9 ++ (j.sh.take 0).flatMap (fun x => shiftW ++ rgT [x] ++ [10]) := by simp
  rw [e0] at T
  exact ⟨_, 0, rfl, (Nat.zero_le _), (Nat.le_refl _), T.pick [4, 3, 2, 1, 0] rfl, M.mask [true] rfl⟩
 clear T M
 rintro mz ac wc ⟨k, hmm1, hk, hs, T, M⟩
 refine Zsr ?_
 refine lq T (rn_lss rfl (T.e 4 rfl) (T.e 3 rfl)) ?_; clear T ac; intro ac T
 refine Zln ?_
 refine wp_seq ?_
 refine wp_if (T.e 0 rfl) ?_ ?_
 ·intro h2
  obtain ⟨x0, x1, hkx, -⟩ := rc_next (l := j.sh) (k := k) (by omega)
  have hx := gj.sh _ (List.mem_of_getElem? hkx)
  dsimp only at hx
  have hS9 := shT_len (j.sh.take (k + 1)) (fun p hp => gj.sm.sh p ((List.take_sublist _ _).subset hp))
  rw [List.length_take] at hS9
  refine Zsk ?_
  refine wp_seq ?_
  refine wp_block ?_
  refine Zsr ?_
  refine Zg2 (v2 := (.agg #[.int .i64 x0, .int .i64 x1])) T (Zq (Zri (size := 2) k rfl (T.e 3 rfl) (T.e 5 rfl) ⟨_, Tryd.underlying28, by kernel_rfl⟩ rfl (by omega) (SJ.at0 (by omega)))) rfl (fun _ T => Zq (rn_rowat (Sp.rcR SJ M (Zz9 _) hkx) rfl (T.e 0 rfl) rfl)) rfl ?_; clear T ac; intro ac T
  refine Zl2 ?_
  refine Zoa M T rfl rfl rfl rfl ?_; clear M T; intro g4 wc ac M T
  refine Zl2 ?_
  refine Zos M T rfl rfl (T.e 0 rfl) (T.e 1 rfl) rfl .head rfl (by simp) rfl (by kernel_rfl) ?_; clear M T; intro wc ac M T
  replace T := T.pick [0, 4, 5, 6, 7, 8] rfl
  refine Zln ?_
  refine wp_region_lit ?_
  refine Zg2 T (Zq (Zrm rfl (T.e 2 rfl))) rfl (Zr M 0 1 rfl rfl rfl rfl) rfl ?_; clear T ac; intro ac T
  refine Zl2 ?_
  refine ow_bs (e := 23) [.int .i64 x0, .int .i64 x1] M T rfl rfl rfl rfl (.cons (T.e 0 rfl) .nil) (fun _ => by kernel_rfl) ?_; clear M T; intro g5 wc ac M T
  refine Zl2 ?_
  refine Zoc (first := []) (cap := []) T rfl rfl rfl rfl evf (.cons (T.e 0 rfl) .nil) Tryd.func82 rfl rfl ?_
  refine Calls.mono (rangesT_any _ _ _ ([(x0, x1)]) _ (M.rdOwn (Zne (i := 0) rfl) rfl rfl) (by omega) (by intro p hp; simp only [List.mem_cons, List.not_mem_nil, or_false] at hp; rcases hp with rfl <;> exact ⟨⟨by dsimp only; omega, by dsimp only; omega⟩, by dsimp only; omega, by dsimp only; omega⟩) (hT.mem0 M)) ?_
  clear T; rintro e wc ⟨rfl, hb⟩ ac T
  replace M := M.call hb; clear hb
  have hru5 := rgT_len ([(x0, x1)]) (by intro p hp; simp only [List.mem_cons, List.not_mem_nil, or_false] at hp; rcases hp with rfl <;> exact ⟨⟨by dsimp only; omega, by dsimp only; omega⟩, by dsimp only; omega, by dsimp only; omega⟩)
  simp only [List.length_cons, List.length_nil] at hru5
  refine Zg3 T (Zq (rn_sadd rfl evc (T.e 0 rfl) (by (try simp only [List.length_append, List.length_cons, List.length_nil]); omega))) rfl (fun _ T => Zq (rn_sadd rfl (T.e 0 rfl) evc (by (try simp only [List.length_append, List.length_cons, List.length_nil]); omega))) rfl (fun _ T => Zq (rn_sadd rfl (T.e 5 rfl) (T.e 0 rfl) (by (try simp only [List.length_append, List.length_cons, List.length_nil]); omega))) rfl ?_; clear T ac; intro ac T
  refine l_q (v := (sv ((pre9 ++ (j.sh.take k).flatMap (fun x => shiftW ++ rgT [x] ++ [10])) ++ ((([115, 104, 105, 102, 116]) ++ (rgT ([(x0, x1)]))) ++ ([10]))))) (T.pick [0, 1, 2, 3, 4, 5, 6, 7, 8, 10, 11, 12] rfl) rfl rfl rfl rfl (Zra rfl (T.e 0 rfl)) ?_; clear T ac; intro ac T
  refine wpList_nil ?_
  replace T := T.pick [0, 9, 10, 11, 12] rfl
  replace M := M.mask [false, false, true] rfl
  refine Znb ?_
  refine nm_then ?_
  refine wp_region_lit ?_
  refine lq T (rn_add rfl (T.e 4 rfl) evc (by omega)) ?_; clear T ac; intro ac T
  refine l_q (v := (.int .i64 ((k : Int) + 1))) (T.pick [0, 1, 2, 3, 4] rfl) rfl rfl rfl rfl (Zrm rfl (T.e 0 rfl)) ?_; clear T ac; intro ac T
  replace T := T.pick [0, 2, 3, 4, 5] rfl
  refine Zln ?_
  have e9 : ((pre9 ++ (j.sh.take k).flatMap (fun x => shiftW ++ rgT [x] ++ [10])) ++ ((([115, 104, 105, 102, 116]) ++ (rgT ([(x0, x1)]))) ++ ([10]))) = pre9 ++ (j.sh.take (k + 1)).flatMap (fun x => shiftW ++ rgT [x] ++ [10]) := by rw [take_sn hkx, List.flatMap_append]; simp [shiftW, rgT]
  rw [e9] at T
  exact ⟨_, by omega, k + 1, rfl, (by omega), (by omega), T.pick [2, 1, 3, 4, 0] rfl, M.mask [true] rfl⟩
 intro h2
 refine wp_exit ?_
 refine Zet ?_
 refine Zet ?_
 refine ex_hit ?_
 refine Zns ?_
 refine Zgs M (M.mask [true] rfl) 14 (by kernel_rfl) rfl (by kernel_rfl) ?_
 clear M; intro wc M
 refine gq T 0 1 rfl (fun _ _ _ _ _ => (Zrm rfl (T.e 2 rfl))) ?_; clear T ac; intro ac T
 refine gq T 1 3 rfl (fun _ _ _ _ _ => (rn_sadd rfl (T.e 0 rfl) evc (by (try simp only [List.length_append, List.length_cons, List.length_nil]); omega))) ?_; clear T ac; intro ac T
 refine gq (v := (.pointer (some ⟨g1, 16, none⟩))) T 2 7 rfl (fun _ _ _ _ _ => (Zrf (off := 16) rfl (T.e 3 rfl) (fun _ _ _ => by kernel_rfl))) ?_; clear T ac; intro ac T
 refine gq T 3 15 rfl (fun B w' hD hl hS => (Zro (Mem.nth (show Mem w noEx w' _ from hS) 0 rfl) rfl (T.e 0 rfl) rfl)) ?_; clear T ac; intro ac T
 refine gq (v := (.pointer (some ⟨g1, 17, none⟩))) T 7 143 rfl (fun _ _ _ _ _ => (Zrf (off := 17) rfl (T.e 5 rfl) (fun _ _ _ => by kernel_rfl))) ?_; clear T ac; intro ac T
 refine gq T 8 399 rfl (fun B w' hD hl hS => (Zro (Mem.nth (show Mem w noEx w' _ from hS) 0 rfl) rfl (T.e 0 rfl) rfl)) ?_; clear T ac; intro ac T
 refine gw 4 415 ?_; intro K hK
 refine Zoc (first := []) (cap := []) T rfl rfl rfl rfl evf (.cons (T.e 2 rfl) .nil) Tryd.func70 rfl rfl ?_
 refine Calls.mono (Itoa_any j.wi _ (by (try dsimp only); omega) (hT.mem0 M)) ?_
 clear T; rintro e wc ⟨rfl, hb⟩ ac T
 replace M := M.call hb; clear hb
 have hiu6 := itoa_len (v := j.wi) ⟨by (try dsimp only); omega, by (try dsimp only); omega⟩
 refine Zso hK _ _ (M.mask [true] rfl) ?_; clear hK K
 refine gq T 5 447 rfl (fun _ _ _ _ _ => (rn_sadd rfl (T.e 5 rfl) (T.e 0 rfl) (by (try simp only [List.length_append, List.length_cons, List.length_nil]); omega))) ?_; clear T ac; intro ac T
 refine gq T 6 511 rfl (fun _ _ _ _ _ => (rn_sadd rfl (T.e 0 rfl) evc (by (try simp only [List.length_append, List.length_cons, List.length_nil]); omega))) ?_; clear T ac; intro ac T
 refine gw 9 1023 ?_; intro K hK
 refine Zoc (first := []) (cap := []) T rfl rfl rfl rfl evf (.cons (T.e 3 rfl) .nil) Tryd.func70 rfl rfl ?_
 refine Calls.mono (Itoa_any j.me _ (by (try dsimp only); omega) (hT.mem0 M)) ?_
 clear T; rintro e wc ⟨rfl, hb⟩ ac T
 replace M := M.call hb; clear hb
 have hiu7 := itoa_len (v := j.me) ⟨by (try dsimp only); omega, by (try dsimp only); omega⟩
 refine Zso hK _ _ (M.mask [true] rfl) ?_; clear hK K
 refine gq T 10 2047 rfl (fun _ _ _ _ _ => (rn_sadd rfl (T.e 1 rfl) (T.e 0 rfl) (by (try simp only [List.length_append, List.length_cons, List.length_nil]); omega))) ?_; clear T ac; intro ac T
 refine gq T 11 4095 rfl (fun _ _ _ _ _ => (rn_sadd rfl (T.e 0 rfl) evc (by (try simp only [List.length_append, List.length_cons, List.length_nil]); omega))) ?_; clear T ac; intro ac T
 refine gq T 12 8191 rfl (fun _ _ _ _ _ => (Zra rfl (T.e 0 rfl))) ?_; clear T ac; intro ac T
 refine gq T 13 16383 rfl (fun _ _ _ _ _ => (Zra rfl evc)) ?_; clear T ac; intro ac T
 refine Zgd (by kernel_rfl) ?_
 replace T := T.pick [0, 1] rfl
 replace M := M.mask [false] rfl
 refine Znr ?_
 refine rt_2 T rfl (T.e 1 rfl) (T.e 0 rfl) ?_
 have e8 : j.sh.take k = j.sh := List.take_of_length_le (by omega)
 have e9 : ((((((pre9 ++ (j.sh.take k).flatMap (fun x => shiftW ++ rgT [x] ++ [10])) ++ ([112, 97, 115, 115, 32])) ++ (Lib.itoa j.wi)) ++ ([32])) ++ (Lib.itoa j.me)) ++ ([10])) = wrT j := by unfold wrT; rw [if_pos hj0, e8, hpre]; simp [writeT, tongueW, fileW, passW, rgT]
 rw [e9, hj0]
 exact ⟨rfl, M.below⟩
section
set_option maxRecDepth 100000
theorem kex0 (A : Option Addr) (c : Nat) (w : World) (hr : Rd w w.heap.size 2 A ((exJ (-12) (-8)) : Jb).sh.length (rc ((exJ (-12) (-8)) : Jb).sh)) : Calls Tryd.prog 8 #[jobV (exJ (-12) (-8)) A c] w fun e w' => e = .returned (.int .i64 0) ∧ Below w.heap.size w w' := by
 have h := check_any (exJ (-12) (-8)) A c w hr (by decide)
 rw [show checkJ (exJ (-12) (-8)) = 0 from by decide +kernel] at h
 exact h
theorem kex1 (A : Option Addr) (c : Nat) (w : World) (hr : Rd w w.heap.size 2 A (({ exJ (-12) (-8) with t0 := 32, t1 := 30 } : Jb) : Jb).sh.length (rc (({ exJ (-12) (-8) with t0 := 32, t1 := 30 } : Jb) : Jb).sh)) : Calls Tryd.prog 8 #[jobV ({ exJ (-12) (-8) with t0 := 32, t1 := 30 } : Jb) A c] w fun e w' => e = .returned (.int .i64 5) ∧ Below w.heap.size w w' := by
 have h := check_any ({ exJ (-12) (-8) with t0 := 32, t1 := 30 } : Jb) A c w hr (by decide)
 rw [show checkJ ({ exJ (-12) (-8) with t0 := 32, t1 := 30 } : Jb) = 5 from by decide +kernel] at h
 exact h
theorem kex2 (A : Option Addr) (c : Nat) (w : World) (hr : Rd w w.heap.size 2 A (({ exJ (-12) (-8) with le := 101 } : Jb) : Jb).sh.length (rc (({ exJ (-12) (-8) with le := 101 } : Jb) : Jb).sh)) : Calls Tryd.prog 8 #[jobV ({ exJ (-12) (-8) with le := 101 } : Jb) A c] w fun e w' => e = .returned (.int .i64 1) ∧ Below w.heap.size w w' := by
 have h := check_any ({ exJ (-12) (-8) with le := 101 } : Jb) A c w hr (by decide)
 rw [show checkJ ({ exJ (-12) (-8) with le := 101 } : Jb) = 1 from by decide +kernel] at h
 exact h
theorem kex3 (A : Option Addr) (c : Nat) (w : World) (hr : Rd w w.heap.size 2 A (({ exJ (-12) (-8) with sh := (List.replicate 5 ((0 : Int), (0 : Int))) } : Jb) : Jb).sh.length (rc (({ exJ (-12) (-8) with sh := (List.replicate 5 ((0 : Int), (0 : Int))) } : Jb) : Jb).sh)) : Calls Tryd.prog 8 #[jobV ({ exJ (-12) (-8) with sh := (List.replicate 5 ((0 : Int), (0 : Int))) } : Jb) A c] w fun e w' => e = .returned (.int .i64 6) ∧ Below w.heap.size w w' := by
 have h := check_any ({ exJ (-12) (-8) with sh := (List.replicate 5 ((0 : Int), (0 : Int))) } : Jb) A c w hr (by decide)
 rw [show checkJ ({ exJ (-12) (-8) with sh := (List.replicate 5 ((0 : Int), (0 : Int))) } : Jb) = 6 from by decide +kernel] at h
 exact h
theorem kex4 (A : Option Addr) (c : Nat) (w : World) (hr : Rd w w.heap.size 2 A (({ exJ (-12) (-8) with me := 7 } : Jb) : Jb).sh.length (rc (({ exJ (-12) (-8) with me := 7 } : Jb) : Jb).sh)) : Calls Tryd.prog 8 #[jobV ({ exJ (-12) (-8) with me := 7 } : Jb) A c] w fun e w' => e = .returned (.int .i64 1) ∧ Below w.heap.size w w' := by
 have h := check_any ({ exJ (-12) (-8) with me := 7 } : Jb) A c w hr (by decide)
 rw [show checkJ ({ exJ (-12) (-8) with me := 7 } : Jb) = 1 from by decide +kernel] at h
 exact h
theorem kex5 (A : Option Addr) (c : Nat) (w : World) (hr : Rd w w.heap.size 2 A (({ exJ (-12) (-8) with sh := [] } : Jb) : Jb).sh.length (rc (({ exJ (-12) (-8) with sh := [] } : Jb) : Jb).sh)) : Calls Tryd.prog 9 #[jobV ({ exJ (-12) (-8) with sh := [] } : Jb) A c] w fun e w' => e = .returned (.tuple #[.agg #[.int .i64 (-5), .int .i64 5], .int .i64 0]) ∧ Below w.heap.size w w' := by
 have h := Window_any ({ exJ (-12) (-8) with sh := [] } : Jb) A c w hr (by decide)
 rw [show windowJ ({ exJ (-12) (-8) with sh := [] } : Jb) = (((-5), 5), 0) from by decide +kernel] at h
 exact h
theorem kex6 (A : Option Addr) (c : Nat) (w : World) (hr : Rd w w.heap.size 2 A (({ exJ (-12) (-8) with sh := [(-2, 1), (0, 3), (-6, 5)] } : Jb) : Jb).sh.length (rc (({ exJ (-12) (-8) with sh := [(-2, 1), (0, 3), (-6, 5)] } : Jb) : Jb).sh)) : Calls Tryd.prog 9 #[jobV ({ exJ (-12) (-8) with sh := [(-2, 1), (0, 3), (-6, 5)] } : Jb) A c] w fun e w' => e = .returned (.tuple #[.agg #[.int .i64 0, .int .i64 0], .int .i64 11]) ∧ Below w.heap.size w w' := by
 have h := Window_any ({ exJ (-12) (-8) with sh := [(-2, 1), (0, 3), (-6, 5)] } : Jb) A c w hr (by decide)
 rw [show windowJ ({ exJ (-12) (-8) with sh := [(-2, 1), (0, 3), (-6, 5)] } : Jb) = ((0, 0), 11) from by decide +kernel] at h
 exact h
theorem kex7 (A : Option Addr) (c : Nat) (w : World) (hr : Rd w w.heap.size 2 A ((exJ (-12) (-8)) : Jb).sh.length (rc ((exJ (-12) (-8)) : Jb).sh)) : Calls Tryd.prog 10 #[jobV (exJ (-12) (-8)) A c, .int .i64 (-10)] w fun e w' => e = .returned (.tuple #[.agg #[.int .i64 (-11), .int .i64 (-9)], .int .i64 0]) ∧ Below w.heap.size w w' := by
 have h := Hear_any (exJ (-12) (-8)) A c (-10) w hr (by decide)
 rw [show hearT (exJ (-12) (-8)) (-10) = (((-11), (-9)), 0) from by decide +kernel] at h
 exact h
theorem kex8 (A : Option Addr) (c : Nat) (w : World) (hr : Rd w w.heap.size 2 A ((exJ (-12) (-8)) : Jb).sh.length (rc ((exJ (-12) (-8)) : Jb).sh)) : Calls Tryd.prog 10 #[jobV (exJ (-12) (-8)) A c, .int .i64 (-13)] w fun e w' => e = .returned (.tuple #[.agg #[.int .i64 (-12), .int .i64 (-12)], .int .i64 0]) ∧ Below w.heap.size w w' := by
 have h := Hear_any (exJ (-12) (-8)) A c (-13) w hr (by decide)
 rw [show hearT (exJ (-12) (-8)) (-13) = (((-12), (-12)), 0) from by decide +kernel] at h
 exact h
theorem kex9 (A : Option Addr) (c : Nat) (w : World) (hr : Rd w w.heap.size 2 A ((exJ (-12) (-8)) : Jb).sh.length (rc ((exJ (-12) (-8)) : Jb).sh)) : Calls Tryd.prog 10 #[jobV (exJ (-12) (-8)) A c, .int .i64 (-14)] w fun e w' => e = .returned (.tuple #[.agg #[.int .i64 0, .int .i64 0], .int .i64 9]) ∧ Below w.heap.size w w' := by
 have h := Hear_any (exJ (-12) (-8)) A c (-14) w hr (by decide)
 rw [show hearT (exJ (-12) (-8)) (-14) = ((0, 0), 9) from by decide +kernel] at h
 exact h
theorem kex10 (A : Option Addr) (c : Nat) (w : World) (hr : Rd w w.heap.size 2 A ((exJ (-12) (-8)) : Jb).sh.length (rc ((exJ (-12) (-8)) : Jb).sh)) : Calls Tryd.prog 11 #[jobV (exJ (-12) (-8)) A c] w fun e w' => e = .returned (.tuple #[.int .i64 2, .int .i64 0]) ∧ Below w.heap.size w w' := by
 have h := Passes_any (exJ (-12) (-8)) A c w hr (by decide)
 rw [show passesT (exJ (-12) (-8)) = (2, 0) from by decide +kernel] at h
 exact h
theorem kex11 (A : Option Addr) (c : Nat) (w : World) (hr : Rd w w.heap.size 2 A ((exJ (-6) (-6)) : Jb).sh.length (rc ((exJ (-6) (-6)) : Jb).sh)) : Calls Tryd.prog 11 #[jobV (exJ (-6) (-6)) A c] w fun e w' => e = .returned (.tuple #[.int .i64 3, .int .i64 0]) ∧ Below w.heap.size w w' := by
 have h := Passes_any (exJ (-6) (-6)) A c w hr (by decide)
 rw [show passesT (exJ (-6) (-6)) = (3, 0) from by decide +kernel] at h
 exact h
theorem kex12 (A : Option Addr) (c : Nat) (w : World) (hr : Rd w w.heap.size 2 A ((exJ (-3) 2) : Jb).sh.length (rc ((exJ (-3) 2) : Jb).sh)) : Calls Tryd.prog 11 #[jobV (exJ (-3) 2) A c] w fun e w' => e = .returned (.tuple #[.int .i64 1, .int .i64 0]) ∧ Below w.heap.size w w' := by
 have h := Passes_any (exJ (-3) 2) A c w hr (by decide)
 rw [show passesT (exJ (-3) 2) = (1, 0) from by decide +kernel] at h
 exact h
theorem kex13 (A : Option Addr) (c : Nat) (B : Option Addr) (d : Nat) (w : World) (hr : Rd w w.heap.size 2 A ((exJ (-12) (-8)) : Jb).sh.length (rc ((exJ (-12) (-8)) : Jb).sh)) (hl : Rd w w.heap.size 1 B ([1, 1] : List Int).length (ic [1, 1])) : Calls Tryd.prog 13 #[jobV (exJ (-12) (-8)) A c, .slice B ([1, 1] : List Int).length d] w fun e w' => e = .returned (.tuple #[.int .i64 8, .int .i64 0]) ∧ Below w.heap.size w w' := by
 have h := Worst_any (exJ (-12) (-8)) A c B d _ [1, 1] w hr (by decide) hl (by decide)
 rw [show worstT (exJ (-12) (-8)) [1, 1] = (8, 0) from by decide +kernel] at h
 exact h
theorem kex14 (A : Option Addr) (c : Nat) (B : Option Addr) (d : Nat) (w : World) (hr : Rd w w.heap.size 2 A ((exJ (-12) (-8)) : Jb).sh.length (rc ((exJ (-12) (-8)) : Jb).sh)) (hl : Rd w w.heap.size 1 B ([] : List Int).length (ic [])) : Calls Tryd.prog 13 #[jobV (exJ (-12) (-8)) A c, .slice B ([] : List Int).length d] w fun e w' => e = .returned (.tuple #[.int .i64 14, .int .i64 0]) ∧ Below w.heap.size w w' := by
 have h := Worst_any (exJ (-12) (-8)) A c B d _ [] w hr (by decide) hl (by decide)
 rw [show worstT (exJ (-12) (-8)) [] = (14, 0) from by decide +kernel] at h
 exact h
theorem kex15 (A : Option Addr) (c : Nat) (B : Option Addr) (d : Nat) (w : World) (hr : Rd w w.heap.size 2 A ((exJ (-12) (-8)) : Jb).sh.length (rc ((exJ (-12) (-8)) : Jb).sh)) (hl : Rd w w.heap.size 1 B ([1, 1, 1, 1, 1] : List Int).length (ic [1, 1, 1, 1, 1])) : Calls Tryd.prog 15 #[jobV (exJ (-12) (-8)) A c, .slice B ([1, 1, 1, 1, 1] : List Int).length d] w fun e w' => e = .returned (.tuple #[.int .i64 2, .int .i64 0]) ∧ Below w.heap.size w w' := by
 have h := Spoiled_any (exJ (-12) (-8)) A c B d _ [1, 1, 1, 1, 1] w hr (by decide) hl (by decide)
 rw [show spoiledT (exJ (-12) (-8)) [1, 1, 1, 1, 1] = (2, 0) from by decide +kernel] at h
 exact h
theorem kex16 (A : Option Addr) (c : Nat) (B : Option Addr) (d : Nat) (w : World) (hr : Rd w w.heap.size 2 A ((exJ (-12) (-8)) : Jb).sh.length (rc ((exJ (-12) (-8)) : Jb).sh)) (hl : Rd w w.heap.size 1 B ([1, 1, 1, 1, 1, 1] : List Int).length (ic [1, 1, 1, 1, 1, 1])) : Calls Tryd.prog 15 #[jobV (exJ (-12) (-8)) A c, .slice B ([1, 1, 1, 1, 1, 1] : List Int).length d] w fun e w' => e = .returned (.tuple #[.int .i64 3, .int .i64 0]) ∧ Below w.heap.size w w' := by
 have h := Spoiled_any (exJ (-12) (-8)) A c B d _ [1, 1, 1, 1, 1, 1] w hr (by decide) hl (by decide)
 rw [show spoiledT (exJ (-12) (-8)) [1, 1, 1, 1, 1, 1] = (3, 0) from by decide +kernel] at h
 exact h
theorem kex17 (A : Option Addr) (c : Nat) (B : Option Addr) (d : Nat) (w : World) (hr : Rd w w.heap.size 2 A (({ exJ (-12) (-8) with le := 33 } : Jb) : Jb).sh.length (rc (({ exJ (-12) (-8) with le := 33 } : Jb) : Jb).sh)) (hl : Rd w w.heap.size 1 B ([1] : List Int).length (ic [1])) : Calls Tryd.prog 15 #[jobV ({ exJ (-12) (-8) with le := 33 } : Jb) A c, .slice B ([1] : List Int).length d] w fun e w' => e = .returned (.tuple #[.int .i64 1, .int .i64 0]) ∧ Below w.heap.size w w' := by
 have h := Spoiled_any ({ exJ (-12) (-8) with le := 33 } : Jb) A c B d _ [1] w hr (by decide) hl (by decide)
 rw [show spoiledT ({ exJ (-12) (-8) with le := 33 } : Jb) [1] = (1, 0) from by decide +kernel] at h
 exact h
theorem kex18 (A : Option Addr) (c : Nat) (B : Option Addr) (d : Nat) (w : World) (hr : Rd w w.heap.size 2 A ((exJ (-12) (-8)) : Jb).sh.length (rc ((exJ (-12) (-8)) : Jb).sh)) (hl : Rd w w.heap.size 1 B ([1, 1] : List Int).length (ic [1, 1])) : Calls Tryd.prog 16 #[jobV (exJ (-12) (-8)) A c, .slice B ([1, 1] : List Int).length d] w fun e w' => e = .returned (.tuple #[.int .i64 3, .int .i64 0]) ∧ Below w.heap.size w w' := by
 have h := Fine_any (exJ (-12) (-8)) A c B d _ [1, 1] w hr (by decide) hl (by decide)
 rw [show fineT (exJ (-12) (-8)) [1, 1] = (3, 0) from by decide +kernel] at h
 exact h
theorem kex19 (A : Option Addr) (c : Nat) (B : Option Addr) (d : Nat) (w : World) (hr : Rd w w.heap.size 2 A ((exJ (-12) (-8)) : Jb).sh.length (rc ((exJ (-12) (-8)) : Jb).sh)) (hl : Rd w w.heap.size 1 B ([1, 1, 1] : List Int).length (ic [1, 1, 1])) : Calls Tryd.prog 16 #[jobV (exJ (-12) (-8)) A c, .slice B ([1, 1, 1] : List Int).length d] w fun e w' => e = .returned (.tuple #[.int .i64 3, .int .i64 0]) ∧ Below w.heap.size w w' := by
 have h := Fine_any (exJ (-12) (-8)) A c B d _ [1, 1, 1] w hr (by decide) hl (by decide)
 rw [show fineT (exJ (-12) (-8)) [1, 1, 1] = (3, 0) from by decide +kernel] at h
 exact h
theorem kex20 (A : Option Addr) (c : Nat) (B : Option Addr) (d : Nat) (w : World) (hr : Rd w w.heap.size 2 A ((exJ (-12) (-8)) : Jb).sh.length (rc ((exJ (-12) (-8)) : Jb).sh)) (hl : Rd w w.heap.size 1 B ([] : List Int).length (ic [])) : Calls Tryd.prog 16 #[jobV (exJ (-12) (-8)) A c, .slice B ([] : List Int).length d] w fun e w' => e = .returned (.tuple #[.int .i64 2, .int .i64 0]) ∧ Below w.heap.size w w' := by
 have h := Fine_any (exJ (-12) (-8)) A c B d _ [] w hr (by decide) hl (by decide)
 rw [show fineT (exJ (-12) (-8)) [] = (2, 0) from by decide +kernel] at h
 exact h
theorem kex21 (A : Option Addr) (c : Nat) (B : Option Addr) (d : Nat) (w : World) (hr : Rd w w.heap.size 2 A ((exJ (-9) (-9)) : Jb).sh.length (rc ((exJ (-9) (-9)) : Jb).sh)) (hl : Rd w w.heap.size 1 B ([1, 1] : List Int).length (ic [1, 1])) : Calls Tryd.prog 16 #[jobV (exJ (-9) (-9)) A c, .slice B ([1, 1] : List Int).length d] w fun e w' => e = .returned (.tuple #[.int .i64 1, .int .i64 0]) ∧ Below w.heap.size w w' := by
 have h := Fine_any (exJ (-9) (-9)) A c B d _ [1, 1] w hr (by decide) hl (by decide)
 rw [show fineT (exJ (-9) (-9)) [1, 1] = (1, 0) from by decide +kernel] at h
 exact h
theorem kex22 (A : Option Addr) (c : Nat) (w : World) (hr : Rd w w.heap.size 2 A ((exJ (-9) (-9)) : Jb).sh.length (rc ((exJ (-9) (-9)) : Jb).sh)) : Calls Tryd.prog 37 #[jobV (exJ (-9) (-9)) A c] w fun e w' => e = .returned (.tuple #[.int .i64 2, .int .i64 0]) ∧ Below w.heap.size w w' := by
 have h := Guided_any (exJ (-9) (-9)) A c w hr (by decide)
 rw [show guidedJ (exJ (-9) (-9)) = (2, 0) from by decide +kernel] at h
 exact h
theorem kex23 (A : Option Addr) (c : Nat) (w : World) (hr : Rd w w.heap.size 2 A (({ exJ (-12) (-8) with le := 29 } : Jb) : Jb).sh.length (rc (({ exJ (-12) (-8) with le := 29 } : Jb) : Jb).sh)) : Calls Tryd.prog 37 #[jobV ({ exJ (-12) (-8) with le := 29 } : Jb) A c] w fun e w' => e = .returned (.tuple #[.int .i64 0, .int .i64 11]) ∧ Below w.heap.size w w' := by
 have h := Guided_any ({ exJ (-12) (-8) with le := 29 } : Jb) A c w hr (by decide)
 rw [show guidedJ ({ exJ (-12) (-8) with le := 29 } : Jb) = (0, 11) from by decide +kernel] at h
 exact h
theorem kex24 (A : Option Addr) (c : Nat) (w : World) (hr : Rd w w.heap.size 2 A ((exJ (-12) (-8)) : Jb).sh.length (rc ((exJ (-12) (-8)) : Jb).sh)) : Calls Tryd.prog 38 #[jobV (exJ (-12) (-8)) A c] w fun e w' => e = .returned (.tuple #[.int .i64 1, .int .i64 3, .int .i64 0]) ∧ Below w.heap.size w w' := by
 have h := Next_any (exJ (-12) (-8)) A c w hr (by decide)
 rw [show nextJ (exJ (-12) (-8)) = (1, 3, 0) from by decide +kernel] at h
 exact h
theorem kex25 (A : Option Addr) (c : Nat) (w : World) (hr : Rd w w.heap.size 2 A ((exJ (-3) (-1)) : Jb).sh.length (rc ((exJ (-3) (-1)) : Jb).sh)) : Calls Tryd.prog 38 #[jobV (exJ (-3) (-1)) A c] w fun e w' => e = .returned (.tuple #[.int .i64 0, .int .i64 0, .int .i64 0]) ∧ Below w.heap.size w w' := by
 have h := Next_any (exJ (-3) (-1)) A c w hr (by decide)
 rw [show nextJ (exJ (-3) (-1)) = (0, 0, 0) from by decide +kernel] at h
 exact h
theorem kn_afterE : checkStrokesJ (exJ (-12) (-8)) [1, 1] = 0 := by decide +kernel
theorem kn_after (A : Option Addr) (c : Nat) (B : Option Addr) (d : Nat) (w : World) (hr : Rd w w.heap.size 2 A (exJ (-12) (-8)).sh.length (rc (exJ (-12) (-8)).sh)) (hl : Rd w w.heap.size 1 B 2 (ic [1, 1])) :
  Calls Tryd.prog 14 #[jobV (exJ (-12) (-8)) A c, .slice B 2 d] w fun e w' => e = .returned (.tuple #[.agg #[.int .i64 (-6), .int .i64 0, .int .i64 26, .int .i64 30, .int .i64 40, .int .i64 41], .int .i64 0]) ∧ Below w.heap.size w w' := by
 have h := After_any (exJ (-12) (-8)) A c B d 2 [1, 1] w hr (by decide) hl (by decide)
 rw [show afterC (exJ (-12) (-8)) [1, 1] = #[.int .i64 (-6), .int .i64 0, .int .i64 26, .int .i64 30, .int .i64 40, .int .i64 41] from by unfold afterC; rw [if_pos kn_afterE]; rfl, kn_afterE] at h
 exact h
theorem kn_short0 (A : Option Addr) (c : Nat) (w : World) (hr : Rd w w.heap.size 2 A (exJ (-12) (-8)).sh.length (rc (exJ (-12) (-8)).sh)) : Calls Tryd.prog 35 #[jobV (exJ (-12) (-8)) A c] w (ShortPost2 [] 11 w) := by
 have h := Shortest_own (exJ (-12) (-8)) A c w hr (by decide)
 rw [show shortL (exJ (-12) (-8)) = [] from by decide +kernel, show shortJE (exJ (-12) (-8)) = 11 from by decide +kernel] at h
 exact h
theorem kn_short1 (A : Option Addr) (c : Nat) (w : World) (hr : Rd w w.heap.size 2 A (exJ (-3) 2).sh.length (rc (exJ (-3) 2).sh)) : Calls Tryd.prog 35 #[jobV (exJ (-3) 2) A c] w (ShortPost2 [] 0 w) := by
 have h := Shortest_own (exJ (-3) 2) A c w hr (by decide)
 rw [show shortL (exJ (-3) 2) = [] from by decide +kernel, show shortJE (exJ (-3) 2) = 0 from by decide +kernel] at h
 exact h
theorem kn_blank3 (g A1 A2 A3 : Option Addr) (c c1 c2 c3 : Nat) (w : World) (hr : Rd w w.heap.size 18 g 3 (jc [((exJ (-12) (-8)), A1, c1), ((exJ (-9) (-9)), A2, c2), ((exJ (-12) (-8)), A3, c3)])) (h1 : Rd w w.heap.size 2 A1 2 (rc [(-2, 1), (0, 3)])) (h2 : Rd w w.heap.size 2 A2 2 (rc [(-2, 1), (0, 3)])) (h3 : Rd w w.heap.size 2 A3 2 (rc [(-2, 1), (0, 3)])) :
  Calls Tryd.prog 50 #[.slice g 3 c] w fun e w' => e = .returned (.tuple #[.int .i64 1, .int .i64 2, .int .i64 0]) ∧ Below w.heap.size w w' := by
 have h := Blank_any g c [((exJ (-12) (-8)), A1, c1), ((exJ (-9) (-9)), A2, c2), ((exJ (-12) (-8)), A3, c3)] w hr (fun x hx => by
  simp only [List.mem_cons, List.not_mem_nil, or_false] at hx
  rcases hx with rfl | rfl | rfl
  ·exact ⟨h1, by show (2 : Nat) ≤ _; decide⟩
  ·exact ⟨h2, by show (2 : Nat) ≤ _; decide⟩
  ·exact ⟨h3, by show (2 : Nat) ≤ _; decide⟩) (by show (3 : Nat) ≤ _; decide)
 rw [show blankT [((exJ (-12) (-8)), A1, c1), ((exJ (-9) (-9)), A2, c2), ((exJ (-12) (-8)), A3, c3)] = (1, 2, 0) from by kernel_rfl] at h
 exact h
theorem kn_blank1 (g A1 : Option Addr) (c c1 : Nat) (w : World) (hr : Rd w w.heap.size 18 g 1 (jc [(({ exJ (-12) (-8) with le := 29 } : Jb), A1, c1)])) (h1 : Rd w w.heap.size 2 A1 2 (rc [(-2, 1), (0, 3)])) :
  Calls Tryd.prog 50 #[.slice g 1 c] w fun e w' => e = .returned (.tuple #[.int .i64 0, .int .i64 0, .int .i64 11]) ∧ Below w.heap.size w w' := by
 have h := Blank_any g c [(({ exJ (-12) (-8) with le := 29 } : Jb), A1, c1)] w hr (fun x hx => by
  rcases List.mem_singleton.1 hx with rfl
  exact ⟨h1, by show (2 : Nat) ≤ _; decide⟩) (by show (1 : Nat) ≤ _; decide)
 rw [show blankT [(({ exJ (-12) (-8) with le := 29 } : Jb), A1, c1)] = (0, 0, 11) from by kernel_rfl] at h
 exact h
theorem kn_write (A : Option Addr) (c : Nat) (l : List (Int × Int)) (hl : l = [(-2, 1)]) (w : World) (hr : Rd w w.heap.size 2 A l.length (rc l)) (hT : StrW w) :
  Calls Tryd.prog 51 #[jobV { exJ (-9) (-9) with sh := l } A c] w fun e w' => e = .returned (.tuple #[sv [116, 111, 110, 103, 117, 101, 32, 45, 57, 58, 45, 57, 32, 51, 48, 58, 51, 50, 32, 52, 48, 58, 52, 49, 10, 102, 105, 108, 101, 32, 51, 58, 52, 32, 50, 58, 51, 32, 49, 58, 50, 32, 49, 58, 49, 32, 50, 48, 10, 115, 104, 105, 102, 116, 32, 45, 50, 58, 49, 10, 112, 97, 115, 115, 32, 53, 32, 49, 10], .int .i64 0]) ∧ Below w.heap.size w w' := by
 subst hl
 have h := write_any ({ exJ (-9) (-9) with sh := [(-2, 1)] } : Jb) A c w hr (by decide) hT
 rw [show wrT ({ exJ (-9) (-9) with sh := [(-2, 1)] } : Jb) = [116, 111, 110, 103, 117, 101, 32, 45, 57, 58, 45, 57, 32, 51, 48, 58, 51, 50, 32, 52, 48, 58, 52, 49, 10, 102, 105, 108, 101, 32, 51, 58, 52, 32, 50, 58, 51, 32, 49, 58, 50, 32, 49, 58, 49, 32, 50, 48, 10, 115, 104, 105, 102, 116, 32, 45, 50, 58, 49, 10, 112, 97, 115, 115, 32, 53, 32, 49, 10] from by decide +kernel, show checkJ ({ exJ (-9) (-9) with sh := [(-2, 1)] } : Jb) = 0 from by decide +kernel] at h
 exact h
end
theorem madeCells_rc (m : Nat) : madeCells (Value.cells (.agg #[.int .i64 0, .int .i64 0])) (m * 2) = (rc (List.replicate m (0, 0)) ++ []).toArray := by
 have hr : ∀ u ∈ rc (List.replicate m (0, 0)), u = .int .i64 0 := by
  intro u hu
  obtain ⟨p, hp, hu⟩ := List.mem_flatMap.1 hu
  rw [List.eq_of_mem_replicate hp] at hu
  simpa using hu
 apply Array.ext
 ·simp [madeCells, rc_length]
 ·intro i h1 h2
  have e2 : (rc (List.replicate m (0, 0)) ++ []).toArray[i] = .int .i64 0 := by
   have := List.getElem_mem (l := rc (List.replicate m (0, 0))) (n := i) (by simpa using h2)
   simpa using hr _ this
  rw [e2]
  have e3 : i % 2 = 0 ∨ i % 2 = 1 := by omega
  simp only [madeCells, Array.getElem_map, Array.getElem_range, Value.cells]
  rcases e3 with e3 | e3 <;> simp [e3]
section
variable {P : Program} {op : Oper} {a : Act} {K : Act → World → Prop} {Q : Exit → Act → World → Prop} {w0 w : World} {ex : Nat → Prop} {L : List (Nat × BA)} {E : List (Nat × Value)} {df : List Deferred} {t n : Nat}
theorem ow_ms2 {ty e m : Nat} {x y : Operand} (M : Mem w0 ex w L) (T : TmD df a n E) (ho : op.op = .makeSlice ty x y) (hd : op.dst = some t) (hf : freshE E t = true) (hn : Nat.blt t n = true) (hx : a.eval x = .int .i64 (m : Int)) (hy : a.eval y = .int .i64 (m : Int))
  (ht : P.underlying ty = some (.slice e)) (hinfo : (P.info? e).map (fun i => (i.zero, i.size, i.bytes)) = some (some (.agg #[.int .i64 0, .int .i64 0]), 2, 16)) (hm : m ≤ 1000000)
  (h : ∀ g w' a', Mem w0 ex w' ((g, .cells (rc (List.replicate m (0, 0)) ++ [])) :: L) → TmD df a' n ((t, .slice (some ⟨g, 0, none⟩) m m) :: E) → K a' w') : op.wp P a w K Q := by
 obtain ⟨i, hi, hz, hs, hb⟩ := info_parts hinfo
 have hr := run_makeSlice (P := P) w ty e i _ ht hi hz .i64 .i64 (m : Int) (m : Int) (by omega) (Int.le_refl _) (by rw [hs]; omega) (by rw [hb]; omega) (by omega)
 rw [hs, Int.toNat_natCast, madeCells_rc] at hr
 unfold Oper.wp execOp
 simp only [ho, hx, hy, hr, Sem.run_bind, Result.andThen_ok, Sem.run_pure]
 rw [Oper.upon_value, hd]
 exact h _ _ _ (M.new _ _) (T.put hn hf _)
end
def JobR (j : Jb) (w : World) (e : Ending) (w' : World) : Prop := ∃ g, e = .returned (jobV j (some ⟨g, 0, none⟩) 2) ∧ Mem w noEx w' [(g, .row 23 2 2 (rc [(-2, 1), (0, 3)]) 2)]
theorem Rd.none0 {w w0 : World} {L : List (Nat × BA)} (M : Mem w0 noEx w L) {size : Nat} : Rd w w.heap.size size none 0 [] := (Sp.nil (w := w0) (ex := noEx) (b := 0) (o := 0)).rd M (Zz9 _)
theorem jobR_any (p0 p1 : Int) (w : World)  :
  Calls Tryd.prog 12 #[.agg #[.int .i64 p0, .int .i64 p1]] w (JobR (exJ p0 p1) w) := by
 refine Zpx noEx Tryd.func12 rfl 16 rfl [.agg #[.int .i64 p0, .int .i64 p1]] rfl rfl (Mem.init w _) ?_
 intro ac wc T M
 refine Zsr ?_
 refine Zl2 ?_
 refine Zob M T rfl rfl rfl rfl (T.e 0 rfl) rfl ?_; clear M T; intro g1 wc ac M T
 refine Zl2 ?_
 refine Zoa M T rfl rfl rfl rfl ?_; clear M T; intro g2 wc ac M T
 replace T := T.pick [0, 1] rfl
 refine Zln ?_
 refine wp_seq ?_
 refine Zgs M (M.perm [1] rfl rfl) 14 (by kernel_rfl) rfl (by kernel_rfl) ?_
 clear M; intro wc M
 refine g_addG 13 M ?_
 refine gq T 0 1 rfl (fun B w' hD hl hS => (Zrr (Mem.nth (show Mem w noEx w' _ from ((MA.lft hS) (hD.wait (i := 0) (m := 13) (by kernel_rfl) hl))) 1 rfl) rfl (T.e 1 rfl) rfl)) ?_; clear T ac; intro ac T
 refine gw 1 3 ?_; intro K hK
 refine Zoc (first := []) (cap := []) T rfl rfl rfl rfl evf (.cons evc (.cons evc .nil)) Tryd.func6 rfl rfl ?_
 refine Calls.mono (to_any 30 32 _) ?_
 clear T; rintro e wc ⟨rfl, hb⟩ ac T
 replace M := M.call hb; clear hb
 refine Zso hK _ _ (MA.mk (fun _ => M.mask [true, true] rfl) (M.mask [false, true] rfl)) ?_; clear hK K
 refine gw 2 7 ?_; intro K hK
 refine Zoc (first := []) (cap := []) T rfl rfl rfl rfl evf (.cons evc (.cons evc .nil)) Tryd.func6 rfl rfl ?_
 refine Calls.mono (to_any 40 41 _) ?_
 clear T; rintro e wc ⟨rfl, hb⟩ ac T
 replace M := M.call hb; clear hb
 refine Zso hK _ _ (MA.mk (fun _ => M.mask [true, true] rfl) (M.mask [false, true] rfl)) ?_; clear hK K
 refine gq (v := (.agg #[.int .i64 p0, .int .i64 p1, .int .i64 30, .int .i64 32, .int .i64 40, .int .i64 41])) T 3 15 rfl (fun _ _ _ _ _ => (rn_build rfl (.cons (T.e 2 rfl) (.cons (T.e 1 rfl) (.cons (T.e 0 rfl) .nil))) (fun _ => by kernel_rfl))) ?_; clear T ac; intro ac T
 refine gw 4 31 ?_; intro K hK
 refine Zoc (first := []) (cap := []) T rfl rfl rfl rfl evf (.cons evc (.cons evc .nil)) Tryd.func6 rfl rfl ?_
 refine Calls.mono (to_any 3 4 _) ?_
 clear T; rintro e wc ⟨rfl, hb⟩ ac T
 replace M := M.call hb; clear hb
 refine Zso hK _ _ (MA.mk (fun _ => M.mask [true, true] rfl) (M.mask [false, true] rfl)) ?_; clear hK K
 refine gw 5 63 ?_; intro K hK
 refine Zoc (first := []) (cap := []) T rfl rfl rfl rfl evf (.cons evc (.cons evc .nil)) Tryd.func6 rfl rfl ?_
 refine Calls.mono (to_any 2 3 _) ?_
 clear T; rintro e wc ⟨rfl, hb⟩ ac T
 replace M := M.call hb; clear hb
 refine Zso hK _ _ (MA.mk (fun _ => M.mask [true, true] rfl) (M.mask [false, true] rfl)) ?_; clear hK K
 refine gw 6 127 ?_; intro K hK
 refine Zoc (first := []) (cap := []) T rfl rfl rfl rfl evf (.cons evc (.cons evc .nil)) Tryd.func6 rfl rfl ?_
 refine Calls.mono (to_any 1 2 _) ?_
 clear T; rintro e wc ⟨rfl, hb⟩ ac T
 replace M := M.call hb; clear hb
 refine Zso hK _ _ (MA.mk (fun _ => M.mask [true, true] rfl) (M.mask [false, true] rfl)) ?_; clear hK K
 refine gw 7 255 ?_; intro K hK
 refine Zoc (first := []) (cap := []) T rfl rfl rfl rfl evf (.cons evc (.cons evc .nil)) Tryd.func6 rfl rfl ?_
 refine Calls.mono (to_any 1 1 _) ?_
 clear T; rintro e wc ⟨rfl, hb⟩ ac T
 replace M := M.call hb; clear hb
 refine Zso hK _ _ (MA.mk (fun _ => M.mask [true, true] rfl) (M.mask [false, true] rfl)) ?_; clear hK K
 refine gq (v := (.agg #[.int .i64 3, .int .i64 4, .int .i64 2, .int .i64 3, .int .i64 1, .int .i64 2, .int .i64 1, .int .i64 1, .int .i64 20])) T 8 511 rfl (fun _ _ _ _ _ => (rn_build rfl (.cons (T.e 3 rfl) (.cons (T.e 2 rfl) (.cons (T.e 1 rfl) (.cons (T.e 0 rfl) (.cons evc .nil))))) (fun _ => by kernel_rfl))) ?_; clear T ac; intro ac T
 refine gw 9 1023 ?_; intro K hK
 refine Zoc (first := []) (cap := []) T rfl rfl rfl rfl evf (.cons evc (.cons evc .nil)) Tryd.func6 rfl rfl ?_
 refine Calls.mono (to_any (-2) 1 _) ?_
 clear T; rintro e wc ⟨rfl, hb⟩ ac T
 replace M := M.call hb; clear hb
 refine Zso hK _ _ (MA.mk (fun _ => M.mask [true, true] rfl) (M.mask [false, true] rfl)) ?_; clear hK K
 refine gw 10 2047 ?_; intro K hK
 refine Zoc (first := []) (cap := []) T rfl rfl rfl rfl evf (.cons evc (.cons evc .nil)) Tryd.func6 rfl rfl ?_
 refine Calls.mono (to_any 0 3 _) ?_
 clear T; rintro e wc ⟨rfl, hb⟩ ac T
 replace M := M.call hb; clear hb
 refine Zso hK _ _ (MA.mk (fun _ => M.mask [true, true] rfl) (M.mask [false, true] rfl)) ?_; clear hK K
 refine gw 11 4095 ?_; intro K hK
 refine ow_bsR (e := 23) (size := 2) [.int .i64 (-2), .int .i64 1, .int .i64 0, .int .i64 3] M T rfl rfl rfl rfl (.cons (T.e 1 rfl) (.cons (T.e 0 rfl) .nil)) (fun _ => by kernel_rfl) rfl rfl rfl ?_; clear M T; intro g3 wc ac M T
 refine Zso hK _ _ (MA.mk (fun _ => M.mask [false, true, true] rfl) (M.mask [false, false, true] rfl)) ?_; clear hK K
 refine gq (v := (.agg #[.int .i64 p0, .int .i64 p1, .int .i64 30, .int .i64 32, .int .i64 40, .int .i64 41, .int .i64 3, .int .i64 4, .int .i64 2, .int .i64 3, .int .i64 1, .int .i64 2, .int .i64 1, .int .i64 1, .int .i64 20, .slice (some ⟨g3, 0, none⟩) 2 2, .int .i64 5, .int .i64 1])) T 12 8191 rfl (fun _ _ _ _ _ => (rn_build rfl (.cons (T.e 8 rfl) (.cons (T.e 3 rfl) (.cons (T.e 0 rfl) (.cons evc (.cons evc .nil))))) (fun _ => by kernel_rfl))) ?_; clear T ac; intro ac T
 refine gw 13 16383 ?_; intro K hK
 refine Zos M T rfl rfl (T.e 13 rfl) (T.e 0 rfl) rfl (.tail .head) rfl (by simp) rfl (by kernel_rfl) ?_; clear M T; intro wc ac M T
 refine Zso hK _ _ (MA.mk (fun h => (no_of (by kernel_rfl) h).elim) (M.mask [false, false, true] rfl)) ?_; clear hK K
 refine Zgd (by kernel_rfl) ?_
 replace T := T.pick [13] rfl
 replace M := M.mask [true, true, false] rfl
 refine Znr ?_
 refine rt_c M T rfl (T.e 0 rfl) (Zne (i := 1) rfl) rfl ?_
 exact ⟨_, rfl, M.mask [true, false] rfl⟩
theorem flatR_any  (w : World)  :
  Calls Tryd.prog 5 #[] w (JobR (exJ (-12) (-8)) w) := by
 refine Zpx noEx Tryd.func5 rfl 3 rfl [] rfl rfl (Mem.init w _) ?_
 intro ac wc T M
 refine Zsr ?_
 refine Zl2 ?_
 refine Zoa M T rfl rfl rfl rfl ?_; clear M T; intro g1 wc ac M T
 refine Zln ?_
 refine Zsr ?_
 refine Zl2 ?_
 refine Zoc (first := []) (cap := []) T rfl rfl rfl rfl evf (.cons evc (.cons evc .nil)) Tryd.func6 rfl rfl ?_
 refine Calls.mono (to_any (-12) (-8) _) ?_
 clear T; rintro e wc ⟨rfl, hb⟩ ac T
 replace M := M.call hb; clear hb
 refine Zl2 ?_
 refine Zoc (first := []) (cap := []) T rfl rfl rfl rfl evf (.cons (T.e 0 rfl) .nil) Tryd.func12 rfl rfl ?_
 refine Calls.mono (jobR_any (-12) (-8) _) ?_
 clear T; rintro e wc ⟨gu2, rfl, N⟩ ac T
 replace M := M.join N
 clear N
 replace M : Mem w noEx wc [(gu2, .row 23 2 2 (rc [(-2, 1), (0, 3)]) 2), (g1, .cells [.int .i64 0, .int .i64 0, .int .i64 0, .int .i64 0, .int .i64 0, .int .i64 0, .int .i64 0, .int .i64 0, .int .i64 0, .int .i64 0, .int .i64 0, .int .i64 0, .int .i64 0, .int .i64 0, .int .i64 0, .slice none 0 0, .int .i64 0, .int .i64 0])] := M
 refine Zl2 ?_
 refine Zos M T rfl rfl (T.e 2 rfl) (T.e 0 rfl) rfl (.tail .head) rfl (by simp) rfl (by kernel_rfl) ?_; clear M T; intro wc ac M T
 replace T := T.pick [2] rfl
 refine Zln ?_
 refine wp_ret ?_
 refine rt_c M T rfl (T.e 0 rfl) (Zne (i := 1) rfl) rfl ?_
 exact ⟨_, rfl, M.mask [true, false] rfl⟩
theorem games_any  (w : World) (hT : StrW w)  :
  Calls Tryd.prog 17 #[] w fun e w' => e = .returned (.bool true) ∧ Below w.heap.size w w' := by
 refine Zpx noEx Tryd.func17 rfl 165 rfl [] rfl rfl (Mem.init w _) ?_
 intro ac wc T M
 refine Zsr ?_
 refine lq T (Zra rfl evc) ?_; clear T ac; intro ac T
 replace T := T.pick [] rfl
 refine Zln ?_
 refine Zsr ?_
 refine Zl2 ?_
 refine Zoc (first := []) (cap := []) T rfl rfl rfl rfl evf .nil Tryd.func5 rfl rfl ?_
 refine Calls.mono (flat_any _) ?_
 clear T; rintro e wc ⟨gu1, rfl, N⟩ ac T
 replace M := M.join N; clear N
 replace M := M.mask [true] rfl
 refine Zl2 ?_
 refine Zoc (first := []) (cap := []) T rfl rfl rfl rfl evf .nil Tryd.func36 rfl rfl ?_
 refine Calls.mono (sharper_any _) ?_
 clear T; rintro e wc ⟨gu2, rfl, N⟩ ac T
 replace M := M.join N; clear N
 replace M := M.mask [true, true] rfl
 have Sg := Sp.cells (w := w) (ex := noEx) (g := gu2) (xs := rc [(-2, 1), (0, 3)]) (n := 2) (size := 2) (by rfl)
 refine Zl2 ?_
 refine Zoa M T rfl rfl rfl rfl ?_; clear M T; intro g1 wc ac M T
 refine Zl2 ?_
 refine Zoa M T rfl rfl rfl rfl ?_; clear M T; intro g2 wc ac M T
 refine Zl2 ?_
 refine Zos M T rfl rfl (T.e 1 rfl) (T.e 3 rfl) rfl (.tail .head) rfl (by simp) rfl (by kernel_rfl) ?_; clear M T; intro wc ac M T
 refine Zl2 ?_
 refine Zos M T rfl rfl (T.e 0 rfl) (T.e 2 rfl) rfl .head rfl (by simp) rfl (by kernel_rfl) ?_; clear M T; intro wc ac M T
 replace T := T.pick [0, 1] rfl
 refine Zln ?_
 refine wp_seq ?_
 refine Zgs M (M.perm [2, 3] rfl rfl) 8 (by kernel_rfl) rfl (by kernel_rfl) ?_
 clear M; intro wc M
 refine g_addG 5 M ?_
 refine g_addG 7 (M.perm [0, 2, 3] rfl rfl) ?_
 refine gq (v := (.pointer (some ⟨g2, 15, none⟩))) T 0 1 rfl (fun _ _ _ _ _ => (Zrf (off := 15) rfl (T.e 0 rfl) (fun _ _ _ => by kernel_rfl))) ?_; clear T ac; intro ac T
 refine gq T 1 3 rfl (fun B w' hD hl hS => (Zro (Mem.nth (show Mem w noEx w' _ from ((MA.lft hS) (hD.wait (i := 1) (m := 7) (by kernel_rfl) hl))) 0 rfl) rfl (T.e 0 rfl) rfl)) ?_; clear T ac; intro ac T
 refine gq T 2 7 rfl (fun _ _ _ _ _ => (rn_slice (size := 2) (l := 0) (h := 1) rfl Tryd.underlying28 (by kernel_rfl) (T.e 0 rfl) rfl evc (by omega) (by omega))) ?_; clear T ac; intro ac T
 obtain ⟨Aq1, hAq1⟩ : ∃ q : Option Addr, q = (if 2 = 0 then some ⟨gu2, 0, none⟩ else Option.map (fun x : Addr => x.add (0 * 2)) (some ⟨gu2, 0, none⟩)) := ⟨_, rfl⟩
 rw [← hAq1] at T
 obtain ⟨lq1, hlq1⟩ : ∃ q, q = (([(-2, 1), (0, 3)] : List (Int × Int)).drop 0).take (1 - 0) := ⟨_, rfl⟩
 have nlq1 : lq1.length = 1 - 0 := by rw [hlq1, List.length_take, List.length_drop]; (try simp only [List.length_cons, List.length_append, List.length_nil]); omega
 rw [← nlq1] at T
 have SAq1 : Sp w noEx [(gu2, .cells [.int .i64 (-2), .int .i64 1, .int .i64 0, .int .i64 3])] Aq1 lq1.length 2 gu2 (0 + 0 * 2) (rc lq1) := by rw [nlq1, hAq1, hlq1, ← rc_part]; exact Sg.sub (by omega) (by omega) (by omega)
 refine gq (v := (.pointer (some ⟨g1, 6, none⟩))) T 3 15 rfl (fun _ _ _ _ _ => (Zrf (off := 6) rfl (T.e 4 rfl) (fun _ _ _ => by kernel_rfl))) ?_; clear T ac; intro ac T
 refine gq (v := (.pointer (some ⟨g1, 14, none⟩))) T 4 31 rfl (fun _ _ _ _ _ => (Zrf (off := 8) rfl (T.e 0 rfl) (fun _ _ _ => by kernel_rfl))) ?_; clear T ac; intro ac T
 refine gw 5 63 ?_; intro K hK
 refine Zos M T rfl rfl (T.e 0 rfl) evc rfl (.tail .head) rfl (by simp) rfl (by kernel_rfl) ?_; clear M T; intro wc ac M T
 refine Zso hK _ _ (MA.mk (fun _ => M.mask [true, false, true, true] rfl) (MA.mk (fun h => (no_of (by kernel_rfl) h).elim) (M.mask [false, false, true, true] rfl))) ?_; clear hK K
 refine gq (v := (.pointer (some ⟨g2, 15, none⟩))) T 6 127 rfl (fun _ _ _ _ _ => (Zrf (off := 15) rfl (T.e 5 rfl) (fun _ _ _ => by kernel_rfl))) ?_; clear T ac; intro ac T
 refine gw 7 255 ?_; intro K hK
 refine Zos M T rfl rfl (T.e 0 rfl) (T.e 3 rfl) rfl .head rfl (by simp) rfl (by kernel_rfl) ?_; clear M T; intro wc ac M T
 refine Zso hK _ _ (MA.mk (fun h => (no_of (by kernel_rfl) h).elim) (MA.mk (fun h => (no_of (by kernel_rfl) h).elim) (M.mask [false, false, true, true] rfl))) ?_; clear hK K
 refine Zgd (by kernel_rfl) ?_
 replace T := T.pick [6, 7] rfl
 refine nm_then ?_
 refine Zsr ?_
 refine Zl2 ?_
 refine Zoc (first := []) (cap := []) T rfl rfl rfl rfl evf .nil Tryd.func36 rfl rfl ?_
 refine Calls.mono (sharper_any _) ?_
 clear T; rintro e wc ⟨gu3, rfl, N⟩ ac T
 replace M := M.join N; clear N
 replace M := M.mask [true, true, true, true, true] rfl
 refine Zl2 ?_
 refine ow_bs (e := 3) [.int .i64 1, .int .i64 1] M T rfl rfl rfl rfl (.cons evc (.cons evc .nil)) (fun _ => by kernel_rfl) ?_; clear M T; intro g3 wc ac M T
 refine Zl2 ?_
 refine Zoc (first := []) (cap := []) T rfl rfl rfl rfl evf (.cons (T.e 1 rfl) (.cons (T.e 0 rfl) .nil)) Tryd.func16 rfl rfl ?_
 refine Calls.mono (kex21 (some ⟨gu3, 0, none⟩) 2 (some ⟨g3, 0, none⟩) 2 _ (M.rdOwn (Zne (i := 1) rfl) rfl rfl) (M.rdOwn (Zne (i := 0) rfl) rfl rfl)) ?_
 clear T; rintro e wc ⟨rfl, hb⟩ ac T
 replace M := M.call hb; clear hb
 refine Zg5 T (Zq (Zrm rfl (T.e 0 rfl))) rfl (Ze 0 rfl rfl rfl) rfl (Ze 1 rfl rfl rfl) rfl (Za 1 rfl rfl) rfl (Za 1 rfl rfl) rfl ?_; clear T ac; intro ac T
 refine wpList_nil ?_
 replace T := T.pick [0, 1, 8, 9] rfl
 replace M := M.mask [false, false, true, true, true, true] rfl
 refine nm_then ?_
 refine Zsr ?_
 refine Zl2 ?_
 refine Zoc (first := []) (cap := []) T rfl rfl rfl rfl evf .nil Tryd.func5 rfl rfl ?_
 refine Calls.mono (flat_any _) ?_
 clear T; rintro e wc ⟨gu5, rfl, N⟩ ac T
 replace M := M.join N; clear N
 replace M := M.mask [true, true, true, true, true] rfl
 refine Zl2 ?_
 refine Zoc (first := []) (cap := []) T rfl rfl rfl rfl evf (.cons (T.e 0 rfl) .nil) Tryd.func35 rfl rfl ?_
 refine Calls.mono (kn_short0 (some ⟨gu5, 0, none⟩) 2 _ (M.rdOwn (Zne (i := 0) rfl) rfl rfl)) ?_
 clear T; rintro e wc ⟨Au6, cu6, Iu6, rfl, hsnu6, N⟩ ac T
 replace M := (M.join N).swapI
 clear N hsnu6
 replace M : Mem w noEx wc ((gu5, .cells [.int .i64 (-2), .int .i64 1, .int .i64 0, .int .i64 3]) :: (g2, .cells [.int .i64 (-9), .int .i64 (-9), .int .i64 30, .int .i64 32, .int .i64 40, .int .i64 41, .int .i64 3, .int .i64 4, .int .i64 2, .int .i64 3, .int .i64 1, .int .i64 2, .int .i64 1, .int .i64 1, .int .i64 20, .slice Aq1 lq1.length (2 - 0), .int .i64 5, .int .i64 1]) :: (g1, .cells [.int .i64 (-12), .int .i64 (-8), .int .i64 30, .int .i64 32, .int .i64 40, .int .i64 41, .int .i64 3, .int .i64 4, .int .i64 2, .int .i64 3, .int .i64 1, .int .i64 2, .int .i64 1, .int .i64 1, .int .i64 29, .slice (some ⟨gu1, 0, none⟩) 2 2, .int .i64 5, .int .i64 1]) :: (gu2, .cells [.int .i64 (-2), .int .i64 1, .int .i64 0, .int .i64 3]) :: (gu1, .cells [.int .i64 (-2), .int .i64 1, .int .i64 0, .int .i64 3]) :: Iu6) := M
 refine Zg5 T (Zq (Zrm rfl (T.e 0 rfl))) rfl (Ze 0 rfl rfl rfl) rfl (Ze 1 rfl rfl rfl) rfl (Za 1 rfl rfl) rfl (Za 1 rfl rfl) rfl ?_; clear T ac; intro ac T
 refine wpList_nil ?_
 replace T := T.pick [0, 7, 8, 9, 10] rfl
 replace M := M.mask [false, true, true, true, true] rfl
 refine nm_then ?_
 refine Zsr ?_
 refine Zl2 ?_
 refine Zoc (first := []) (cap := []) T rfl rfl rfl rfl evf (.cons evc (.cons evc .nil)) Tryd.func6 rfl rfl ?_
 refine Calls.mono (to_any (-3) 2 _) ?_
 clear T; rintro e wc ⟨rfl, hb⟩ ac T
 replace M := M.call hb; clear hb
 refine Zl2 ?_
 refine Zoc (first := []) (cap := []) T rfl rfl rfl rfl evf (.cons (T.e 0 rfl) .nil) Tryd.func12 rfl rfl ?_
 refine Calls.mono (job_any (-3) 2 _) ?_
 clear T; rintro e wc ⟨gu8, rfl, N⟩ ac T
 replace M := M.join N; clear N
 replace M := M.mask [true, true, true, true, true] rfl
 refine Zl2 ?_
 refine Zoc (first := []) (cap := []) T rfl rfl rfl rfl evf (.cons (T.e 0 rfl) .nil) Tryd.func35 rfl rfl ?_
 refine Calls.mono (kn_short1 (some ⟨gu8, 0, none⟩) 2 _ (M.rdOwn (Zne (i := 0) rfl) rfl rfl)) ?_
 clear T; rintro e wc ⟨Au9, cu9, Iu9, rfl, hsnu9, N⟩ ac T
 replace M := (M.join N).swapI
 clear N hsnu9
 replace M : Mem w noEx wc ((gu8, .cells [.int .i64 (-2), .int .i64 1, .int .i64 0, .int .i64 3]) :: (g2, .cells [.int .i64 (-9), .int .i64 (-9), .int .i64 30, .int .i64 32, .int .i64 40, .int .i64 41, .int .i64 3, .int .i64 4, .int .i64 2, .int .i64 3, .int .i64 1, .int .i64 2, .int .i64 1, .int .i64 1, .int .i64 20, .slice Aq1 lq1.length (2 - 0), .int .i64 5, .int .i64 1]) :: (g1, .cells [.int .i64 (-12), .int .i64 (-8), .int .i64 30, .int .i64 32, .int .i64 40, .int .i64 41, .int .i64 3, .int .i64 4, .int .i64 2, .int .i64 3, .int .i64 1, .int .i64 2, .int .i64 1, .int .i64 1, .int .i64 29, .slice (some ⟨gu1, 0, none⟩) 2 2, .int .i64 5, .int .i64 1]) :: (gu2, .cells [.int .i64 (-2), .int .i64 1, .int .i64 0, .int .i64 3]) :: (gu1, .cells [.int .i64 (-2), .int .i64 1, .int .i64 0, .int .i64 3]) :: (Iu6 ++ Iu9)) := M
 refine Zg5 T (Zq (Zrm rfl (T.e 0 rfl))) rfl (Ze 0 rfl rfl rfl) rfl (Ze 1 rfl rfl rfl) rfl (Za 1 rfl rfl) rfl (Za 1 rfl rfl) rfl ?_; clear T ac; intro ac T
 refine wpList_nil ?_
 replace T := T.pick [0, 1, 8, 9, 10, 11, 12] rfl
 replace M := M.mask [false, true, true, true, true] rfl
 refine nm_then ?_
 refine Zsr ?_
 refine Zl2 ?_
 refine Zoc (first := []) (cap := []) T rfl rfl rfl rfl evf .nil Tryd.func36 rfl rfl ?_
 refine Calls.mono (sharper_any _) ?_
 clear T; rintro e wc ⟨gu10, rfl, N⟩ ac T
 replace M := M.join N; clear N
 replace M := M.mask [true, true, true, true, true] rfl
 refine Zl2 ?_
 refine Zoc (first := []) (cap := []) T rfl rfl rfl rfl evf (.cons (T.e 0 rfl) .nil) Tryd.func37 rfl rfl ?_
 refine Calls.mono (kex22 (some ⟨gu10, 0, none⟩) 2 _ (M.rdOwn (Zne (i := 0) rfl) rfl rfl)) ?_
 clear T; rintro e wc ⟨rfl, hb⟩ ac T
 replace M := M.call hb; clear hb
 refine Zg5 T (Zq (Zrm rfl (T.e 0 rfl))) rfl (Ze 0 rfl rfl rfl) rfl (Ze 1 rfl rfl rfl) rfl (Za 1 rfl rfl) rfl (Za 1 rfl rfl) rfl ?_; clear T ac; intro ac T
 refine wpList_nil ?_
 replace T := T.pick [0, 1, 7, 8, 9, 10, 11, 12, 13] rfl
 replace M := M.mask [false, true, true, true, true] rfl
 refine nm_then ?_
 refine Zsr ?_
 refine lq T (Zrr (Mem.nth M 1 rfl) rfl (T.e 8 rfl) rfl) ?_; clear T ac; intro ac T
 refine Zl2 ?_
 refine Zoc (first := []) (cap := []) T rfl rfl rfl rfl evf (.cons (T.e 0 rfl) .nil) Tryd.func37 rfl rfl ?_
 refine Calls.mono (kex23 (some ⟨gu1, 0, none⟩) 2 _ (M.rdOwn (Zne (i := 3) rfl) rfl rfl)) ?_
 clear T; rintro e wc ⟨rfl, hb⟩ ac T
 replace M := M.call hb; clear hb
 refine Zg5 T (Zq (Zrm rfl (T.e 0 rfl))) rfl (Ze 0 rfl rfl rfl) rfl (Ze 1 rfl rfl rfl) rfl (Za 1 rfl rfl) rfl (Za 1 rfl rfl) rfl ?_; clear T ac; intro ac T
 replace T := T.pick [0, 7, 8, 9, 10, 11, 12, 13, 14, 15] rfl
 refine Zln ?_
 refine wp_seq ?_
 refine Zsr ?_
 refine Zg8 (v2 := (.bool false)) (v5 := (.bool false)) T (Zq (Zrm rfl (T.e 6 rfl))) rfl (fun _ T => Zq (Zrq (rn_neq rfl (T.e 0 rfl) evc) (by simp))) rfl (Zm 0 rfl rfl) rfl (fun _ T => Zw (Zwy rfl rfl (T.e 0 rfl) rfl) (Zrm rfl (T.e 8 rfl))) rfl (fun _ T => Zw (Zwy rfl rfl (T.e 1 rfl) rfl) (Zrq (rn_neq rfl (T.e 0 rfl) evc) (by simp))) rfl (fun _ T => Zq (Zr0 rfl (T.e 2 rfl) rfl (T.e 0 rfl))) rfl (Zm 0 rfl rfl) rfl (fun _ T => Zw (Zwy rfl rfl (T.e 0 rfl) rfl) (Zrm rfl (T.e 10 rfl))) rfl ?_; clear T ac; intro ac T
 refine Zg8 (v1 := (.bool false)) (v5 := (.bool false)) T (Zw (Zwy rfl rfl (T.e 1 rfl) rfl) (Zrq (rn_neq rfl (T.e 0 rfl) evc) (by simp))) rfl (fun _ T => Zq (Zr0 rfl (T.e 2 rfl) rfl (T.e 0 rfl))) rfl (Zm 0 rfl rfl) rfl (fun _ T => Zw (Zwy rfl rfl (T.e 0 rfl) rfl) (Zrm rfl (T.e 12 rfl))) rfl (fun _ T => Zw (Zwy rfl rfl (T.e 1 rfl) rfl) (Zrq (rn_neq rfl (T.e 0 rfl) evc) (by simp))) rfl (fun _ T => Zq (Zr0 rfl (T.e 2 rfl) rfl (T.e 0 rfl))) rfl (Zm 0 rfl rfl) rfl (fun _ T => Zw (Zwy rfl rfl (T.e 0 rfl) rfl) (Zrm rfl (T.e 15 rfl))) rfl ?_; clear T ac; intro ac T
 refine Zg8 (v1 := (.bool false)) (v5 := (.bool false)) T (Zw (Zwy rfl rfl (T.e 1 rfl) rfl) (Zrq (rn_neq rfl (T.e 0 rfl) evc) (by simp))) rfl (fun _ T => Zq (Zr0 rfl (T.e 2 rfl) rfl (T.e 0 rfl))) rfl (Zm 0 rfl rfl) rfl (fun _ T => Zw (Zwy rfl rfl (T.e 0 rfl) rfl) (Zrm rfl (T.e 26 rfl))) rfl (fun _ T => Zw (Zwy rfl rfl (T.e 1 rfl) rfl) (Zrq (rn_neq rfl (T.e 0 rfl) evc) (by simp))) rfl (fun _ T => Zq (Zr0 rfl (T.e 2 rfl) rfl (T.e 0 rfl))) rfl (Zm 0 rfl rfl) rfl (fun _ T => Zw (Zwy rfl rfl (T.e 0 rfl) rfl) (Zrm rfl (T.e 27 rfl))) rfl ?_; clear T ac; intro ac T
 refine Zg7 (v1 := (.int .i64 0)) (v2 := (.bool false)) (v6 := (.bool false)) T (Zw (Zwy rfl rfl (T.e 1 rfl) rfl) (Zrl rfl Tryd.underlying39 (T.e 0 rfl))) rfl (fun _ T => Zw (Zwy rfl rfl (T.e 2 rfl) rfl) (Zrq (rn_gtr rfl (T.e 0 rfl) evc) (by simp))) rfl (fun _ T => Zq (Zr0 rfl (T.e 3 rfl) rfl (T.e 0 rfl))) rfl (Zm 0 rfl rfl) rfl (fun _ T => Zw (Zwy rfl rfl (T.e 0 rfl) rfl) (Zrm rfl (T.e 30 rfl))) rfl (fun _ T => Zw (Zwy rfl rfl (T.e 1 rfl) rfl) (Zrq (rn_neq rfl (T.e 0 rfl) evc) (by simp))) rfl (fun _ T => Zq (Zr0 rfl (T.e 2 rfl) rfl (T.e 0 rfl))) rfl ?_; clear T ac; intro ac T
 replace T := T.pick [0, 39, 40] rfl
 refine Zln ?_
 refine wp_cond_false (T.e 0 rfl) ?_
 refine Zsk ?_
 refine Zsr ?_
 refine Zl2 ?_
 refine Zoc (first := []) (cap := []) T rfl rfl rfl rfl evf .nil Tryd.func5 rfl rfl ?_
 refine Calls.mono (flat_any _) ?_
 clear T; rintro e wc ⟨gu13, rfl, N⟩ ac T
 replace M := M.join N; clear N
 replace M := M.mask [true, true, true, true, true] rfl
 refine Zl2 ?_
 refine Zoc (first := []) (cap := []) T rfl rfl rfl rfl evf (.cons (T.e 0 rfl) .nil) Tryd.func38 rfl rfl ?_
 refine Calls.mono (kex24 (some ⟨gu13, 0, none⟩) 2 _ (M.rdOwn (Zne (i := 0) rfl) rfl rfl)) ?_
 clear T; rintro e wc ⟨rfl, hb⟩ ac T
 replace M := M.call hb; clear hb
 refine Zg7 T (Zq (Zrm rfl (T.e 0 rfl))) rfl (Ze 0 rfl rfl rfl) rfl (Ze 1 rfl rfl rfl) rfl (Ze 2 rfl rfl rfl) rfl (Za 2 rfl rfl) rfl (Za 2 rfl rfl) rfl (Za 2 rfl rfl) rfl ?_; clear T ac; intro ac T
 refine wpList_nil ?_
 replace T := T.pick [0, 1, 2, 10, 11] rfl
 replace M := M.mask [false, true, true, true, true] rfl
 refine nm_then ?_
 refine Zsr ?_
 refine Zl2 ?_
 refine Zoc (first := []) (cap := []) T rfl rfl rfl rfl evf (.cons evc (.cons evc .nil)) Tryd.func6 rfl rfl ?_
 refine Calls.mono (to_any (-3) (-1) _) ?_
 clear T; rintro e wc ⟨rfl, hb⟩ ac T
 replace M := M.call hb; clear hb
 refine Zl2 ?_
 refine Zoc (first := []) (cap := []) T rfl rfl rfl rfl evf (.cons (T.e 0 rfl) .nil) Tryd.func12 rfl rfl ?_
 refine Calls.mono (job_any (-3) (-1) _) ?_
 clear T; rintro e wc ⟨gu16, rfl, N⟩ ac T
 replace M := M.join N; clear N
 replace M := M.mask [true, true, true, true, true] rfl
 refine Zl2 ?_
 refine Zoc (first := []) (cap := []) T rfl rfl rfl rfl evf (.cons (T.e 0 rfl) .nil) Tryd.func38 rfl rfl ?_
 refine Calls.mono (kex25 (some ⟨gu16, 0, none⟩) 2 _ (M.rdOwn (Zne (i := 0) rfl) rfl rfl)) ?_
 clear T; rintro e wc ⟨rfl, hb⟩ ac T
 replace M := M.call hb; clear hb
 refine Zg7 T (Zq (Zrm rfl (T.e 0 rfl))) rfl (Ze 0 rfl rfl rfl) rfl (Ze 1 rfl rfl rfl) rfl (Ze 2 rfl rfl rfl) rfl (Za 2 rfl rfl) rfl (Za 2 rfl rfl) rfl (Za 2 rfl rfl) rfl ?_; clear T ac; intro ac T
 refine wpList_nil ?_
 replace T := T.pick [0, 1, 2, 10, 11, 12, 13, 14] rfl
 replace M := M.mask [false, true, true, true, true] rfl
 refine nm_then ?_
 refine Zsr ?_
 refine Zl2 ?_
 refine Zoc (first := []) (cap := []) T rfl rfl rfl rfl evf .nil Tryd.func5 rfl rfl ?_
 refine Calls.mono (flat_any _) ?_
 clear T; rintro e wc ⟨gu18, rfl, N⟩ ac T
 replace M := M.join N; clear N
 replace M := M.mask [true, true, true, true, true] rfl
 refine Zl2 ?_
 refine Zoc (first := []) (cap := []) T rfl rfl rfl rfl evf .nil Tryd.func36 rfl rfl ?_
 refine Calls.mono (sharper_any _) ?_
 clear T; rintro e wc ⟨gu19, rfl, N⟩ ac T
 replace M := M.join N; clear N
 replace M := M.mask [true, true, true, true, true, true] rfl
 refine Zl2 ?_
 refine Zoc (first := []) (cap := []) T rfl rfl rfl rfl evf .nil Tryd.func5 rfl rfl ?_
 refine Calls.mono (flat_any _) ?_
 clear T; rintro e wc ⟨gu20, rfl, N⟩ ac T
 replace M := M.join N; clear N
 replace M := M.mask [true, true, true, true, true, true, true] rfl
 refine Zl2 ?_
 refine ow_bs (e := 30) [.int .i64 (-12), .int .i64 (-8), .int .i64 30, .int .i64 32, .int .i64 40, .int .i64 41, .int .i64 3, .int .i64 4, .int .i64 2, .int .i64 3, .int .i64 1, .int .i64 2, .int .i64 1, .int .i64 1, .int .i64 20, .slice (some ⟨gu18, 0, none⟩) 2 2, .int .i64 5, .int .i64 1, .int .i64 (-9), .int .i64 (-9), .int .i64 30, .int .i64 32, .int .i64 40, .int .i64 41, .int .i64 3, .int .i64 4, .int .i64 2, .int .i64 3, .int .i64 1, .int .i64 2, .int .i64 1, .int .i64 1, .int .i64 20, .slice (some ⟨gu19, 0, none⟩) 2 2, .int .i64 5, .int .i64 1, .int .i64 (-12), .int .i64 (-8), .int .i64 30, .int .i64 32, .int .i64 40, .int .i64 41, .int .i64 3, .int .i64 4, .int .i64 2, .int .i64 3, .int .i64 1, .int .i64 2, .int .i64 1, .int .i64 1, .int .i64 20, .slice (some ⟨gu20, 0, none⟩) 2 2, .int .i64 5, .int .i64 1] M T rfl rfl rfl rfl (.cons (T.e 2 rfl) (.cons (T.e 1 rfl) (.cons (T.e 0 rfl) .nil))) (fun _ => by kernel_rfl) ?_; clear M T; intro g4 wc ac M T
 refine Zl2 ?_
 refine Zoc (first := []) (cap := []) T rfl rfl rfl rfl evf (.cons (T.e 0 rfl) .nil) Tryd.func50 rfl rfl ?_
 refine Calls.mono (kn_blank3 (some ⟨g4, 0, none⟩) (some ⟨gu18, 0, none⟩) (some ⟨gu19, 0, none⟩) (some ⟨gu20, 0, none⟩) 3 2 2 2 _ (M.rdOwn (Zne (i := 0) rfl) rfl rfl) (M.rdOwn (Zne (i := 3) rfl) rfl rfl) (M.rdOwn (Zne (i := 2) rfl) rfl rfl) (M.rdOwn (Zne (i := 1) rfl) rfl rfl)) ?_
 clear T; rintro e wc ⟨rfl, hb⟩ ac T
 replace M := M.call hb; clear hb
 refine Zg7 T (Zq (Zrm rfl (T.e 0 rfl))) rfl (Ze 0 rfl rfl rfl) rfl (Ze 1 rfl rfl rfl) rfl (Ze 2 rfl rfl rfl) rfl (Za 2 rfl rfl) rfl (Za 2 rfl rfl) rfl (Za 2 rfl rfl) rfl ?_; clear T ac; intro ac T
 refine wpList_nil ?_
 replace T := T.pick [0, 1, 2, 12, 13, 14, 15, 16, 17, 18, 19] rfl
 replace M := M.mask [false, false, false, false, true, true, true, true] rfl
 refine nm_then ?_
 refine Zsr ?_
 refine lq T (Zrr (Mem.nth M 1 rfl) rfl (T.e 10 rfl) rfl) ?_; clear T ac; intro ac T
 refine Zl2 ?_
 refine ow_bs (e := 30) [.int .i64 (-12), .int .i64 (-8), .int .i64 30, .int .i64 32, .int .i64 40, .int .i64 41, .int .i64 3, .int .i64 4, .int .i64 2, .int .i64 3, .int .i64 1, .int .i64 2, .int .i64 1, .int .i64 1, .int .i64 29, .slice (some ⟨gu1, 0, none⟩) 2 2, .int .i64 5, .int .i64 1] M T rfl rfl rfl rfl (.cons (T.e 0 rfl) .nil) (fun _ => by kernel_rfl) ?_; clear M T; intro g5 wc ac M T
 refine Zl2 ?_
 refine Zoc (first := []) (cap := []) T rfl rfl rfl rfl evf (.cons (T.e 0 rfl) .nil) Tryd.func50 rfl rfl ?_
 refine Calls.mono (kn_blank1 (some ⟨g5, 0, none⟩) (some ⟨gu1, 0, none⟩) 1 2 _ (M.rdOwn (Zne (i := 0) rfl) rfl rfl) (M.rdOwn (Zne (i := 4) rfl) rfl rfl)) ?_
 clear T; rintro e wc ⟨rfl, hb⟩ ac T
 replace M := M.call hb; clear hb
 refine Zg5 T (Zq (Zrm rfl (T.e 0 rfl))) rfl (Ze 0 rfl rfl rfl) rfl (Ze 1 rfl rfl rfl) rfl (Ze 2 rfl rfl rfl) rfl (Za 0 rfl rfl) rfl ?_; clear T ac; intro ac T
 refine wpList_nil ?_
 replace T := T.pick [0, 8, 9, 10, 11, 12, 13, 14, 15, 16, 17] rfl
 replace M := M.mask [false, true, false, true, false] rfl
 refine nm_then ?_
 refine Zsr ?_
 refine lq T (Zrr (Mem.nth M 0 rfl) rfl (T.e 10 rfl) rfl) ?_; clear T ac; intro ac T
 refine Zl2 ?_
 refine Zoc (first := []) (cap := []) T rfl rfl rfl rfl evf (.cons (T.e 0 rfl) .nil) Tryd.func51 rfl rfl ?_
 refine Calls.mono (kn_write (Aq1) (2 - 0) lq1 (by rw [hlq1]; rfl) _ (SAq1.rd M (.cons _ (List.Sublist.cons_cons _ (Zz9 _)))) (hT.mem0 M)) ?_
 clear T; rintro e wc ⟨rfl, hb⟩ ac T
 replace M := M.call hb; clear hb
 refine Zg5 T (Zq (Zrm rfl (T.e 0 rfl))) rfl (Ze 0 rfl rfl rfl) rfl (Ze 1 rfl rfl rfl) rfl (Za 1 rfl rfl) rfl (Za 1 rfl rfl) rfl ?_; clear T ac; intro ac T
 refine wpList_nil ?_
 replace T := T.pick [0, 1, 7, 8, 9, 10, 11, 12, 13, 14, 15, 16] rfl
 replace M := M.mask [false, true] rfl
 refine nm_then ?_
 refine Zsr ?_
 refine Zg8 (v2 := (.bool true)) (v5 := (.bool true)) T (Zq (Zrm rfl (T.e 9 rfl))) rfl (fun _ T => Zq (Zrq (rn_eql rfl (T.e 0 rfl) evc) (by simp))) rfl (Zm 0 rfl rfl) rfl (fun _ T => Zw (Zwy rfl rfl (T.e 0 rfl) rfl) (Zrm rfl (T.e 9 rfl))) rfl (fun _ T => Zw (Zwy rfl rfl (T.e 1 rfl) rfl) (Zrq (rn_eql rfl (T.e 0 rfl) evc) (by simp))) rfl (fun _ T => Zq (Zr1 rfl (T.e 2 rfl) rfl (T.e 0 rfl))) rfl (Zm 0 rfl rfl) rfl (fun _ T => Zw (Zwy rfl rfl (T.e 0 rfl) rfl) (Zrm rfl (T.e 10 rfl))) rfl ?_; clear T ac; intro ac T
 refine Zg8 (v1 := (.bool true)) (v5 := (.bool true)) T (Zw (Zwy rfl rfl (T.e 1 rfl) rfl) (Zrq (rn_eql rfl (T.e 0 rfl) evc) (by simp))) rfl (fun _ T => Zq (Zr1 rfl (T.e 2 rfl) rfl (T.e 0 rfl))) rfl (Zm 0 rfl rfl) rfl (fun _ T => Zw (Zwy rfl rfl (T.e 0 rfl) rfl) (Zrm rfl (T.e 13 rfl))) rfl (fun _ T => Zw (Zwy rfl rfl (T.e 1 rfl) rfl) (Zrq (rn_eql rfl (T.e 0 rfl) evc) (by simp))) rfl (fun _ T => Zq (Zr1 rfl (T.e 2 rfl) rfl (T.e 0 rfl))) rfl (Zm 0 rfl rfl) rfl (fun _ T => Zw (Zwy rfl rfl (T.e 0 rfl) rfl) (Zrm rfl (T.e 15 rfl))) rfl ?_; clear T ac; intro ac T
 refine Zg8 (v1 := (.bool true)) (v5 := (.bool true)) T (Zw (Zwy rfl rfl (T.e 1 rfl) rfl) (Zrq (rn_eql rfl (T.e 0 rfl) evc) (by simp))) rfl (fun _ T => Zq (Zr1 rfl (T.e 2 rfl) rfl (T.e 0 rfl))) rfl (Zm 0 rfl rfl) rfl (fun _ T => Zw (Zwy rfl rfl (T.e 0 rfl) rfl) (Zrm rfl (T.e 30 rfl))) rfl (fun _ T => Zw (Zwy rfl rfl (T.e 1 rfl) rfl) (Zrq (rn_eql rfl (T.e 0 rfl) evc) (by simp))) rfl (fun _ T => Zq (Zr1 rfl (T.e 2 rfl) rfl (T.e 0 rfl))) rfl (Zm 0 rfl rfl) rfl (fun _ T => Zw (Zwy rfl rfl (T.e 0 rfl) rfl) (Zrm rfl (T.e 33 rfl))) rfl ?_; clear T ac; intro ac T
 refine Zg8 (v1 := (.bool true)) (v5 := (.bool true)) T (Zw (Zwy rfl rfl (T.e 1 rfl) rfl) (Zrq (rn_eql rfl (T.e 0 rfl) evc) (by simp))) rfl (fun _ T => Zq (Zr1 rfl (T.e 2 rfl) rfl (T.e 0 rfl))) rfl (Zm 0 rfl rfl) rfl (fun _ T => Zw (Zwy rfl rfl (T.e 0 rfl) rfl) (Zrm rfl (T.e 35 rfl))) rfl (fun _ T => Zw (Zwy rfl rfl (T.e 1 rfl) rfl) (Zrq (rn_eql rfl (T.e 0 rfl) evc) (by simp))) rfl (fun _ T => Zq (Zr1 rfl (T.e 2 rfl) rfl (T.e 0 rfl))) rfl (Zm 0 rfl rfl) rfl (fun _ T => Zw (Zwy rfl rfl (T.e 0 rfl) rfl) (Zrm rfl (T.e 38 rfl))) rfl ?_; clear T ac; intro ac T
 refine Zg8 (v1 := (.bool true)) (v5 := (.bool true)) T (Zw (Zwy rfl rfl (T.e 1 rfl) rfl) (Zrq (rn_eql rfl (T.e 0 rfl) evc) (by simp))) rfl (fun _ T => Zq (Zr1 rfl (T.e 2 rfl) rfl (T.e 0 rfl))) rfl (Zm 0 rfl rfl) rfl (fun _ T => Zw (Zwy rfl rfl (T.e 0 rfl) rfl) (Zrm rfl (T.e 40 rfl))) rfl (fun _ T => Zw (Zwy rfl rfl (T.e 1 rfl) rfl) (Zrq (rn_eql rfl (T.e 0 rfl) evc) (by simp))) rfl (fun _ T => Zq (Zr1 rfl (T.e 2 rfl) rfl (T.e 0 rfl))) rfl (Zm 0 rfl rfl) rfl (fun _ T => Zw (Zwy rfl rfl (T.e 0 rfl) rfl) (Zrm rfl (T.e 43 rfl))) rfl ?_; clear T ac; intro ac T
 refine Zg7 (v1 := (.bool true)) (v5 := (.bool true)) T (Zw (Zwy rfl rfl (T.e 1 rfl) rfl) (Zrq (rn_eql rfl (T.e 0 rfl) evc) (by simp))) rfl (fun _ T => Zq (Zr1 rfl (T.e 2 rfl) rfl (T.e 0 rfl))) rfl (Zm 0 rfl rfl) rfl (fun _ T => Zw (Zwy rfl rfl (T.e 0 rfl) rfl) (Zrm rfl (T.e 44 rfl))) rfl (fun _ T => Zw (Zwy rfl rfl (T.e 1 rfl) rfl) (Zrq (rn_seql rfl (T.e 0 rfl) evc) (by decide))) rfl (fun _ T => Zq (Zr1 rfl (T.e 2 rfl) rfl (T.e 0 rfl))) rfl (Za 0 rfl rfl) rfl ?_; clear T ac; intro ac T
 replace T := T.pick [0] rfl
 refine Zln ?_
 refine wp_ret ?_
 refine rt_1 T rfl (T.e 0 rfl) ?_
 exact ⟨rfl, M.below⟩
theorem ReedKnown_any  (w : World) (hT : StrW w)  :
   Calls Tryd.prog 3 #[] w fun e w' => e = .returned (.bool true) ∧ Below w.heap.size w w' := by
 refine Zpx noEx Tryd.func3 rfl 289 rfl [] rfl rfl (Mem.init w _) ?_
 intro ac wc T M
 refine Zsr ?_
 refine lq T (Zra rfl evc) ?_; clear T ac; intro ac T
 replace T := T.pick [] rfl
 refine Zln ?_
 refine Zsr ?_
 refine Zl2 ?_
 refine Zoc (first := []) (cap := []) T rfl rfl rfl rfl evf .nil Tryd.func5 rfl rfl ?_
 refine Calls.mono (flat_any _) ?_
 clear T; rintro e wc ⟨gu1, rfl, N⟩ ac T
 replace M := M.join N; clear N
 replace M := M.mask [true] rfl
 refine Zl2 ?_
 refine Zoc (first := []) (cap := []) T rfl rfl rfl rfl evf .nil Tryd.func5 rfl rfl ?_
 refine Calls.mono (flat_any _) ?_
 clear T; rintro e wc ⟨gu2, rfl, N⟩ ac T
 replace M := M.join N; clear N
 replace M := M.mask [true, true] rfl
 refine Zl2 ?_
 refine Zoc (first := []) (cap := []) T rfl rfl rfl rfl evf .nil Tryd.func5 rfl rfl ?_
 refine Calls.mono (flat_any _) ?_
 clear T; rintro e wc ⟨gu3, rfl, N⟩ ac T
 replace M := M.join N; clear N
 replace M := M.mask [true, true, true] rfl
 refine Zl2 ?_
 refine Zoc (first := []) (cap := []) T rfl rfl rfl rfl evf .nil Tryd.func5 rfl rfl ?_
 refine Calls.mono (flat_any _) ?_
 clear T; rintro e wc ⟨gu4, rfl, N⟩ ac T
 replace M := M.join N; clear N
 replace M := M.mask [true, true, true, true] rfl
 refine Zl2 ?_
 refine Zoc (first := []) (cap := []) T rfl rfl rfl rfl evf .nil Tryd.func5 rfl rfl ?_
 refine Calls.mono (flat_any _) ?_
 clear T; rintro e wc ⟨gu5, rfl, N⟩ ac T
 replace M := M.join N; clear N
 replace M := M.mask [true, true, true, true, true] rfl
 refine Zl2 ?_
 refine Zoc (first := []) (cap := []) T rfl rfl rfl rfl evf .nil Tryd.func5 rfl rfl ?_
 refine Calls.mono (flatR_any _) ?_
 clear T; rintro e wc ⟨gwl, rfl, N⟩ ac T
 obtain ⟨Aw, Iw, hAw, hslw, N⟩ : ∃ A I, A = some (⟨gwl, 0, none⟩ : Addr) ∧ Sl 23 2 (.slice A 2 2) 2 (rc [(-2, 1), (0, 3)]) I ∧ Mem _ noEx _ I := ⟨_, _, rfl, Sl.row _ _ _ _ _ _, N⟩
 rw [← hAw] at T
 replace M := (M.join N).swapI
 clear N
 replace M : Mem w noEx wc ((gu5, .cells [.int .i64 (-2), .int .i64 1, .int .i64 0, .int .i64 3]) :: (gu4, .cells [.int .i64 (-2), .int .i64 1, .int .i64 0, .int .i64 3]) :: (gu3, .cells [.int .i64 (-2), .int .i64 1, .int .i64 0, .int .i64 3]) :: (gu2, .cells [.int .i64 (-2), .int .i64 1, .int .i64 0, .int .i64 3]) :: (gu1, .cells [.int .i64 (-2), .int .i64 1, .int .i64 0, .int .i64 3]) :: Iw) := M
 refine Zl2 ?_
 refine Zoc (first := []) (cap := []) T rfl rfl rfl rfl evf .nil Tryd.func5 rfl rfl ?_
 refine Calls.mono (flat_any _) ?_
 clear T; rintro e wc ⟨gu7, rfl, N⟩ ac T
 replace M := M.join N; clear N
 replace M := M.mask [true, true, true, true, true, true] rfl
 refine Zl2 ?_
 refine Zoa M T rfl rfl rfl rfl ?_; clear M T; intro g1 wc ac M T
 refine Zl2 ?_
 refine Zoa M T rfl rfl rfl rfl ?_; clear M T; intro g2 wc ac M T
 refine Zl2 ?_
 refine Zoa M T rfl rfl rfl rfl ?_; clear M T; intro g3 wc ac M T
 refine Zl2 ?_
 refine Zoa M T rfl rfl rfl rfl ?_; clear M T; intro g4 wc ac M T
 refine Zl2 ?_
 refine Zoa M T rfl rfl rfl rfl ?_; clear M T; intro g5 wc ac M T
 refine Zl2 ?_
 refine Zoa M T rfl rfl rfl rfl ?_; clear M T; intro g6 wc ac M T
 refine Zl2 ?_
 refine Zoa M T rfl rfl rfl rfl ?_; clear M T; intro g7 wc ac M T
 refine Zl2 ?_
 refine Zos M T rfl rfl (T.e 6 rfl) (T.e 13 rfl) rfl (.tail (.tail (.tail (.tail (.tail (.tail .head)))))) rfl (by simp) rfl (by kernel_rfl) ?_; clear M T; intro wc ac M T
 refine Zl2 ?_
 refine Zos M T rfl rfl (T.e 5 rfl) (T.e 12 rfl) rfl (.tail (.tail (.tail (.tail (.tail .head))))) rfl (by simp) rfl (by kernel_rfl) ?_; clear M T; intro wc ac M T
 refine Zl2 ?_
 refine Zos M T rfl rfl (T.e 4 rfl) (T.e 11 rfl) rfl (.tail (.tail (.tail (.tail .head)))) rfl (by simp) rfl (by kernel_rfl) ?_; clear M T; intro wc ac M T
 refine Zl2 ?_
 refine Zos M T rfl rfl (T.e 3 rfl) (T.e 10 rfl) rfl (.tail (.tail (.tail .head))) rfl (by simp) rfl (by kernel_rfl) ?_; clear M T; intro wc ac M T
 refine Zl2 ?_
 refine Zos M T rfl rfl (T.e 2 rfl) (T.e 9 rfl) rfl (.tail (.tail .head)) rfl (by simp) rfl (by kernel_rfl) ?_; clear M T; intro wc ac M T
 refine Zl2 ?_
 refine Zos M T rfl rfl (T.e 1 rfl) (T.e 8 rfl) rfl (.tail .head) rfl (by simp) rfl (by kernel_rfl) ?_; clear M T; intro wc ac M T
 refine Zl2 ?_
 refine Zos M T rfl rfl (T.e 0 rfl) (T.e 7 rfl) rfl .head rfl (by simp) rfl (by kernel_rfl) ?_; clear M T; intro wc ac M T
 replace T := T.pick [0, 1, 2, 3, 4, 5, 6] rfl
 refine Zln ?_
 refine wp_seq ?_
 refine Zgs M (M.mask [false, true, false, false, false, false, false, true, true, true, true, true, true] rfl) 17 (by kernel_rfl) rfl (by kernel_rfl) ?_
 clear M; intro wc M
 refine g_addG 4 M ?_
 refine g_addG 7 (M.mask [true, true, true, true, true, true, false, true, true, true, true, true, true] rfl) ?_
 refine g_addG 9 (M.mask [true, true, true, true, true, false, false, true, true, true, true, true, true] rfl) ?_
 refine g_addG 11 (M.mask [true, true, true, true, false, false, false, true, true, true, true, true, true] rfl) ?_
 refine g_addG 13 (M.mask [true, true, true, false, false, false, false, true, true, true, true, true, true] rfl) ?_
 refine g_addG 16 (M.mask [true, true, false, false, false, false, false, true, true, true, true, true, true] rfl) ?_
 refine g_have (fun ac wc => ∃ (lmgr2_1 : List (Int × Int)), (lmgr2_1 = List.replicate 5 (0, 0)) ∧ (lmgr2_1.length = 5) ∧ ∃ (gr2_1 : Nat), Tm ac 289 [(43, .slice (some ⟨gr2_1, 0, none⟩) 5 5), (47, .pointer (some ⟨g2, 14, none⟩)), (46, .pointer (some ⟨g2, 6, none⟩)), (45, .pointer (some ⟨g1, 2, none⟩)), (44, .pointer (some ⟨g1, 0, none⟩)), (42, .agg #[.int .i64 32, .int .i64 30]), (7, .pointer (some ⟨g7, 0, none⟩)), (6, .pointer (some ⟨g6, 0, none⟩)), (5, .pointer (some ⟨g5, 0, none⟩)), (4, .pointer (some ⟨g4, 0, none⟩)), (3, .pointer (some ⟨g3, 0, none⟩)), (2, .pointer (some ⟨g2, 0, none⟩)), (1, .pointer (some ⟨g1, 0, none⟩))] ∧ Mem w noEx wc ((gr2_1, .cells (rc lmgr2_1 ++ [])) :: (g7, .cells [.int .i64 (-12), .int .i64 (-8), .int .i64 30, .int .i64 32, .int .i64 40, .int .i64 41, .int .i64 3, .int .i64 4, .int .i64 2, .int .i64 3, .int .i64 1, .int .i64 2, .int .i64 1, .int .i64 1, .int .i64 20, .slice (some ⟨gu7, 0, none⟩) 2 2, .int .i64 5, .int .i64 1]) :: (g6, .cells [.int .i64 (-12), .int .i64 (-8), .int .i64 30, .int .i64 32, .int .i64 40, .int .i64 41, .int .i64 3, .int .i64 4, .int .i64 2, .int .i64 3, .int .i64 1, .int .i64 2, .int .i64 1, .int .i64 1, .int .i64 20, .slice Aw 2 2, .int .i64 5, .int .i64 1]) :: (g5, .cells [.int .i64 (-12), .int .i64 (-8), .int .i64 30, .int .i64 32, .int .i64 40, .int .i64 41, .int .i64 3, .int .i64 4, .int .i64 2, .int .i64 3, .int .i64 1, .int .i64 2, .int .i64 1, .int .i64 1, .int .i64 20, .slice (some ⟨gu5, 0, none⟩) 2 2, .int .i64 5, .int .i64 1]) :: (g4, .cells [.int .i64 (-12), .int .i64 (-8), .int .i64 30, .int .i64 32, .int .i64 40, .int .i64 41, .int .i64 3, .int .i64 4, .int .i64 2, .int .i64 3, .int .i64 1, .int .i64 2, .int .i64 1, .int .i64 1, .int .i64 20, .slice (some ⟨gu4, 0, none⟩) 2 2, .int .i64 5, .int .i64 1]) :: (g3, .cells [.int .i64 (-12), .int .i64 (-8), .int .i64 30, .int .i64 32, .int .i64 40, .int .i64 41, .int .i64 3, .int .i64 4, .int .i64 2, .int .i64 3, .int .i64 1, .int .i64 2, .int .i64 1, .int .i64 1, .int .i64 20, .slice (some ⟨gu3, 0, none⟩) 2 2, .int .i64 5, .int .i64 1]) :: (g2, .cells [.int .i64 (-12), .int .i64 (-8), .int .i64 30, .int .i64 32, .int .i64 40, .int .i64 41, .int .i64 3, .int .i64 4, .int .i64 2, .int .i64 3, .int .i64 1, .int .i64 2, .int .i64 1, .int .i64 1, .int .i64 101, .slice (some ⟨gu2, 0, none⟩) 2 2, .int .i64 5, .int .i64 1]) :: (g1, .cells [.int .i64 (-12), .int .i64 (-8), .int .i64 32, .int .i64 30, .int .i64 40, .int .i64 41, .int .i64 3, .int .i64 4, .int .i64 2, .int .i64 3, .int .i64 1, .int .i64 2, .int .i64 1, .int .i64 1, .int .i64 20, .slice (some ⟨gu1, 0, none⟩) 2 2, .int .i64 5, .int .i64 1]) :: (gu7, .cells [.int .i64 (-2), .int .i64 1, .int .i64 0, .int .i64 3]) :: (gu5, .cells [.int .i64 (-2), .int .i64 1, .int .i64 0, .int .i64 3]) :: (gu4, .cells [.int .i64 (-2), .int .i64 1, .int .i64 0, .int .i64 3]) :: (gu3, .cells [.int .i64 (-2), .int .i64 1, .int .i64 0, .int .i64 3]) :: (gu2, .cells [.int .i64 (-2), .int .i64 1, .int .i64 0, .int .i64 3]) :: (gu1, .cells [.int .i64 (-2), .int .i64 1, .int .i64 0, .int .i64 3]) :: Iw)) (Zpb 17 255) 9 ?_ ?_
 ·clear T M
  rintro ac wc ⟨lmgr2_1, hlmgr2_1, llmgr2_1, gr2_1, T, M⟩
  refine gq (v := (.pointer (some ⟨g3, 15, none⟩))) T 8 511 rfl (fun _ _ _ _ _ => (Zrf (off := 15) rfl (T.e 10 rfl) (fun _ _ _ => by kernel_rfl))) ?_; clear T ac; intro ac T
  refine gw 9 1023 ?_; intro K hK
  refine Zos M T rfl rfl (T.e 0 rfl) (T.e 1 rfl) rfl (.tail (.tail (.tail (.tail (.tail .head))))) rfl (by simp) rfl (by kernel_rfl) ?_; clear M T; intro wc ac M T
  refine Zso hK _ _ (MA.mk (fun _ => M.mask [false, true, true, false, false, false, false, false, true, true, true, true, true, true] rfl) (MA.mk (fun _ => M.mask [false, true, true, true, false, false, false, false, true, true, true, true, true, true] rfl) (MA.mk (fun _ => M.mask [false, true, true, true, true, false, false, false, true, true, true, true, true, true] rfl) (MA.mk (fun h => (no_of (by kernel_rfl) h).elim) (MA.mk (fun h => (no_of (by kernel_rfl) h).elim) (MA.mk (fun h => (no_of (by kernel_rfl) h).elim) (M.mask [false, false, true, false, false, false, false, false, true, true, true, true, true, true] rfl))))))) ?_; clear hK K
  refine gq (v := (.pointer (some ⟨g4, 17, none⟩))) T 10 2047 rfl (fun _ _ _ _ _ => (Zrf (off := 17) rfl (T.e 10 rfl) (fun _ _ _ => by kernel_rfl))) ?_; clear T ac; intro ac T
  refine gw 11 4095 ?_; intro K hK
  refine Zos M T rfl rfl (T.e 0 rfl) evc rfl (.tail (.tail (.tail (.tail .head)))) rfl (by simp) rfl (by kernel_rfl) ?_; clear M T; intro wc ac M T
  refine Zso hK _ _ (MA.mk (fun _ => M.mask [false, true, true, false, false, false, false, false, true, true, true, true, true, true] rfl) (MA.mk (fun _ => M.mask [false, true, true, true, false, false, false, false, true, true, true, true, true, true] rfl) (MA.mk (fun h => (no_of (by kernel_rfl) h).elim) (MA.mk (fun h => (no_of (by kernel_rfl) h).elim) (MA.mk (fun h => (no_of (by kernel_rfl) h).elim) (MA.mk (fun h => (no_of (by kernel_rfl) h).elim) (M.mask [false, false, true, false, false, false, false, false, true, true, true, true, true, true] rfl))))))) ?_; clear hK K
  refine gq (v := (.pointer (some ⟨g5, 15, none⟩))) T 12 8191 rfl (fun _ _ _ _ _ => (Zrf (off := 15) rfl (T.e 10 rfl) (fun _ _ _ => by kernel_rfl))) ?_; clear T ac; intro ac T
  refine gw 13 16383 ?_; intro K hK
  refine Zos M T rfl rfl (T.e 0 rfl) evc rfl (.tail (.tail (.tail .head))) rfl (by simp) rfl (by kernel_rfl) ?_; clear M T; intro wc ac M T
  refine Zso hK _ _ (MA.mk (fun _ => M.mask [false, true, true, false, false, false, false, false, true, true, true, true, true, true] rfl) (MA.mk (fun h => (no_of (by kernel_rfl) h).elim) (MA.mk (fun h => (no_of (by kernel_rfl) h).elim) (MA.mk (fun h => (no_of (by kernel_rfl) h).elim) (MA.mk (fun h => (no_of (by kernel_rfl) h).elim) (MA.mk (fun h => (no_of (by kernel_rfl) h).elim) (M.mask [false, false, true, false, false, false, false, false, true, true, true, true, true, true] rfl))))))) ?_; clear hK K
  refine gq (v := (.pointer (some ⟨g7, 6, none⟩))) T 14 32767 rfl (fun _ _ _ _ _ => (Zrf (off := 6) rfl (T.e 9 rfl) (fun _ _ _ => by kernel_rfl))) ?_; clear T ac; intro ac T
  refine gq (v := (.pointer (some ⟨g7, 14, none⟩))) T 15 65535 rfl (fun _ _ _ _ _ => (Zrf (off := 8) rfl (T.e 0 rfl) (fun _ _ _ => by kernel_rfl))) ?_; clear T ac; intro ac T
  refine gw 16 131071 ?_; intro K hK
  refine Zos M T rfl rfl (T.e 0 rfl) evc rfl (.tail .head) rfl (by simp) rfl (by kernel_rfl) ?_; clear M T; intro wc ac M T
  refine Zso hK _ _ (MA.mk (fun h => (no_of (by kernel_rfl) h).elim) (MA.mk (fun h => (no_of (by kernel_rfl) h).elim) (MA.mk (fun h => (no_of (by kernel_rfl) h).elim) (MA.mk (fun h => (no_of (by kernel_rfl) h).elim) (MA.mk (fun h => (no_of (by kernel_rfl) h).elim) (MA.mk (fun h => (no_of (by kernel_rfl) h).elim) (M.mask [false, false, true, false, false, false, false, false, true, true, true, true, true, true] rfl))))))) ?_; clear hK K
  refine Zgd (by kernel_rfl) ?_
  replace T := T.pick [11, 12, 13, 14, 15, 16, 17] rfl
  replace M := M.mask [true, true, true, true, true, true, true, true, true, false, true, false, true, true] rfl
  refine Zns ?_
  refine Zgs M (M.perm [0, 1, 3, 4, 5, 6, 7, 8, 9, 10, 11] rfl rfl) 7 (by kernel_rfl) rfl (by kernel_rfl) ?_
  clear M; intro wc M
  refine g_addG 6 (M.perm [0, 1, 2, 3, 4, 5, 6, 7, 8, 9, 10, 11] rfl rfl) ?_
  refine gq (v := (.pointer (some ⟨g6, 15, none⟩))) T 0 1 rfl (fun _ _ _ _ _ => (Zrf (off := 15) rfl (T.e 1 rfl) (fun _ _ _ => by kernel_rfl))) ?_; clear T ac; intro ac T
  refine gq T 1 3 rfl (fun B w' hD hl hS => (Zro (Mem.nth (show Mem w noEx w' _ from ((MA.lft hS) (hD.wait (i := 1) (m := 6) (by kernel_rfl) hl))) 2 rfl) rfl (T.e 0 rfl) rfl)) ?_; clear T ac; intro ac T
  refine gw 2 7 ?_; intro K hK
  refine Zoc (first := []) (cap := []) T rfl rfl rfl rfl evf (.cons evc (.cons evc .nil)) Tryd.func6 rfl rfl ?_
  refine Calls.mono (to_any (-6) 5 _) ?_
  clear T; rintro e wc ⟨rfl, hb⟩ ac T
  replace M := M.call hb; clear hb
  refine Zso hK _ _ (MA.mk (fun _ => M.perm [0, 1, 2, 3, 4, 5, 6, 7, 8, 9, 10, 11] rfl rfl) (M.perm [0, 1, 3, 4, 5, 6, 7, 8, 9, 10, 11] rfl rfl)) ?_; clear hK K
  refine gw 3 15 ?_; intro K hK
  refine ow_bs (e := 23) [.int .i64 (-6), .int .i64 5] M T rfl rfl rfl rfl (.cons (T.e 0 rfl) .nil) (fun _ => by kernel_rfl) ?_; clear M T; intro g8 wc ac M T
  refine Zso hK _ _ (MA.mk (fun _ => M.perm [1, 2, 3, 4, 5, 6, 7, 8, 9, 10, 11, 12] rfl rfl) (M.perm [1, 2, 4, 5, 6, 7, 8, 9, 10, 11, 12] rfl rfl)) ?_; clear hK K
  refine gw 4 31 ?_; intro K hK
  refine ow_app ([(g8, .cells [.int .i64 (-6), .int .i64 5]), (gr2_1, .cells (rc lmgr2_1 ++ [])), (g7, .cells [.int .i64 (-12), .int .i64 (-8), .int .i64 30, .int .i64 32, .int .i64 40, .int .i64 41, .int .i64 3, .int .i64 4, .int .i64 2, .int .i64 3, .int .i64 1, .int .i64 2, .int .i64 1, .int .i64 1, .int .i64 33, .slice (some ⟨gu7, 0, none⟩) 2 2, .int .i64 5, .int .i64 1]), (g6, .cells [.int .i64 (-12), .int .i64 (-8), .int .i64 30, .int .i64 32, .int .i64 40, .int .i64 41, .int .i64 3, .int .i64 4, .int .i64 2, .int .i64 3, .int .i64 1, .int .i64 2, .int .i64 1, .int .i64 1, .int .i64 20, .slice Aw 2 2, .int .i64 5, .int .i64 1]), (g5, .cells [.int .i64 (-12), .int .i64 (-8), .int .i64 30, .int .i64 32, .int .i64 40, .int .i64 41, .int .i64 3, .int .i64 4, .int .i64 2, .int .i64 3, .int .i64 1, .int .i64 2, .int .i64 1, .int .i64 1, .int .i64 20, .slice none 0 0, .int .i64 5, .int .i64 1]), (g4, .cells [.int .i64 (-12), .int .i64 (-8), .int .i64 30, .int .i64 32, .int .i64 40, .int .i64 41, .int .i64 3, .int .i64 4, .int .i64 2, .int .i64 3, .int .i64 1, .int .i64 2, .int .i64 1, .int .i64 1, .int .i64 20, .slice (some ⟨gu4, 0, none⟩) 2 2, .int .i64 5, .int .i64 7]), (g3, .cells [.int .i64 (-12), .int .i64 (-8), .int .i64 30, .int .i64 32, .int .i64 40, .int .i64 41, .int .i64 3, .int .i64 4, .int .i64 2, .int .i64 3, .int .i64 1, .int .i64 2, .int .i64 1, .int .i64 1, .int .i64 20, .slice (some ⟨gr2_1, 0, none⟩) 5 5, .int .i64 5, .int .i64 1]), (g2, .cells [.int .i64 (-12), .int .i64 (-8), .int .i64 30, .int .i64 32, .int .i64 40, .int .i64 41, .int .i64 3, .int .i64 4, .int .i64 2, .int .i64 3, .int .i64 1, .int .i64 2, .int .i64 1, .int .i64 1, .int .i64 101, .slice (some ⟨gu2, 0, none⟩) 2 2, .int .i64 5, .int .i64 1]), (g1, .cells [.int .i64 (-12), .int .i64 (-8), .int .i64 32, .int .i64 30, .int .i64 40, .int .i64 41, .int .i64 3, .int .i64 4, .int .i64 2, .int .i64 3, .int .i64 1, .int .i64 2, .int .i64 1, .int .i64 1, .int .i64 20, .slice (some ⟨gu1, 0, none⟩) 2 2, .int .i64 5, .int .i64 1]), (gu7, .cells [.int .i64 (-2), .int .i64 1, .int .i64 0, .int .i64 3]), (gu4, .cells [.int .i64 (-2), .int .i64 1, .int .i64 0, .int .i64 3]), (gu2, .cells [.int .i64 (-2), .int .i64 1, .int .i64 0, .int .i64 3]), (gu1, .cells [.int .i64 (-2), .int .i64 1, .int .i64 0, .int .i64 3])]) Tryd.info23 hslw M (by first | rfl | simp) T rfl rfl rfl rfl Tryd.underlying28 rfl rfl rfl (by omega) (T.e 2 rfl) (T.e 0 rfl) (Zne (i := 0) rfl) rfl rfl ?_; clear M T; intro ga1 cga1 wc ac M T
  refine Zso hK _ _ (MA.mk (fun _ => M.mask [false, false, true, true, true, true, true, true, true, true, true, true, true, true] rfl) (M.mask [false, false, true, true, false, true, true, true, true, true, true, true, true, true] rfl)) ?_; clear hK K
  refine gq (v := (.pointer (some ⟨g6, 15, none⟩))) T 5 63 rfl (fun _ _ _ _ _ => (Zrf (off := 15) rfl (T.e 6 rfl) (fun _ _ _ => by kernel_rfl))) ?_; clear T ac; intro ac T
  refine gw 6 127 ?_; intro K hK
  refine Zos M T rfl rfl (T.e 0 rfl) (T.e 1 rfl) rfl (.tail (.tail (.tail (.tail .head)))) rfl (by simp) rfl (by kernel_rfl) ?_; clear M T; intro wc ac M T
  refine Zso hK _ _ (MA.mk (fun h => (no_of (by kernel_rfl) h).elim) (M.mask [false, false, true, true, false, true, true, true, true, true, true, true, true, true] rfl)) ?_; clear hK K
  refine Zgd (by kernel_rfl) ?_
  replace T := T.pick [6, 7, 8, 9, 10, 11, 12] rfl
  replace M := M.mask [true, false, true, true, true, true, true, true, true, true, true, true, true, true] rfl
  refine Zns ?_
  refine Zsr ?_
  refine Zl2 ?_
  refine Zoc (first := []) (cap := []) T rfl rfl rfl rfl evf .nil Tryd.func7 rfl rfl ?_
  refine Calls.mono (tuned_any _) ?_
  clear T; rintro e wc ⟨rfl, hb⟩ ac T
  replace M := M.call hb; clear hb
  refine Zg2 (v1 := (.bool false)) T (Zq (Zrq (rn_not rfl (T.e 0 rfl)) (by simp))) rfl (Zm 0 rfl rfl) rfl ?_; clear T ac; intro ac T
  refine l_w (Zwy rfl rfl (T.e 0 rfl) rfl) ?_; intro K hK
  refine Zoc (first := []) (cap := []) T rfl rfl rfl rfl evf .nil Tryd.func5 rfl rfl ?_
  refine Calls.mono (flat_any _) ?_
  clear T; rintro e wc ⟨gu10, rfl, N⟩ ac T
  replace M := M.join N; clear N
  replace M := M.mask [true, true, true, true, true, true, true, true, true, true, true, true, true, true] rfl
  refine Zso hK _ _ ?_; clear hK K
  refine l_w (Zwy rfl rfl (T.e 1 rfl) rfl) ?_; intro K hK
  refine Zoc (first := []) (cap := []) T rfl rfl rfl rfl evf (.cons (T.e 0 rfl) .nil) Tryd.func8 rfl rfl ?_
  refine Calls.mono (kex0 (some ⟨gu10, 0, none⟩) 2 _ (M.rdOwn (Zne (i := 0) rfl) rfl rfl)) ?_
  clear T; rintro e wc ⟨rfl, hb⟩ ac T
  replace M := M.call hb; clear hb
  refine Zso hK _ _ ?_; clear hK K
  refine Zg4 (v1 := (.bool false)) T (Zw (Zwy rfl rfl (T.e 2 rfl) rfl) (Zrq (rn_neq rfl (T.e 0 rfl) evc) (by simp))) rfl (fun _ T => Zq (Zr0 rfl (T.e 3 rfl) rfl (T.e 0 rfl))) rfl (Zm 0 rfl rfl) rfl (fun _ T => Zw (Zwy rfl rfl (T.e 0 rfl) rfl) (Zrr (Mem.nth M 9 rfl) rfl (T.e 14 rfl) rfl)) rfl ?_; clear T ac; intro ac T
  refine l_w (Zwy rfl rfl (T.e 1 rfl) rfl) ?_; intro K hK
  refine Zoc (first := []) (cap := []) T rfl rfl rfl rfl evf (.cons (T.e 0 rfl) .nil) Tryd.func8 rfl rfl ?_
  refine Calls.mono (kex1 (some ⟨gu1, 0, none⟩) 2 _ (M.rdOwn (Zne (i := 13) rfl) rfl rfl)) ?_
  clear T; rintro e wc ⟨rfl, hb⟩ ac T
  replace M := M.call hb; clear hb
  refine Zso hK _ _ ?_; clear hK K
  refine Zg4 (v1 := (.bool false)) T (Zw (Zwy rfl rfl (T.e 2 rfl) rfl) (Zrq (rn_neq rfl (T.e 0 rfl) evc) (by simp))) rfl (fun _ T => Zq (Zr0 rfl (T.e 3 rfl) rfl (T.e 0 rfl))) rfl (Zm 0 rfl rfl) rfl (fun _ T => Zw (Zwy rfl rfl (T.e 0 rfl) rfl) (Zrr (Mem.nth M 8 rfl) rfl (T.e 18 rfl) rfl)) rfl ?_; clear T ac; intro ac T
  refine l_w (Zwy rfl rfl (T.e 1 rfl) rfl) ?_; intro K hK
  refine Zoc (first := []) (cap := []) T rfl rfl rfl rfl evf (.cons (T.e 0 rfl) .nil) Tryd.func8 rfl rfl ?_
  refine Calls.mono (kex2 (some ⟨gu2, 0, none⟩) 2 _ (M.rdOwn (Zne (i := 12) rfl) rfl rfl)) ?_
  clear T; rintro e wc ⟨rfl, hb⟩ ac T
  replace M := M.call hb; clear hb
  refine Zso hK _ _ ?_; clear hK K
  refine Zg4 (v1 := (.bool false)) T (Zw (Zwy rfl rfl (T.e 2 rfl) rfl) (Zrq (rn_neq rfl (T.e 0 rfl) evc) (by simp))) rfl (fun _ T => Zq (Zr0 rfl (T.e 3 rfl) rfl (T.e 0 rfl))) rfl (Zm 0 rfl rfl) rfl (fun _ T => Zw (Zwy rfl rfl (T.e 0 rfl) rfl) (Zrr (Mem.nth M 7 rfl) rfl (T.e 22 rfl) rfl)) rfl ?_; clear T ac; intro ac T
  refine l_w (Zwy rfl rfl (T.e 1 rfl) rfl) ?_; intro K hK
  refine Zoc (first := []) (cap := []) T rfl rfl rfl rfl evf (.cons (T.e 0 rfl) .nil) Tryd.func8 rfl rfl ?_
  refine Calls.mono (kex3 (some ⟨gr2_1, 0, none⟩) 5 _ (by have h9 := (Sp.pre (w := w) (ex := noEx) (size := 2) (n := lmgr2_1.length) (g := gr2_1) (xs := rc lmgr2_1) (ys := []) (by simp [rc_length])).rd M (.cons _ (.cons _ (List.Sublist.cons_cons _ (Zz9 _)))); rw [hlmgr2_1] at h9; exact h9)) ?_
  clear T; rintro e wc ⟨rfl, hb⟩ ac T
  replace M := M.call hb; clear hb
  refine Zso hK _ _ ?_; clear hK K
  refine Zg4 (v1 := (.bool false)) T (Zw (Zwy rfl rfl (T.e 2 rfl) rfl) (Zrq (rn_neq rfl (T.e 0 rfl) evc) (by simp))) rfl (fun _ T => Zq (Zr0 rfl (T.e 3 rfl) rfl (T.e 0 rfl))) rfl (Zm 0 rfl rfl) rfl (fun _ T => Zw (Zwy rfl rfl (T.e 0 rfl) rfl) (Zrr (Mem.nth M 6 rfl) rfl (T.e 26 rfl) rfl)) rfl ?_; clear T ac; intro ac T
  refine l_w (Zwy rfl rfl (T.e 1 rfl) rfl) ?_; intro K hK
  refine Zoc (first := []) (cap := []) T rfl rfl rfl rfl evf (.cons (T.e 0 rfl) .nil) Tryd.func8 rfl rfl ?_
  refine Calls.mono (kex4 (some ⟨gu4, 0, none⟩) 2 _ (M.rdOwn (Zne (i := 11) rfl) rfl rfl)) ?_
  clear T; rintro e wc ⟨rfl, hb⟩ ac T
  replace M := M.call hb; clear hb
  refine Zso hK _ _ ?_; clear hK K
  refine Zg2 (v1 := (.bool false)) T (Zw (Zwy rfl rfl (T.e 2 rfl) rfl) (Zrq (rn_neq rfl (T.e 0 rfl) evc) (by simp))) rfl (fun _ T => Zq (Zr0 rfl (T.e 3 rfl) rfl (T.e 0 rfl))) rfl ?_; clear T ac; intro ac T
  refine wpList_nil ?_
  replace T := T.pick [0, 27, 28, 29] rfl
  replace M := M.mask [false, true, true, true, true, true, false, false, false, false, true, false, false, false] rfl
  refine nm_then ?_
  refine wp_cond_false (T.e 0 rfl) ?_
  refine Zsk ?_
  refine Zsr ?_
  refine lq T (Zrr (Mem.nth M 4 rfl) rfl (T.e 3 rfl) rfl) ?_; clear T ac; intro ac T
  refine Zl2 ?_
  refine Zoc (first := []) (cap := []) T rfl rfl rfl rfl evf (.cons (T.e 0 rfl) .nil) Tryd.func9 rfl rfl ?_
  refine Calls.mono (kex5 (none) 0 _ (Rd.none0 M)) ?_
  clear T; rintro e wc ⟨rfl, hb⟩ ac T
  replace M := M.call hb; clear hb
  refine Zg3 T (Zq (Zrm rfl (T.e 0 rfl))) rfl (Ze 0 rfl rfl rfl) rfl (Ze 1 rfl rfl rfl) rfl ?_; clear T ac; intro ac T
  refine Zl2 ?_
  refine Zoa M T rfl rfl rfl rfl ?_; clear M T; intro g9 wc ac M T
  refine Zl2 ?_
  refine Zos M T rfl rfl (T.e 0 rfl) (T.e 2 rfl) rfl .head rfl (by simp) rfl (by kernel_rfl) ?_; clear M T; intro wc ac M T
  refine lq T (Zra rfl (T.e 1 rfl)) ?_; clear T ac; intro ac T
  refine wpList_nil ?_
  replace T := T.pick [0, 1, 8, 9] rfl
  replace M := M.mask [true, true, true, true, true, false, true] rfl
  refine nm_then ?_
  refine Zsr ?_
  refine lq T (Zrr (Mem.nth M 4 rfl) rfl (T.e 3 rfl) rfl) ?_; clear T ac; intro ac T
  refine Zl2 ?_
  refine Zoc (first := []) (cap := []) T rfl rfl rfl rfl evf (.cons (T.e 0 rfl) .nil) Tryd.func9 rfl rfl ?_
  refine Calls.mono (kex6 (some ⟨ga1, 0, none⟩) cga1 _ (M.rdRow (Zne (i := 1) rfl))) ?_
  clear T; rintro e wc ⟨rfl, hb⟩ ac T
  replace M := M.call hb; clear hb
  refine Zg3 T (Zq (Zrm rfl (T.e 0 rfl))) rfl (Ze 0 rfl rfl rfl) rfl (Ze 1 rfl rfl rfl) rfl ?_; clear T ac; intro ac T
  refine Zl2 ?_
  refine Zoa M T rfl rfl rfl rfl ?_; clear M T; intro g10 wc ac M T
  refine Zl2 ?_
  refine Zos M T rfl rfl (T.e 0 rfl) (T.e 2 rfl) rfl .head rfl (by simp) rfl (by kernel_rfl) ?_; clear M T; intro wc ac M T
  refine lq T (Zra rfl (T.e 1 rfl)) ?_; clear T ac; intro ac T
  refine wpList_nil ?_
  replace T := T.pick [0, 7, 8, 9] rfl
  replace M := M.mask [false, true, true, true, true, false, true] rfl
  refine nm_then ?_
  refine Zsr ?_
  refine Zl2 ?_
  refine Zoc (first := []) (cap := []) T rfl rfl rfl rfl evf .nil Tryd.func5 rfl rfl ?_
  refine Calls.mono (flat_any _) ?_
  clear T; rintro e wc ⟨gu18, rfl, N⟩ ac T
  replace M := M.join N; clear N
  replace M := M.mask [true, true, true, true, true, true] rfl
  refine Zl2 ?_
  refine Zoc (first := []) (cap := []) T rfl rfl rfl rfl evf (.cons (T.e 0 rfl) (.cons evc .nil)) Tryd.func10 rfl rfl ?_
  refine Calls.mono (kex7 (some ⟨gu18, 0, none⟩) 2 _ (M.rdOwn (Zne (i := 0) rfl) rfl rfl)) ?_
  clear T; rintro e wc ⟨rfl, hb⟩ ac T
  replace M := M.call hb; clear hb
  refine Zg3 T (Zq (Zrm rfl (T.e 0 rfl))) rfl (Ze 0 rfl rfl rfl) rfl (Ze 1 rfl rfl rfl) rfl ?_; clear T ac; intro ac T
  refine Zl2 ?_
  refine Zoa M T rfl rfl rfl rfl ?_; clear M T; intro g11 wc ac M T
  refine Zl2 ?_
  refine Zos M T rfl rfl (T.e 0 rfl) (T.e 2 rfl) rfl .head rfl (by simp) rfl (by kernel_rfl) ?_; clear M T; intro wc ac M T
  refine lq T (Zra rfl (T.e 1 rfl)) ?_; clear T ac; intro ac T
  refine wpList_nil ?_
  replace T := T.pick [0, 1, 7, 8, 9, 10] rfl
  replace M := M.mask [true, false, true, true, true, true, true] rfl
  refine nm_then ?_
  refine Zsr ?_
  refine Zl2 ?_
  refine Zoc (first := []) (cap := []) T rfl rfl rfl rfl evf .nil Tryd.func5 rfl rfl ?_
  refine Calls.mono (flat_any _) ?_
  clear T; rintro e wc ⟨gu20, rfl, N⟩ ac T
  replace M := M.join N; clear N
  replace M := M.mask [true, true, true, true, true, true, true] rfl
  refine Zl2 ?_
  refine Zoc (first := []) (cap := []) T rfl rfl rfl rfl evf (.cons (T.e 0 rfl) (.cons evc .nil)) Tryd.func10 rfl rfl ?_
  refine Calls.mono (kex8 (some ⟨gu20, 0, none⟩) 2 _ (M.rdOwn (Zne (i := 0) rfl) rfl rfl)) ?_
  clear T; rintro e wc ⟨rfl, hb⟩ ac T
  replace M := M.call hb; clear hb
  refine Zg3 T (Zq (Zrm rfl (T.e 0 rfl))) rfl (Ze 0 rfl rfl rfl) rfl (Ze 1 rfl rfl rfl) rfl ?_; clear T ac; intro ac T
  refine Zl2 ?_
  refine Zoa M T rfl rfl rfl rfl ?_; clear M T; intro g12 wc ac M T
  refine Zl2 ?_
  refine Zos M T rfl rfl (T.e 0 rfl) (T.e 2 rfl) rfl .head rfl (by simp) rfl (by kernel_rfl) ?_; clear M T; intro wc ac M T
  refine lq T (Zra rfl (T.e 1 rfl)) ?_; clear T ac; intro ac T
  refine wpList_nil ?_
  replace T := T.pick [0, 1, 7, 8, 9, 10, 11, 12] rfl
  replace M := M.mask [true, false, true, true, true, true, true, true] rfl
  refine nm_then ?_
  refine Zsr ?_
  refine Zl2 ?_
  refine Zoc (first := []) (cap := []) T rfl rfl rfl rfl evf .nil Tryd.func5 rfl rfl ?_
  refine Calls.mono (flat_any _) ?_
  clear T; rintro e wc ⟨gu22, rfl, N⟩ ac T
  replace M := M.join N; clear N
  replace M := M.mask [true, true, true, true, true, true, true, true] rfl
  refine Zl2 ?_
  refine Zoc (first := []) (cap := []) T rfl rfl rfl rfl evf (.cons (T.e 0 rfl) (.cons evc .nil)) Tryd.func10 rfl rfl ?_
  refine Calls.mono (kex9 (some ⟨gu22, 0, none⟩) 2 _ (M.rdOwn (Zne (i := 0) rfl) rfl rfl)) ?_
  clear T; rintro e wc ⟨rfl, hb⟩ ac T
  replace M := M.call hb; clear hb
  refine Zg3 T (Zq (Zrm rfl (T.e 0 rfl))) rfl (Ze 0 rfl rfl rfl) rfl (Ze 1 rfl rfl rfl) rfl ?_; clear T ac; intro ac T
  refine Zl2 ?_
  refine Zoa M T rfl rfl rfl rfl ?_; clear M T; intro g13 wc ac M T
  refine Zl2 ?_
  refine Zos M T rfl rfl (T.e 0 rfl) (T.e 2 rfl) rfl .head rfl (by simp) rfl (by kernel_rfl) ?_; clear M T; intro wc ac M T
  refine lq T (Zra rfl (T.e 1 rfl)) ?_; clear T ac; intro ac T
  refine wpList_nil ?_
  replace T := T.pick [0, 7, 8, 9, 10, 11, 12, 13, 14] rfl
  replace M := M.mask [false, false, true, true, true, true, true, true, true] rfl
  refine Zns ?_
  refine wp_seq ?_
  refine Zgs M (M.mask [true, true, true, true, true, true, true] rfl) 33 (by kernel_rfl) rfl (by kernel_rfl) ?_
  clear M; intro wc M
  refine gq T 0 1 rfl (fun _ _ _ _ _ => (Zrm rfl (T.e 6 rfl))) ?_; clear T ac; intro ac T
  refine gq (v := (.bool false)) T 1 3 rfl (fun _ _ _ _ _ => (Zrq (rn_neq rfl (T.e 0 rfl) evc) (by simp))) ?_; clear T ac; intro ac T
  refine gq T 2 7 rfl (fun _ _ _ _ _ => (Zrm rfl (T.e 0 rfl))) ?_; clear T ac; intro ac T
  refine g_q (T := T) (i := 3) rfl (by kernel_rfl) (by kernel_rfl : (Zpb 33 7).setIfInBounds 3 true = Zpb 33 15) si_U (fun _ _ _ h => h) (Zwy rfl rfl (T.e 0 rfl) rfl) rfl rfl rfl (fun _ _ _ _ _ => (Zrm rfl (T.e 8 rfl))) ?_; clear T ac; intro ac T
  refine g_q (v := (.bool false)) (T := T) (i := 4) rfl (by kernel_rfl) (by kernel_rfl : (Zpb 33 15).setIfInBounds 4 true = Zpb 33 31) si_U (fun _ _ _ h => h) (Zwy rfl rfl (T.e 1 rfl) rfl) rfl rfl rfl (fun _ _ _ _ _ => (Zrq (rn_neq rfl (T.e 0 rfl) evc) (by simp))) ?_; clear T ac; intro ac T
  refine gq T 5 63 rfl (fun _ _ _ _ _ => (Zr0 rfl (T.e 2 rfl) rfl (T.e 0 rfl))) ?_; clear T ac; intro ac T
  refine gq T 6 127 rfl (fun _ _ _ _ _ => (Zrm rfl (T.e 0 rfl))) ?_; clear T ac; intro ac T
  refine g_q (T := T) (i := 7) rfl (by kernel_rfl) (by kernel_rfl : (Zpb 33 127).setIfInBounds 7 true = Zpb 33 255) si_U (fun _ _ _ h => h) (Zwy rfl rfl (T.e 0 rfl) rfl) rfl rfl rfl (fun _ _ _ _ _ => (Zrm rfl (T.e 10 rfl))) ?_; clear T ac; intro ac T
  refine g_q (v := (.bool false)) (T := T) (i := 8) rfl (by kernel_rfl) (by kernel_rfl : (Zpb 33 255).setIfInBounds 8 true = Zpb 33 511) si_U (fun _ _ _ h => h) (Zwy rfl rfl (T.e 1 rfl) rfl) rfl rfl rfl (fun _ _ _ _ _ => (Zrq (rn_neq rfl (T.e 0 rfl) evc) (by simp))) ?_; clear T ac; intro ac T
  refine gq T 9 1023 rfl (fun _ _ _ _ _ => (Zr0 rfl (T.e 2 rfl) rfl (T.e 0 rfl))) ?_; clear T ac; intro ac T
  refine gq T 10 2047 rfl (fun _ _ _ _ _ => (Zrm rfl (T.e 0 rfl))) ?_; clear T ac; intro ac T
  refine g_q (T := T) (i := 11) rfl (by kernel_rfl) (by kernel_rfl : (Zpb 33 2047).setIfInBounds 11 true = Zpb 33 4095) si_U (fun _ _ _ h => h) (Zwy rfl rfl (T.e 0 rfl) rfl) rfl rfl rfl (fun _ _ _ _ _ => (Zrm rfl (T.e 12 rfl))) ?_; clear T ac; intro ac T
  refine g_q (v := (.bool false)) (T := T) (i := 12) rfl (by kernel_rfl) (by kernel_rfl : (Zpb 33 4095).setIfInBounds 12 true = Zpb 33 8191) si_U (fun _ _ _ h => h) (Zwy rfl rfl (T.e 1 rfl) rfl) rfl rfl rfl (fun _ _ _ _ _ => (Zrq (rn_neq rfl (T.e 0 rfl) evc) (by simp))) ?_; clear T ac; intro ac T
  refine gq T 13 16383 rfl (fun _ _ _ _ _ => (Zr0 rfl (T.e 2 rfl) rfl (T.e 0 rfl))) ?_; clear T ac; intro ac T
  refine gq T 14 32767 rfl (fun _ _ _ _ _ => (Zrm rfl (T.e 0 rfl))) ?_; clear T ac; intro ac T
  refine g_q (T := T) (i := 15) rfl (by kernel_rfl) (by kernel_rfl : (Zpb 33 32767).setIfInBounds 15 true = Zpb 33 65535) si_U (fun _ _ _ h => h) (Zwy rfl rfl (T.e 0 rfl) rfl) rfl rfl rfl (fun _ _ _ _ _ => (Zrm rfl (T.e 15 rfl))) ?_; clear T ac; intro ac T
  refine g_q (v := (.bool false)) (T := T) (i := 16) rfl (by kernel_rfl) (by kernel_rfl : (Zpb 33 65535).setIfInBounds 16 true = Zpb 33 131071) si_U (fun _ _ _ h => h) (Zwy rfl rfl (T.e 1 rfl) rfl) rfl rfl rfl (fun _ _ _ _ _ => (Zrq (rn_neq rfl (T.e 0 rfl) evc) (by simp))) ?_; clear T ac; intro ac T
  refine gq T 17 262143 rfl (fun _ _ _ _ _ => (Zr0 rfl (T.e 2 rfl) rfl (T.e 0 rfl))) ?_; clear T ac; intro ac T
  refine gq T 18 524287 rfl (fun _ _ _ _ _ => (Zrm rfl (T.e 0 rfl))) ?_; clear T ac; intro ac T
  refine g_q (T := T) (i := 19) rfl (by kernel_rfl) (by kernel_rfl : (Zpb 33 524287).setIfInBounds 19 true = Zpb 33 1048575) si_U (fun _ _ _ h => h) (Zwy rfl rfl (T.e 0 rfl) rfl) rfl rfl rfl (fun B w' hD hl hS => (Zrr (Mem.nth (show Mem w noEx w' _ from hS) 2 rfl) rfl (T.e 26 rfl) rfl)) ?_; clear T ac; intro ac T
  refine g_w (i := 20) (by kernel_rfl) rfl (by kernel_rfl : (Zpb 33 1048575).setIfInBounds 20 true = Zpb 33 2097151) (Zwy rfl rfl (T.e 1 rfl) rfl) ?_; intro K hK
  refine Zoc (first := []) (cap := []) T rfl rfl rfl rfl evf (.cons evc (.cons evc .nil)) Tryd.func6 rfl rfl ?_
  refine Calls.mono (to_any (-5) 5 _) ?_
  clear T; rintro e wc ⟨rfl, hb⟩ ac T
  replace M := M.call hb; clear hb
  refine Zso hK _ _ (M.mask [true, true, true, true, true, true, true] rfl) ?_; clear hK K
  refine g_addU M ?_
  refine g_q (v := (.bool false)) (T := T) (i := 21) rfl (by kernel_rfl) (by kernel_rfl : (Zpb 33 2097151).setIfInBounds 21 true = Zpb 33 4194303) (si_and si_U si_U) (fun _ _ _ h => h) (Zwy rfl rfl (T.e 2 rfl) rfl) rfl rfl rfl (fun _ _ _ _ _ => (Zrq (rn_bin rfl (T.e 1 rfl) (T.e 0 rfl) neT23) (by simp))) ?_; clear T ac; intro ac T
  refine gq T 22 8388607 rfl (fun _ _ _ _ _ => (Zr0 rfl (T.e 3 rfl) rfl (T.e 0 rfl))) ?_; clear T ac; intro ac T
  refine gq T 23 16777215 rfl (fun _ _ _ _ _ => (Zrm rfl (T.e 0 rfl))) ?_; clear T ac; intro ac T
  refine g_q (T := T) (i := 24) rfl (by kernel_rfl) (by kernel_rfl : (Zpb 33 16777215).setIfInBounds 24 true = Zpb 33 33554431) (si_and si_U si_U) (fun _ _ _ h => h) (Zwy rfl rfl (T.e 0 rfl) rfl) rfl rfl rfl (fun B w' hD hl hS => (Zrr (Mem.nth (show Mem w noEx w' _ from (MA.lft hS)) 1 rfl) rfl (T.e 28 rfl) rfl)) ?_; clear T ac; intro ac T
  refine g_w (i := 25) (by kernel_rfl) rfl (by kernel_rfl : (Zpb 33 33554431).setIfInBounds 25 true = Zpb 33 67108863) (Zwy rfl rfl (T.e 1 rfl) rfl) ?_; intro K hK
  refine Zoc (first := []) (cap := []) T rfl rfl rfl rfl evf (.cons evc (.cons evc .nil)) Tryd.func6 rfl rfl ?_
  refine Calls.mono (to_any (-11) (-9) _) ?_
  clear T; rintro e wc ⟨rfl, hb⟩ ac T
  replace M := M.call hb; clear hb
  refine Zso hK _ _ (MA.mk (M.mask [true, true, true, true, true, true, true] rfl) (M.mask [true, true, true, true, true, true, true] rfl)) ?_; clear hK K
  refine g_addU M ?_
  refine g_q (v := (.bool false)) (T := T) (i := 26) rfl (by kernel_rfl) (by kernel_rfl : (Zpb 33 67108863).setIfInBounds 26 true = Zpb 33 134217727) (si_and si_U (si_and si_U si_U)) (fun _ _ _ h => h) (Zwy rfl rfl (T.e 2 rfl) rfl) rfl rfl rfl (fun _ _ _ _ _ => (Zrq (rn_bin rfl (T.e 1 rfl) (T.e 0 rfl) neT23) (by simp))) ?_; clear T ac; intro ac T
  refine gq T 27 268435455 rfl (fun _ _ _ _ _ => (Zr0 rfl (T.e 3 rfl) rfl (T.e 0 rfl))) ?_; clear T ac; intro ac T
  refine gq T 28 536870911 rfl (fun _ _ _ _ _ => (Zrm rfl (T.e 0 rfl))) ?_; clear T ac; intro ac T
  refine g_q (T := T) (i := 29) rfl (by kernel_rfl) (by kernel_rfl : (Zpb 33 536870911).setIfInBounds 29 true = Zpb 33 1073741823) (si_and si_U (si_and si_U si_U)) (fun _ _ _ h => h) (Zwy rfl rfl (T.e 0 rfl) rfl) rfl rfl rfl (fun B w' hD hl hS => (Zrr (Mem.nth (show Mem w noEx w' _ from (MA.lft hS)) 0 rfl) rfl (T.e 31 rfl) rfl)) ?_; clear T ac; intro ac T
  refine g_w (i := 30) (by kernel_rfl) rfl (by kernel_rfl : (Zpb 33 1073741823).setIfInBounds 30 true = Zpb 33 2147483647) (Zwy rfl rfl (T.e 1 rfl) rfl) ?_; intro K hK
  refine Zoc (first := []) (cap := []) T rfl rfl rfl rfl evf (.cons evc (.cons evc .nil)) Tryd.func6 rfl rfl ?_
  refine Calls.mono (to_any (-12) (-12) _) ?_
  clear T; rintro e wc ⟨rfl, hb⟩ ac T
  replace M := M.call hb; clear hb
  refine Zso hK _ _ (MA.mk (M.mask [true, true, true, true, true, true, true] rfl) (MA.mk (M.mask [true, true, true, true, true, true, true] rfl) (M.mask [true, true, true, true, true, true, true] rfl))) ?_; clear hK K
  refine g_q (v := (.bool false)) (T := T) (i := 31) rfl (by kernel_rfl) (by kernel_rfl : (Zpb 33 2147483647).setIfInBounds 31 true = Zpb 33 4294967295) (si_and si_U (si_and si_U si_U)) (fun _ _ _ h => h) (Zwy rfl rfl (T.e 2 rfl) rfl) rfl rfl rfl (fun _ _ _ _ _ => (Zrq (rn_bin rfl (T.e 1 rfl) (T.e 0 rfl) neT23) (by simp))) ?_; clear T ac; intro ac T
  refine gq T 32 8589934591 rfl (fun _ _ _ _ _ => (Zr0 rfl (T.e 3 rfl) rfl (T.e 0 rfl))) ?_; clear T ac; intro ac T
  refine Zgd (by kernel_rfl) ?_
  replace T := T.pick [0, 41] rfl
  replace M := M.mask [false, false, false, true, true, true, true] rfl
  refine nm_then ?_
  refine wp_cond_false (T.e 0 rfl) ?_
  refine Zsk ?_
  refine Zsr ?_
  refine Zl2 ?_
  refine Zoc (first := []) (cap := []) T rfl rfl rfl rfl evf (.cons evc (.cons evc .nil)) Tryd.func6 rfl rfl ?_
  refine Calls.mono (to_any (-12) (-8) _) ?_
  clear T; rintro e wc ⟨rfl, hb⟩ ac T
  replace M := M.call hb; clear hb
  refine Zl2 ?_
  refine Zoc (first := []) (cap := []) T rfl rfl rfl rfl evf (.cons evc (.cons evc .nil)) Tryd.func6 rfl rfl ?_
  refine Calls.mono (to_any (-6) (-6) _) ?_
  clear T; rintro e wc ⟨rfl, hb⟩ ac T
  replace M := M.call hb; clear hb
  refine Zl2 ?_
  refine Zoc (first := []) (cap := []) T rfl rfl rfl rfl evf (.cons evc (.cons evc .nil)) Tryd.func6 rfl rfl ?_
  refine Calls.mono (to_any (-3) 2 _) ?_
  clear T; rintro e wc ⟨rfl, hb⟩ ac T
  replace M := M.call hb; clear hb
  refine Zl2 ?_
  refine ow_bs (e := 23) [.int .i64 (-12), .int .i64 (-8), .int .i64 (-6), .int .i64 (-6), .int .i64 (-3), .int .i64 2] M T rfl rfl rfl rfl (.cons (T.e 2 rfl) (.cons (T.e 1 rfl) (.cons (T.e 0 rfl) .nil))) (fun _ => by kernel_rfl) ?_; clear M T; intro g14 wc ac M T
  refine Zl2 ?_
  refine ow_bs (e := 3) [.int .i64 2, .int .i64 3, .int .i64 1] M T rfl rfl rfl rfl (.cons evc (.cons evc (.cons evc .nil))) (fun _ => by kernel_rfl) ?_; clear M T; intro g15 wc ac M T
  refine Zg2 T (Zq (Zra rfl (T.e 1 rfl))) rfl (Za 1 rfl rfl) rfl ?_; clear T ac; intro ac T
  replace T := T.pick [0, 1, 8] rfl
  refine Zln ?_
  refine wp_seq ?_
  refine Zsr ?_
  refine lq T (Zra rfl evc) ?_; clear T ac; intro ac T
  refine Zln ?_
  refine wp_block ?_
  refine wp_loop_rounds 4 ?_
  refine rounds_S ?_
  refine wp_seq ?_
  refine Zsr ?_
  refine Zg4 (v3 := (.int .i64 3)) (v4 := (.bool true)) T (Zq (Zrm rfl (T.e 0 rfl))) rfl (Zm 3 rfl rfl) rfl (Zl Tryd.underlying28 0 rfl rfl) rfl (fun _ T => Zq (Zrq (rn_lss rfl (T.e 2 rfl) (T.e 0 rfl)) (by simp))) rfl ?_; clear T ac; intro ac T
  replace T := T.pick [0, 4, 5, 6, 7] rfl
  refine Zln ?_
  refine wp_cond_true (T.e 0 rfl) ?_
  refine Zsk ?_
  refine wp_seq ?_
  refine wp_block ?_
  refine Zsr ?_
  refine Zg4 (v3 := (.pointer (some ⟨g14, 0, none⟩))) T (Zq (Zrm rfl (T.e 3 rfl))) rfl (Zm 2 rfl rfl) rfl (fun _ T => Zq (Zri (size := 2) 0 rfl (T.e 1 rfl) (T.e 0 rfl) ⟨_, Tryd.underlying28, by kernel_rfl⟩ rfl (by decide) rfl)) rfl (Zr M 1 0 rfl rfl rfl rfl) rfl ?_; clear T ac; intro ac T
  refine Zl2 ?_
  refine Zoc (first := []) (cap := []) T rfl rfl rfl rfl evf (.cons (T.e 0 rfl) .nil) Tryd.func12 rfl rfl ?_
  refine Calls.mono (job_any (-12) (-8) _) ?_
  clear T; rintro e wc ⟨gu30, rfl, N⟩ ac T
  replace M := M.join N; clear N
  replace M := M.mask [true, true, true, true, true, true, true] rfl
  refine Zl2 ?_
  refine Zoc (first := []) (cap := []) T rfl rfl rfl rfl evf (.cons (T.e 0 rfl) .nil) Tryd.func11 rfl rfl ?_
  refine Calls.mono (kex10 (some ⟨gu30, 0, none⟩) 2 _ (M.rdOwn (Zne (i := 0) rfl) rfl rfl)) ?_
  clear T; rintro e wc ⟨rfl, hb⟩ ac T
  replace M := M.call hb; clear hb
  refine Zg5 T (Zq (Zrm rfl (T.e 0 rfl))) rfl (Ze 0 rfl rfl rfl) rfl (Ze 1 rfl rfl rfl) rfl (Za 1 rfl rfl) rfl (Za 1 rfl rfl) rfl ?_; clear T ac; intro ac T
  refine wpList_nil ?_
  replace T := T.pick [0, 1, 12, 13, 14, 15] rfl
  replace M := M.mask [false, true, true, true, true, true, true] rfl
  refine nm_then ?_
  refine Zsr ?_
  refine Zg8 (v2 := (.bool false)) (v7 := (.pointer (some ⟨g15, 0, none⟩))) T (Zq (Zrm rfl (T.e 0 rfl))) rfl (fun _ T => Zq (Zrq (rn_neq rfl (T.e 0 rfl) evc) (by simp))) rfl (Zm 0 rfl rfl) rfl (fun _ T => Zw (Zwy rfl rfl (T.e 0 rfl) rfl) (Zrm rfl (T.e 4 rfl))) rfl (fun _ T => Zw (Zwy rfl rfl (T.e 1 rfl) rfl) (Zrm rfl (T.e 7 rfl))) rfl (fun _ T => Zw (Zwy rfl rfl (T.e 2 rfl) rfl) (Zrm rfl (T.e 7 rfl))) rfl (fun _ T => Zw (Zwy rfl rfl (T.e 3 rfl) rfl) (Zri (size := 1) 0 rfl (T.e 1 rfl) (T.e 0 rfl) ⟨_, Tryd.underlying39, by kernel_rfl⟩ rfl (by decide) rfl)) rfl (fun _ T => Zw (Zwy rfl rfl (T.e 4 rfl) rfl) (Zro (Mem.nth M 0 rfl) rfl (T.e 0 rfl) rfl)) rfl ?_; clear T ac; intro ac T
  refine Zg2 (v1 := (.bool false)) T (Zw (Zwy rfl rfl (T.e 5 rfl) rfl) (Zrq (rn_neq rfl (T.e 4 rfl) (T.e 0 rfl)) (by simp))) rfl (fun _ T => Zq (Zr0 rfl (T.e 6 rfl) rfl (T.e 0 rfl))) rfl ?_; clear T ac; intro ac T
  replace T := T.pick [0, 1, 2, 3, 4, 5, 6, 12, 13, 14, 15] rfl
  refine Zln ?_
  refine wp_cond_false (T.e 0 rfl) ?_
  refine wp_skip ?_
  refine Znb ?_
  refine nm_then ?_
  refine wp_region_lit ?_
  refine Zg2 (v2 := (.int .i64 1)) T (Zq (Zrm rfl (T.e 7 rfl))) rfl (fun _ T => Zq (rn_ofI (rn_add rfl (T.e 0 rfl) evc (by omega)) (by rfl))) rfl ?_; clear T ac; intro ac T
  refine l_q (v := (.int .i64 1)) (T.pick [0, 1, 2, 3, 4, 5, 6, 7, 8, 10, 11, 12] rfl) rfl rfl rfl rfl (Zra rfl (T.e 0 rfl)) ?_; clear T ac; intro ac T
  replace T := T.pick [0, 4, 5, 6, 7, 8, 9, 10, 11, 12] rfl
  refine Zln ?_
  refine rounds_S ?_
  refine wp_seq ?_
  refine Zsr ?_
  refine Zg4 (v3 := (.int .i64 3)) (v4 := (.bool true)) T (Zq (Zrm rfl (T.e 0 rfl))) rfl (Zm 9 rfl rfl) rfl (Zl Tryd.underlying28 0 rfl rfl) rfl (fun _ T => Zq (Zrq (rn_lss rfl (T.e 2 rfl) (T.e 0 rfl)) (by simp))) rfl ?_; clear T ac; intro ac T
  replace T := T.pick [0, 4, 5, 6, 7, 8, 9, 10, 11, 12, 13] rfl
  refine Zln ?_
  refine wp_cond_true (T.e 0 rfl) ?_
  refine Zsk ?_
  refine wp_seq ?_
  refine wp_block ?_
  refine Zsr ?_
  refine Zg4 (v3 := (.pointer (some ⟨g14, 2, none⟩))) T (Zq (Zrm rfl (T.e 9 rfl))) rfl (Zm 2 rfl rfl) rfl (fun _ T => Zq (Zri (size := 2) 1 rfl (T.e 1 rfl) (T.e 0 rfl) ⟨_, Tryd.underlying28, by kernel_rfl⟩ rfl (by decide) rfl)) rfl (Zr M 1 0 rfl rfl rfl rfl) rfl ?_; clear T ac; intro ac T
  refine Zl2 ?_
  refine Zoc (first := []) (cap := []) T rfl rfl rfl rfl evf (.cons (T.e 0 rfl) .nil) Tryd.func12 rfl rfl ?_
  refine Calls.mono (job_any (-6) (-6) _) ?_
  clear T; rintro e wc ⟨gu32, rfl, N⟩ ac T
  replace M := M.join N; clear N
  replace M := M.mask [true, true, true, true, true, true, true] rfl
  refine Zl2 ?_
  refine Zoc (first := []) (cap := []) T rfl rfl rfl rfl evf (.cons (T.e 0 rfl) .nil) Tryd.func11 rfl rfl ?_
  refine Calls.mono (kex11 (some ⟨gu32, 0, none⟩) 2 _ (M.rdOwn (Zne (i := 0) rfl) rfl rfl)) ?_
  clear T; rintro e wc ⟨rfl, hb⟩ ac T
  replace M := M.call hb; clear hb
  refine Zg5 T (Zq (Zrm rfl (T.e 0 rfl))) rfl (Ze 0 rfl rfl rfl) rfl (Ze 1 rfl rfl rfl) rfl (Za 1 rfl rfl) rfl (Za 1 rfl rfl) rfl ?_; clear T ac; intro ac T
  refine wpList_nil ?_
  replace T := T.pick [0, 1, 12, 13, 14, 15, 16, 17, 18, 19, 20, 21] rfl
  replace M := M.mask [false, true, true, true, true, true, true] rfl
  refine nm_then ?_
  refine Zsr ?_
  refine Zg3 (v2 := (.bool false)) T (Zq (Zrm rfl (T.e 0 rfl))) rfl (fun _ T => Zq (Zrq (rn_neq rfl (T.e 0 rfl) evc) (by simp))) rfl (Zm 0 rfl rfl) rfl ?_; clear T ac; intro ac T
  refine l_q (v := (.int .i64 3)) (T.pick [0, 1, 2, 3, 4, 5, 6, 7, 8, 9, 10, 12, 13, 14] rfl) (Zwy rfl rfl (T.e 0 rfl) rfl) rfl rfl rfl (Zrm rfl (T.e 4 rfl)) ?_; clear T ac; intro ac T
  refine l_q (v := (.slice (some ⟨g15, 0, none⟩) 3 3)) (T.pick [0, 1, 2, 3, 4, 5, 6, 7, 8, 9, 10, 12, 13, 14] rfl) (Zwy rfl rfl (T.e 1 rfl) rfl) rfl rfl rfl (Zrm rfl (T.e 12 rfl)) ?_; clear T ac; intro ac T
  refine l_q (v := (.int .i64 1)) (T.pick [0, 1, 2, 3, 4, 5, 6, 7, 8, 9, 10, 12, 13, 14] rfl) (Zwy rfl rfl (T.e 2 rfl) rfl) rfl rfl rfl (Zrm rfl (T.e 7 rfl)) ?_; clear T ac; intro ac T
  refine l_q (v := (.pointer (some ⟨g15, 1, none⟩))) (T.pick [0, 1, 2, 3, 4, 5, 6, 7, 8, 9, 10, 12, 13, 14] rfl) (Zwy rfl rfl (T.e 3 rfl) rfl) rfl rfl rfl (Zri (size := 1) 1 rfl (T.e 1 rfl) (T.e 0 rfl) ⟨_, Tryd.underlying39, by kernel_rfl⟩ rfl (by decide) rfl) ?_; clear T ac; intro ac T
  refine l_q (v := (.int .i64 3)) (T.pick [0, 1, 2, 3, 4, 5, 6, 7, 8, 9, 10, 12, 13, 14] rfl) (Zwy rfl rfl (T.e 4 rfl) rfl) rfl rfl rfl (Zro (Mem.nth M 0 rfl) rfl (T.e 0 rfl) rfl) ?_; clear T ac; intro ac T
  refine l_q (v := (.bool false)) (T.pick [0, 1, 2, 3, 4, 5, 6, 7, 8, 9, 10, 12, 13, 14] rfl) (Zwy rfl rfl (T.e 5 rfl) rfl) rfl rfl rfl (Zrq (rn_neq rfl (T.e 4 rfl) (T.e 0 rfl)) (by simp)) ?_; clear T ac; intro ac T
  refine lq T (Zr0 rfl (T.e 6 rfl) rfl (T.e 0 rfl)) ?_; clear T ac; intro ac T
  replace T := T.pick [0, 1, 2, 3, 4, 5, 6, 12, 13, 14, 15] rfl
  refine Zln ?_
  refine wp_cond_false (T.e 0 rfl) ?_
  refine wp_skip ?_
  refine Znb ?_
  refine nm_then ?_
  refine wp_region_lit ?_
  refine Zg2 (v2 := (.int .i64 2)) T (Zq (Zrm rfl (T.e 7 rfl))) rfl (fun _ T => Zq (rn_ofI (rn_add rfl (T.e 0 rfl) evc (by omega)) (by rfl))) rfl ?_; clear T ac; intro ac T
  refine l_q (v := (.int .i64 2)) (T.pick [0, 1, 2, 3, 4, 5, 6, 7, 8, 10, 11, 12] rfl) rfl rfl rfl rfl (Zra rfl (T.e 0 rfl)) ?_; clear T ac; intro ac T
  replace T := T.pick [0, 4, 5, 6, 7, 8, 9, 10, 11, 12] rfl
  refine Zln ?_
  refine rounds_S ?_
  refine wp_seq ?_
  refine Zsr ?_
  refine Zg4 (v3 := (.int .i64 3)) (v4 := (.bool true)) T (Zq (Zrm rfl (T.e 0 rfl))) rfl (Zm 9 rfl rfl) rfl (Zl Tryd.underlying28 0 rfl rfl) rfl (fun _ T => Zq (Zrq (rn_lss rfl (T.e 2 rfl) (T.e 0 rfl)) (by simp))) rfl ?_; clear T ac; intro ac T
  replace T := T.pick [0, 4, 5, 6, 7, 8, 9, 10, 11, 12, 13] rfl
  refine Zln ?_
  refine wp_cond_true (T.e 0 rfl) ?_
  refine Zsk ?_
  refine wp_seq ?_
  refine wp_block ?_
  refine Zsr ?_
  refine Zg4 (v3 := (.pointer (some ⟨g14, 4, none⟩))) T (Zq (Zrm rfl (T.e 9 rfl))) rfl (Zm 2 rfl rfl) rfl (fun _ T => Zq (Zri (size := 2) 2 rfl (T.e 1 rfl) (T.e 0 rfl) ⟨_, Tryd.underlying28, by kernel_rfl⟩ rfl (by decide) rfl)) rfl (Zr M 1 0 rfl rfl rfl rfl) rfl ?_; clear T ac; intro ac T
  refine Zl2 ?_
  refine Zoc (first := []) (cap := []) T rfl rfl rfl rfl evf (.cons (T.e 0 rfl) .nil) Tryd.func12 rfl rfl ?_
  refine Calls.mono (job_any (-3) 2 _) ?_
  clear T; rintro e wc ⟨gu34, rfl, N⟩ ac T
  replace M := M.join N; clear N
  replace M := M.mask [true, true, true, true, true, true, true] rfl
  refine Zl2 ?_
  refine Zoc (first := []) (cap := []) T rfl rfl rfl rfl evf (.cons (T.e 0 rfl) .nil) Tryd.func11 rfl rfl ?_
  refine Calls.mono (kex12 (some ⟨gu34, 0, none⟩) 2 _ (M.rdOwn (Zne (i := 0) rfl) rfl rfl)) ?_
  clear T; rintro e wc ⟨rfl, hb⟩ ac T
  replace M := M.call hb; clear hb
  refine Zg5 T (Zq (Zrm rfl (T.e 0 rfl))) rfl (Ze 0 rfl rfl rfl) rfl (Ze 1 rfl rfl rfl) rfl (Za 1 rfl rfl) rfl (Za 1 rfl rfl) rfl ?_; clear T ac; intro ac T
  refine wpList_nil ?_
  replace T := T.pick [0, 1, 12, 13, 14, 15, 16, 17, 18, 19, 20, 21] rfl
  replace M := M.mask [false, true, true, true, true, true, true] rfl
  refine nm_then ?_
  refine Zsr ?_
  refine Zg3 (v2 := (.bool false)) T (Zq (Zrm rfl (T.e 0 rfl))) rfl (fun _ T => Zq (Zrq (rn_neq rfl (T.e 0 rfl) evc) (by simp))) rfl (Zm 0 rfl rfl) rfl ?_; clear T ac; intro ac T
  refine l_q (v := (.int .i64 1)) (T.pick [0, 1, 2, 3, 4, 5, 6, 7, 8, 9, 10, 12, 13, 14] rfl) (Zwy rfl rfl (T.e 0 rfl) rfl) rfl rfl rfl (Zrm rfl (T.e 4 rfl)) ?_; clear T ac; intro ac T
  refine l_q (v := (.slice (some ⟨g15, 0, none⟩) 3 3)) (T.pick [0, 1, 2, 3, 4, 5, 6, 7, 8, 9, 10, 12, 13, 14] rfl) (Zwy rfl rfl (T.e 1 rfl) rfl) rfl rfl rfl (Zrm rfl (T.e 12 rfl)) ?_; clear T ac; intro ac T
  refine l_q (v := (.int .i64 2)) (T.pick [0, 1, 2, 3, 4, 5, 6, 7, 8, 9, 10, 12, 13, 14] rfl) (Zwy rfl rfl (T.e 2 rfl) rfl) rfl rfl rfl (Zrm rfl (T.e 7 rfl)) ?_; clear T ac; intro ac T
  refine l_q (v := (.pointer (some ⟨g15, 2, none⟩))) (T.pick [0, 1, 2, 3, 4, 5, 6, 7, 8, 9, 10, 12, 13, 14] rfl) (Zwy rfl rfl (T.e 3 rfl) rfl) rfl rfl rfl (Zri (size := 1) 2 rfl (T.e 1 rfl) (T.e 0 rfl) ⟨_, Tryd.underlying39, by kernel_rfl⟩ rfl (by decide) rfl) ?_; clear T ac; intro ac T
  refine l_q (v := (.int .i64 1)) (T.pick [0, 1, 2, 3, 4, 5, 6, 7, 8, 9, 10, 12, 13, 14] rfl) (Zwy rfl rfl (T.e 4 rfl) rfl) rfl rfl rfl (Zro (Mem.nth M 0 rfl) rfl (T.e 0 rfl) rfl) ?_; clear T ac; intro ac T
  refine l_q (v := (.bool false)) (T.pick [0, 1, 2, 3, 4, 5, 6, 7, 8, 9, 10, 12, 13, 14] rfl) (Zwy rfl rfl (T.e 5 rfl) rfl) rfl rfl rfl (Zrq (rn_neq rfl (T.e 4 rfl) (T.e 0 rfl)) (by simp)) ?_; clear T ac; intro ac T
  refine lq T (Zr0 rfl (T.e 6 rfl) rfl (T.e 0 rfl)) ?_; clear T ac; intro ac T
  replace T := T.pick [0, 1, 2, 3, 4, 5, 6, 12, 13, 14, 15] rfl
  refine Zln ?_
  refine wp_cond_false (T.e 0 rfl) ?_
  refine wp_skip ?_
  refine Znb ?_
  refine nm_then ?_
  refine wp_region_lit ?_
  refine Zg2 (v2 := (.int .i64 3)) T (Zq (Zrm rfl (T.e 7 rfl))) rfl (fun _ T => Zq (rn_ofI (rn_add rfl (T.e 0 rfl) evc (by omega)) (by rfl))) rfl ?_; clear T ac; intro ac T
  refine l_q (v := (.int .i64 3)) (T.pick [0, 1, 2, 3, 4, 5, 6, 7, 8, 10, 11, 12] rfl) rfl rfl rfl rfl (Zra rfl (T.e 0 rfl)) ?_; clear T ac; intro ac T
  replace T := T.pick [0, 4, 5, 6, 7, 8, 9, 10, 11, 12] rfl
  refine Zln ?_
  refine rounds_S ?_
  refine wp_seq ?_
  refine Zsr ?_
  refine Zg4 (v3 := (.int .i64 3)) (v4 := (.bool false)) T (Zq (Zrm rfl (T.e 0 rfl))) rfl (Zm 9 rfl rfl) rfl (Zl Tryd.underlying28 0 rfl rfl) rfl (fun _ T => Zq (Zrq (rn_lss rfl (T.e 2 rfl) (T.e 0 rfl)) (by simp))) rfl ?_; clear T ac; intro ac T
  replace T := T.pick [0, 4, 5, 6, 7, 8, 9, 10, 11, 12, 13] rfl
  refine Zln ?_
  refine wp_cond_false (T.e 0 rfl) ?_
  refine wp_exit ?_
  refine Zet ?_
  refine Zet ?_
  refine ex_hit ?_
  refine nm_then ?_
  refine Zsr ?_
  refine Zl2 ?_
  refine Zoc (first := []) (cap := []) T rfl rfl rfl rfl evf .nil Tryd.func5 rfl rfl ?_
  refine Calls.mono (flat_any _) ?_
  clear T; rintro e wc ⟨gu36, rfl, N⟩ ac T
  replace M := M.join N; clear N
  replace M := M.mask [true, true, true, true, true, true, true] rfl
  refine Zl2 ?_
  refine ow_bs (e := 3) [.int .i64 1, .int .i64 1] M T rfl rfl rfl rfl (.cons evc (.cons evc .nil)) (fun _ => by kernel_rfl) ?_; clear M T; intro g16 wc ac M T
  refine Zl2 ?_
  refine Zoc (first := []) (cap := []) T rfl rfl rfl rfl evf (.cons (T.e 1 rfl) (.cons (T.e 0 rfl) .nil)) Tryd.func13 rfl rfl ?_
  refine Calls.mono (kex13 (some ⟨gu36, 0, none⟩) 2 (some ⟨g16, 0, none⟩) 2 _ (M.rdOwn (Zne (i := 1) rfl) rfl rfl) (M.rdOwn (Zne (i := 0) rfl) rfl rfl)) ?_
  clear T; rintro e wc ⟨rfl, hb⟩ ac T
  replace M := M.call hb; clear hb
  refine Zg5 T (Zq (Zrm rfl (T.e 0 rfl))) rfl (Ze 0 rfl rfl rfl) rfl (Ze 1 rfl rfl rfl) rfl (Za 1 rfl rfl) rfl (Za 1 rfl rfl) rfl ?_; clear T ac; intro ac T
  refine wpList_nil ?_
  replace T := T.pick [0, 1, 18] rfl
  replace M := M.mask [false, false, false, false, true, true, true, true] rfl
  refine nm_then ?_
  refine Zsr ?_
  refine Zl2 ?_
  refine Zoc (first := []) (cap := []) T rfl rfl rfl rfl evf .nil Tryd.func5 rfl rfl ?_
  refine Calls.mono (flat_any _) ?_
  clear T; rintro e wc ⟨gu38, rfl, N⟩ ac T
  replace M := M.join N; clear N
  replace M := M.mask [true, true, true, true, true] rfl
  refine Zl2 ?_
  refine Zoc (first := []) (cap := []) T rfl rfl rfl rfl evf (.cons (T.e 0 rfl) (.cons evc .nil)) Tryd.func13 rfl rfl ?_
  refine Calls.mono (kex14 (some ⟨gu38, 0, none⟩) 2 none 0 _ (M.rdOwn (Zne (i := 0) rfl) rfl rfl) (Rd.none0 M)) ?_
  clear T; rintro e wc ⟨rfl, hb⟩ ac T
  replace M := M.call hb; clear hb
  refine Zg5 T (Zq (Zrm rfl (T.e 0 rfl))) rfl (Ze 0 rfl rfl rfl) rfl (Ze 1 rfl rfl rfl) rfl (Za 1 rfl rfl) rfl (Za 1 rfl rfl) rfl ?_; clear T ac; intro ac T
  refine wpList_nil ?_
  replace T := T.pick [0, 1, 7, 8, 9] rfl
  replace M := M.mask [false, true, true, true, true] rfl
  refine nm_then ?_
  refine Zsr ?_
  refine Zl2 ?_
  refine Zoc (first := []) (cap := []) T rfl rfl rfl rfl evf .nil Tryd.func5 rfl rfl ?_
  refine Calls.mono (flat_any _) ?_
  clear T; rintro e wc ⟨gu40, rfl, N⟩ ac T
  replace M := M.join N; clear N
  replace M := M.mask [true, true, true, true, true] rfl
  refine Zl2 ?_
  refine ow_bs (e := 3) [.int .i64 1, .int .i64 1] M T rfl rfl rfl rfl (.cons evc (.cons evc .nil)) (fun _ => by kernel_rfl) ?_; clear M T; intro g17 wc ac M T
  refine Zl2 ?_
  refine Zoc (first := []) (cap := []) T rfl rfl rfl rfl evf (.cons (T.e 1 rfl) (.cons (T.e 0 rfl) .nil)) Tryd.func14 rfl rfl ?_
  refine Calls.mono (kn_after (some ⟨gu40, 0, none⟩) 2 (some ⟨g17, 0, none⟩) 2 _ (M.rdOwn (Zne (i := 1) rfl) rfl rfl) (M.rdOwn (Zne (i := 0) rfl) rfl rfl)) ?_
  clear T; rintro e wc ⟨rfl, hb⟩ ac T
  replace M := M.call hb; clear hb
  refine Zg3 T (Zq (Zrm rfl (T.e 0 rfl))) rfl (Ze 0 rfl rfl rfl) rfl (Ze 1 rfl rfl rfl) rfl ?_; clear T ac; intro ac T
  refine Zl2 ?_
  refine Zoa M T rfl rfl rfl rfl ?_; clear M T; intro g18 wc ac M T
  refine Zl2 ?_
  refine Zos M T rfl rfl (T.e 0 rfl) (T.e 2 rfl) rfl .head rfl (by simp) rfl (by kernel_rfl) ?_; clear M T; intro wc ac M T
  refine lq T (Zra rfl (T.e 1 rfl)) ?_; clear T ac; intro ac T
  refine wpList_nil ?_
  replace T := T.pick [0, 1, 8, 9, 10, 11, 12] rfl
  replace M := M.mask [true, false, false, true, true, true, true] rfl
  refine nm_then ?_
  refine Zsr ?_
  refine Zl2 ?_
  refine Zoc (first := []) (cap := []) T rfl rfl rfl rfl evf .nil Tryd.func5 rfl rfl ?_
  refine Calls.mono (flat_any _) ?_
  clear T; rintro e wc ⟨gu42, rfl, N⟩ ac T
  replace M := M.join N; clear N
  replace M := M.mask [true, true, true, true, true, true] rfl
  refine Zl2 ?_
  refine ow_bs (e := 3) [.int .i64 1, .int .i64 1, .int .i64 1, .int .i64 1, .int .i64 1] M T rfl rfl rfl rfl (.cons evc (.cons evc (.cons evc (.cons evc (.cons evc .nil))))) (fun _ => by kernel_rfl) ?_; clear M T; intro g19 wc ac M T
  refine Zl2 ?_
  refine Zoc (first := []) (cap := []) T rfl rfl rfl rfl evf (.cons (T.e 1 rfl) (.cons (T.e 0 rfl) .nil)) Tryd.func15 rfl rfl ?_
  refine Calls.mono (kex15 (some ⟨gu42, 0, none⟩) 2 (some ⟨g19, 0, none⟩) 5 _ (M.rdOwn (Zne (i := 1) rfl) rfl rfl) (M.rdOwn (Zne (i := 0) rfl) rfl rfl)) ?_
  clear T; rintro e wc ⟨rfl, hb⟩ ac T
  replace M := M.call hb; clear hb
  refine Zg5 T (Zq (Zrm rfl (T.e 0 rfl))) rfl (Ze 0 rfl rfl rfl) rfl (Ze 1 rfl rfl rfl) rfl (Za 1 rfl rfl) rfl (Za 1 rfl rfl) rfl ?_; clear T ac; intro ac T
  refine wpList_nil ?_
  replace T := T.pick [0, 1, 8, 9, 10, 11, 12, 13, 14] rfl
  replace M := M.mask [false, false, true, true, true, true, true] rfl
  refine nm_then ?_
  refine Zsr ?_
  refine Zl2 ?_
  refine Zoc (first := []) (cap := []) T rfl rfl rfl rfl evf .nil Tryd.func5 rfl rfl ?_
  refine Calls.mono (flat_any _) ?_
  clear T; rintro e wc ⟨gu44, rfl, N⟩ ac T
  replace M := M.join N; clear N
  replace M := M.mask [true, true, true, true, true, true] rfl
  refine Zl2 ?_
  refine ow_bs (e := 3) [.int .i64 1, .int .i64 1, .int .i64 1, .int .i64 1, .int .i64 1, .int .i64 1] M T rfl rfl rfl rfl (.cons evc (.cons evc (.cons evc (.cons evc (.cons evc (.cons evc .nil)))))) (fun _ => by kernel_rfl) ?_; clear M T; intro g20 wc ac M T
  refine Zl2 ?_
  refine Zoc (first := []) (cap := []) T rfl rfl rfl rfl evf (.cons (T.e 1 rfl) (.cons (T.e 0 rfl) .nil)) Tryd.func15 rfl rfl ?_
  refine Calls.mono (kex16 (some ⟨gu44, 0, none⟩) 2 (some ⟨g20, 0, none⟩) 6 _ (M.rdOwn (Zne (i := 1) rfl) rfl rfl) (M.rdOwn (Zne (i := 0) rfl) rfl rfl)) ?_
  clear T; rintro e wc ⟨rfl, hb⟩ ac T
  replace M := M.call hb; clear hb
  refine Zg5 T (Zq (Zrm rfl (T.e 0 rfl))) rfl (Ze 0 rfl rfl rfl) rfl (Ze 1 rfl rfl rfl) rfl (Za 1 rfl rfl) rfl (Za 1 rfl rfl) rfl ?_; clear T ac; intro ac T
  refine wpList_nil ?_
  replace T := T.pick [0, 1, 8, 9, 10, 11, 12, 13, 14, 15, 16] rfl
  replace M := M.mask [false, false, true, true, true, true, true] rfl
  refine nm_then ?_
  refine Zsr ?_
  refine lq T (Zrr (Mem.nth M 3 rfl) rfl (T.e 10 rfl) rfl) ?_; clear T ac; intro ac T
  refine Zl2 ?_
  refine ow_bs (e := 3) [.int .i64 1] M T rfl rfl rfl rfl (.cons evc .nil) (fun _ => by kernel_rfl) ?_; clear M T; intro g21 wc ac M T
  refine Zl2 ?_
  refine Zoc (first := []) (cap := []) T rfl rfl rfl rfl evf (.cons (T.e 1 rfl) (.cons (T.e 0 rfl) .nil)) Tryd.func15 rfl rfl ?_
  refine Calls.mono (kex17 (some ⟨gu7, 0, none⟩) 2 (some ⟨g21, 0, none⟩) 1 _ (M.rdOwn (Zne (i := 5) rfl) rfl rfl) (M.rdOwn (Zne (i := 0) rfl) rfl rfl)) ?_
  clear T; rintro e wc ⟨rfl, hb⟩ ac T
  replace M := M.call hb; clear hb
  refine Zg5 T (Zq (Zrm rfl (T.e 0 rfl))) rfl (Ze 0 rfl rfl rfl) rfl (Ze 1 rfl rfl rfl) rfl (Za 1 rfl rfl) rfl (Za 1 rfl rfl) rfl ?_; clear T ac; intro ac T
  refine wpList_nil ?_
  replace T := T.pick [0, 1, 8, 9, 10, 11, 12, 13, 14, 15, 16, 17] rfl
  replace M := M.mask [false, true, true, true, false, false] rfl
  refine Zns ?_
  refine wp_seq ?_
  refine Zgs M (M.mask [true, true, true] rfl) 50 (by kernel_rfl) rfl (by kernel_rfl) ?_
  clear M; intro wc M
  refine gq T 0 1 rfl (fun _ _ _ _ _ => (Zrm rfl (T.e 10 rfl))) ?_; clear T ac; intro ac T
  refine gq (v := (.bool false)) T 1 3 rfl (fun _ _ _ _ _ => (Zrq (rn_neq rfl (T.e 0 rfl) evc) (by simp))) ?_; clear T ac; intro ac T
  refine gq T 2 7 rfl (fun _ _ _ _ _ => (Zrm rfl (T.e 0 rfl))) ?_; clear T ac; intro ac T
  refine g_q (T := T) (i := 3) rfl (by kernel_rfl) (by kernel_rfl : (Zpb 50 7).setIfInBounds 3 true = Zpb 50 15) si_U (fun _ _ _ h => h) (Zwy rfl rfl (T.e 0 rfl) rfl) rfl rfl rfl (fun _ _ _ _ _ => (Zrm rfl (T.e 11 rfl))) ?_; clear T ac; intro ac T
  refine g_q (v := (.bool false)) (T := T) (i := 4) rfl (by kernel_rfl) (by kernel_rfl : (Zpb 50 15).setIfInBounds 4 true = Zpb 50 31) si_U (fun _ _ _ h => h) (Zwy rfl rfl (T.e 1 rfl) rfl) rfl rfl rfl (fun _ _ _ _ _ => (Zrq (rn_neq rfl (T.e 0 rfl) evc) (by simp))) ?_; clear T ac; intro ac T
  refine gq T 5 63 rfl (fun _ _ _ _ _ => (Zr0 rfl (T.e 2 rfl) rfl (T.e 0 rfl))) ?_; clear T ac; intro ac T
  refine gq T 6 127 rfl (fun _ _ _ _ _ => (Zrm rfl (T.e 0 rfl))) ?_; clear T ac; intro ac T
  refine g_q (T := T) (i := 7) rfl (by kernel_rfl) (by kernel_rfl : (Zpb 50 127).setIfInBounds 7 true = Zpb 50 255) si_U (fun _ _ _ h => h) (Zwy rfl rfl (T.e 0 rfl) rfl) rfl rfl rfl (fun _ _ _ _ _ => (Zrm rfl (T.e 13 rfl))) ?_; clear T ac; intro ac T
  refine g_q (v := (.bool false)) (T := T) (i := 8) rfl (by kernel_rfl) (by kernel_rfl : (Zpb 50 255).setIfInBounds 8 true = Zpb 50 511) si_U (fun _ _ _ h => h) (Zwy rfl rfl (T.e 1 rfl) rfl) rfl rfl rfl (fun _ _ _ _ _ => (Zrq (rn_neq rfl (T.e 0 rfl) evc) (by simp))) ?_; clear T ac; intro ac T
  refine gq T 9 1023 rfl (fun _ _ _ _ _ => (Zr0 rfl (T.e 2 rfl) rfl (T.e 0 rfl))) ?_; clear T ac; intro ac T
  refine gq T 10 2047 rfl (fun _ _ _ _ _ => (Zrm rfl (T.e 0 rfl))) ?_; clear T ac; intro ac T
  refine g_q (T := T) (i := 11) rfl (by kernel_rfl) (by kernel_rfl : (Zpb 50 2047).setIfInBounds 11 true = Zpb 50 4095) si_U (fun _ _ _ h => h) (Zwy rfl rfl (T.e 0 rfl) rfl) rfl rfl rfl (fun _ _ _ _ _ => (Zrm rfl (T.e 15 rfl))) ?_; clear T ac; intro ac T
  refine g_q (v := (.bool false)) (T := T) (i := 12) rfl (by kernel_rfl) (by kernel_rfl : (Zpb 50 4095).setIfInBounds 12 true = Zpb 50 8191) si_U (fun _ _ _ h => h) (Zwy rfl rfl (T.e 1 rfl) rfl) rfl rfl rfl (fun _ _ _ _ _ => (Zrq (rn_neq rfl (T.e 0 rfl) evc) (by simp))) ?_; clear T ac; intro ac T
  refine gq T 13 16383 rfl (fun _ _ _ _ _ => (Zr0 rfl (T.e 2 rfl) rfl (T.e 0 rfl))) ?_; clear T ac; intro ac T
  refine gq T 14 32767 rfl (fun _ _ _ _ _ => (Zrm rfl (T.e 0 rfl))) ?_; clear T ac; intro ac T
  refine g_q (T := T) (i := 15) rfl (by kernel_rfl) (by kernel_rfl : (Zpb 50 32767).setIfInBounds 15 true = Zpb 50 65535) si_U (fun _ _ _ h => h) (Zwy rfl rfl (T.e 0 rfl) rfl) rfl rfl rfl (fun _ _ _ _ _ => (Zrm rfl (T.e 17 rfl))) ?_; clear T ac; intro ac T
  refine g_q (v := (.bool false)) (T := T) (i := 16) rfl (by kernel_rfl) (by kernel_rfl : (Zpb 50 65535).setIfInBounds 16 true = Zpb 50 131071) si_U (fun _ _ _ h => h) (Zwy rfl rfl (T.e 1 rfl) rfl) rfl rfl rfl (fun _ _ _ _ _ => (Zrq (rn_neq rfl (T.e 0 rfl) evc) (by simp))) ?_; clear T ac; intro ac T
  refine gq T 17 262143 rfl (fun _ _ _ _ _ => (Zr0 rfl (T.e 2 rfl) rfl (T.e 0 rfl))) ?_; clear T ac; intro ac T
  refine gq T 18 524287 rfl (fun _ _ _ _ _ => (Zrm rfl (T.e 0 rfl))) ?_; clear T ac; intro ac T
  refine g_q (T := T) (i := 19) rfl (by kernel_rfl) (by kernel_rfl : (Zpb 50 524287).setIfInBounds 19 true = Zpb 50 1048575) si_U (fun _ _ _ h => h) (Zwy rfl rfl (T.e 0 rfl) rfl) rfl rfl rfl (fun _ _ _ _ _ => (Zrm rfl (T.e 19 rfl))) ?_; clear T ac; intro ac T
  refine g_q (v := (.bool false)) (T := T) (i := 20) rfl (by kernel_rfl) (by kernel_rfl : (Zpb 50 1048575).setIfInBounds 20 true = Zpb 50 2097151) si_U (fun _ _ _ h => h) (Zwy rfl rfl (T.e 1 rfl) rfl) rfl rfl rfl (fun _ _ _ _ _ => (Zrq (rn_neq rfl (T.e 0 rfl) evc) (by simp))) ?_; clear T ac; intro ac T
  refine gq T 21 4194303 rfl (fun _ _ _ _ _ => (Zr0 rfl (T.e 2 rfl) rfl (T.e 0 rfl))) ?_; clear T ac; intro ac T
  refine gq T 22 8388607 rfl (fun _ _ _ _ _ => (Zrm rfl (T.e 0 rfl))) ?_; clear T ac; intro ac T
  refine g_q (T := T) (i := 23) rfl (by kernel_rfl) (by kernel_rfl : (Zpb 50 8388607).setIfInBounds 23 true = Zpb 50 16777215) si_U (fun _ _ _ h => h) (Zwy rfl rfl (T.e 0 rfl) rfl) rfl rfl rfl (fun _ _ _ _ _ => (Zrm rfl (T.e 34 rfl))) ?_; clear T ac; intro ac T
  refine g_q (v := (.bool false)) (T := T) (i := 24) rfl (by kernel_rfl) (by kernel_rfl : (Zpb 50 16777215).setIfInBounds 24 true = Zpb 50 33554431) si_U (fun _ _ _ h => h) (Zwy rfl rfl (T.e 1 rfl) rfl) rfl rfl rfl (fun _ _ _ _ _ => (Zrq (rn_neq rfl (T.e 0 rfl) evc) (by simp))) ?_; clear T ac; intro ac T
  refine gq T 25 67108863 rfl (fun _ _ _ _ _ => (Zr0 rfl (T.e 2 rfl) rfl (T.e 0 rfl))) ?_; clear T ac; intro ac T
  refine gq T 26 134217727 rfl (fun _ _ _ _ _ => (Zrm rfl (T.e 0 rfl))) ?_; clear T ac; intro ac T
  refine g_q (T := T) (i := 27) rfl (by kernel_rfl) (by kernel_rfl : (Zpb 50 134217727).setIfInBounds 27 true = Zpb 50 268435455) si_U (fun _ _ _ h => h) (Zwy rfl rfl (T.e 0 rfl) rfl) rfl rfl rfl (fun _ _ _ _ _ => (Zrm rfl (T.e 36 rfl))) ?_; clear T ac; intro ac T
  refine g_q (v := (.bool false)) (T := T) (i := 28) rfl (by kernel_rfl) (by kernel_rfl : (Zpb 50 268435455).setIfInBounds 28 true = Zpb 50 536870911) si_U (fun _ _ _ h => h) (Zwy rfl rfl (T.e 1 rfl) rfl) rfl rfl rfl (fun _ _ _ _ _ => (Zrq (rn_neq rfl (T.e 0 rfl) evc) (by simp))) ?_; clear T ac; intro ac T
  refine gq T 29 1073741823 rfl (fun _ _ _ _ _ => (Zr0 rfl (T.e 2 rfl) rfl (T.e 0 rfl))) ?_; clear T ac; intro ac T
  refine gq T 30 2147483647 rfl (fun _ _ _ _ _ => (Zrm rfl (T.e 0 rfl))) ?_; clear T ac; intro ac T
  refine g_q (T := T) (i := 31) rfl (by kernel_rfl) (by kernel_rfl : (Zpb 50 2147483647).setIfInBounds 31 true = Zpb 50 4294967295) si_U (fun _ _ _ h => h) (Zwy rfl rfl (T.e 0 rfl) rfl) rfl rfl rfl (fun _ _ _ _ _ => (Zrm rfl (T.e 36 rfl))) ?_; clear T ac; intro ac T
  refine g_q (v := (.bool false)) (T := T) (i := 32) rfl (by kernel_rfl) (by kernel_rfl : (Zpb 50 4294967295).setIfInBounds 32 true = Zpb 50 8589934591) si_U (fun _ _ _ h => h) (Zwy rfl rfl (T.e 1 rfl) rfl) rfl rfl rfl (fun _ _ _ _ _ => (Zrq (rn_neq rfl (T.e 0 rfl) evc) (by simp))) ?_; clear T ac; intro ac T
  refine gq T 33 17179869183 rfl (fun _ _ _ _ _ => (Zr0 rfl (T.e 2 rfl) rfl (T.e 0 rfl))) ?_; clear T ac; intro ac T
  refine gq T 34 34359738367 rfl (fun _ _ _ _ _ => (Zrm rfl (T.e 0 rfl))) ?_; clear T ac; intro ac T
  refine g_q (T := T) (i := 35) rfl (by kernel_rfl) (by kernel_rfl : (Zpb 50 34359738367).setIfInBounds 35 true = Zpb 50 68719476735) si_U (fun _ _ _ h => h) (Zwy rfl rfl (T.e 0 rfl) rfl) rfl rfl rfl (fun _ _ _ _ _ => (Zrm rfl (T.e 38 rfl))) ?_; clear T ac; intro ac T
  refine g_q (v := (.bool false)) (T := T) (i := 36) rfl (by kernel_rfl) (by kernel_rfl : (Zpb 50 68719476735).setIfInBounds 36 true = Zpb 50 137438953471) si_U (fun _ _ _ h => h) (Zwy rfl rfl (T.e 1 rfl) rfl) rfl rfl rfl (fun _ _ _ _ _ => (Zrq (rn_neq rfl (T.e 0 rfl) evc) (by simp))) ?_; clear T ac; intro ac T
  refine gq T 37 274877906943 rfl (fun _ _ _ _ _ => (Zr0 rfl (T.e 2 rfl) rfl (T.e 0 rfl))) ?_; clear T ac; intro ac T
  refine gq T 38 549755813887 rfl (fun _ _ _ _ _ => (Zrm rfl (T.e 0 rfl))) ?_; clear T ac; intro ac T
  refine g_q (T := T) (i := 39) rfl (by kernel_rfl) (by kernel_rfl : (Zpb 50 549755813887).setIfInBounds 39 true = Zpb 50 1099511627775) si_U (fun _ _ _ h => h) (Zwy rfl rfl (T.e 0 rfl) rfl) rfl rfl rfl (fun _ _ _ _ _ => (Zrm rfl (T.e 40 rfl))) ?_; clear T ac; intro ac T
  refine g_q (v := (.bool false)) (T := T) (i := 40) rfl (by kernel_rfl) (by kernel_rfl : (Zpb 50 1099511627775).setIfInBounds 40 true = Zpb 50 2199023255551) si_U (fun _ _ _ h => h) (Zwy rfl rfl (T.e 1 rfl) rfl) rfl rfl rfl (fun _ _ _ _ _ => (Zrq (rn_neq rfl (T.e 0 rfl) evc) (by simp))) ?_; clear T ac; intro ac T
  refine gq T 41 4398046511103 rfl (fun _ _ _ _ _ => (Zr0 rfl (T.e 2 rfl) rfl (T.e 0 rfl))) ?_; clear T ac; intro ac T
  refine gq T 42 8796093022207 rfl (fun _ _ _ _ _ => (Zrm rfl (T.e 0 rfl))) ?_; clear T ac; intro ac T
  refine g_q (T := T) (i := 43) rfl (by kernel_rfl) (by kernel_rfl : (Zpb 50 8796093022207).setIfInBounds 43 true = Zpb 50 17592186044415) si_U (fun _ _ _ h => h) (Zwy rfl rfl (T.e 0 rfl) rfl) rfl rfl rfl (fun B w' hD hl hS => (Zrr (Mem.nth (show Mem w noEx w' _ from hS) 0 rfl) rfl (T.e 50 rfl) rfl)) ?_; clear T ac; intro ac T
  refine g_w (i := 44) (by kernel_rfl) rfl (by kernel_rfl : (Zpb 50 17592186044415).setIfInBounds 44 true = Zpb 50 35184372088831) (Zwy rfl rfl (T.e 1 rfl) rfl) ?_; intro K hK
  refine Zoc (first := []) (cap := []) T rfl rfl rfl rfl evf (.cons evc (.cons evc .nil)) Tryd.func6 rfl rfl ?_
  refine Calls.mono (to_any (-6) 0 _) ?_
  clear T; rintro e wc ⟨rfl, hb⟩ ac T
  replace M := M.call hb; clear hb
  refine Zso hK _ _ (M.mask [true, true, true] rfl) ?_; clear hK K
  refine g_w (i := 45) (by kernel_rfl) rfl (by kernel_rfl : (Zpb 50 35184372088831).setIfInBounds 45 true = Zpb 50 70368744177663) (Zwy rfl rfl (T.e 2 rfl) rfl) ?_; intro K hK
  refine Zoc (first := []) (cap := []) T rfl rfl rfl rfl evf (.cons evc (.cons evc .nil)) Tryd.func6 rfl rfl ?_
  refine Calls.mono (to_any 26 30 _) ?_
  clear T; rintro e wc ⟨rfl, hb⟩ ac T
  replace M := M.call hb; clear hb
  refine Zso hK _ _ (M.mask [true, true, true] rfl) ?_; clear hK K
  refine g_w (i := 46) (by kernel_rfl) rfl (by kernel_rfl : (Zpb 50 70368744177663).setIfInBounds 46 true = Zpb 50 140737488355327) (Zwy rfl rfl (T.e 3 rfl) rfl) ?_; intro K hK
  refine Zoc (first := []) (cap := []) T rfl rfl rfl rfl evf (.cons evc (.cons evc .nil)) Tryd.func6 rfl rfl ?_
  refine Calls.mono (to_any 40 41 _) ?_
  clear T; rintro e wc ⟨rfl, hb⟩ ac T
  replace M := M.call hb; clear hb
  refine Zso hK _ _ (M.mask [true, true, true] rfl) ?_; clear hK K
  refine g_q (v := (.agg #[.int .i64 (-6), .int .i64 0, .int .i64 26, .int .i64 30, .int .i64 40, .int .i64 41])) (T := T) (i := 47) rfl (by kernel_rfl) (by kernel_rfl : (Zpb 50 140737488355327).setIfInBounds 47 true = Zpb 50 281474976710655) si_U (fun _ _ _ h => h) (Zwy rfl rfl (T.e 4 rfl) rfl) rfl rfl rfl (fun _ _ _ _ _ => (rn_build rfl (.cons (T.e 2 rfl) (.cons (T.e 1 rfl) (.cons (T.e 0 rfl) .nil))) (fun _ => by kernel_rfl))) ?_; clear T ac; intro ac T
  refine g_q (v := (.bool false)) (T := T) (i := 48) rfl (by kernel_rfl) (by kernel_rfl : (Zpb 50 281474976710655).setIfInBounds 48 true = Zpb 50 562949953421311) si_U (fun _ _ _ h => h) (Zwy rfl rfl (T.e 5 rfl) rfl) rfl rfl rfl (fun _ _ _ _ _ => (Zrq (rn_bin rfl (T.e 4 rfl) (T.e 0 rfl) neT25) (by simp))) ?_; clear T ac; intro ac T
  refine gq T 49 1125899906842623 rfl (fun _ _ _ _ _ => (Zr0 rfl (T.e 6 rfl) rfl (T.e 0 rfl))) ?_; clear T ac; intro ac T
  refine Zgd (by kernel_rfl) ?_
  replace T := T.pick [0] rfl
  replace M := M.mask [false, true, true] rfl
  refine nm_then ?_
  refine wp_cond_false (T.e 0 rfl) ?_
  refine Zsk ?_
  refine Zsr ?_
  refine Zl2 ?_
  refine ow_bs (e := 3) [.int .i64 1, .int .i64 1] M T rfl rfl rfl rfl (.cons evc (.cons evc .nil)) (fun _ => by kernel_rfl) ?_; clear M T; intro g22 wc ac M T
  refine Zl2 ?_
  refine ow_bs (e := 3) [.int .i64 1, .int .i64 1, .int .i64 1] M T rfl rfl rfl rfl (.cons evc (.cons evc (.cons evc .nil))) (fun _ => by kernel_rfl) ?_; clear M T; intro g23 wc ac M T
  refine Zl2 ?_
  refine ow_bs (e := 39) [.slice (some ⟨g22, 0, none⟩) 2 2, .slice (some ⟨g23, 0, none⟩) 3 3, .slice none 0 0] M T rfl rfl rfl rfl (.cons (T.e 1 rfl) (.cons (T.e 0 rfl) (.cons evc .nil))) (fun _ => by kernel_rfl) ?_; clear M T; intro g24 wc ac M T
  refine Zl2 ?_
  refine ow_bs (e := 3) [.int .i64 3, .int .i64 3, .int .i64 2] M T rfl rfl rfl rfl (.cons evc (.cons evc (.cons evc .nil))) (fun _ => by kernel_rfl) ?_; clear M T; intro g25 wc ac M T
  refine Zg2 T (Zq (Zra rfl (T.e 1 rfl))) rfl (Za 1 rfl rfl) rfl ?_; clear T ac; intro ac T
  replace T := T.pick [0, 1] rfl
  refine Zln ?_
  refine wp_seq ?_
  refine Zsr ?_
  refine lq T (Zra rfl evc) ?_; clear T ac; intro ac T
  refine Zln ?_
  refine wp_block ?_
  refine wp_loop_rounds 4 ?_
  refine rounds_S ?_
  refine wp_seq ?_
  refine Zsr ?_
  refine Zg4 (v3 := (.int .i64 3)) (v4 := (.bool true)) T (Zq (Zrm rfl (T.e 0 rfl))) rfl (Zm 3 rfl rfl) rfl (Zl Tryd.underlying46 0 rfl rfl) rfl (fun _ T => Zq (Zrq (rn_lss rfl (T.e 2 rfl) (T.e 0 rfl)) (by simp))) rfl ?_; clear T ac; intro ac T
  replace T := T.pick [0, 4, 5, 6] rfl
  refine Zln ?_
  refine wp_cond_true (T.e 0 rfl) ?_
  refine Zsk ?_
  refine wp_seq ?_
  refine wp_block ?_
  refine wp_seq ?_
  refine Zgs M (M.mask [true, true, true, true, true, true] rfl) 11 (by kernel_rfl) rfl (by kernel_rfl) ?_
  clear M; intro wc M
  refine gq T 1 2 rfl (fun _ _ _ _ _ => (Zrm rfl (T.e 3 rfl))) ?_; clear T ac; intro ac T
  refine gq T 2 6 rfl (fun _ _ _ _ _ => (Zrm rfl (T.e 2 rfl))) ?_; clear T ac; intro ac T
  refine gq (v := (.pointer (some ⟨g24, 0, none⟩))) T 3 14 rfl (fun _ _ _ _ _ => (Zri (size := 1) 0 rfl (T.e 1 rfl) (T.e 0 rfl) ⟨_, Tryd.underlying46, by kernel_rfl⟩ rfl (by decide) rfl)) ?_; clear T ac; intro ac T
  refine gq T 4 30 rfl (fun B w' hD hl hS => (Zro (Mem.nth (show Mem w noEx w' _ from hS) 1 rfl) rfl (T.e 0 rfl) rfl)) ?_; clear T ac; intro ac T
  refine gw 0 31 ?_; intro K hK
  refine Zoc (first := []) (cap := []) T rfl rfl rfl rfl evf .nil Tryd.func5 rfl rfl ?_
  refine Calls.mono (flat_any _) ?_
  clear T; rintro e wc ⟨gu50, rfl, N⟩ ac T
  replace M := M.join N; clear N
  replace M := M.mask [true, true, true, true, true, true, true] rfl
  refine Zso hK _ _ (M.mask [false, true, true, true, true, true, true] rfl) ?_; clear hK K
  refine gw 5 63 ?_; intro K hK
  refine Zoc (first := []) (cap := []) T rfl rfl rfl rfl evf (.cons (T.e 0 rfl) (.cons (T.e 1 rfl) .nil)) Tryd.func16 rfl rfl ?_
  refine Calls.mono (kex18 (some ⟨gu50, 0, none⟩) 2 (some ⟨g22, 0, none⟩) 2 _ (M.rdOwn (Zne (i := 0) rfl) rfl rfl) (M.rdOwn (Zne (i := 4) rfl) rfl rfl)) ?_
  clear T; rintro e wc ⟨rfl, hb⟩ ac T
  replace M := M.call hb; clear hb
  refine Zso hK _ _ (M.mask [false, true, true, true, true, true, true] rfl) ?_; clear hK K
  refine gq T 6 127 rfl (fun _ _ _ _ _ => (Zrm rfl (T.e 0 rfl))) ?_; clear T ac; intro ac T
  refine gq T 7 255 rfl (fun _ _ _ _ _ => (Zre rfl (T.e 0 rfl) rfl)) ?_; clear T ac; intro ac T
  refine gq T 8 511 rfl (fun _ _ _ _ _ => (Zre rfl (T.e 1 rfl) rfl)) ?_; clear T ac; intro ac T
  refine gq T 9 1023 rfl (fun _ _ _ _ _ => (Zra rfl (T.e 1 rfl))) ?_; clear T ac; intro ac T
  refine gq T 10 2047 rfl (fun _ _ _ _ _ => (Zra rfl (T.e 1 rfl))) ?_; clear T ac; intro ac T
  refine Zgd (by kernel_rfl) ?_
  replace T := T.pick [0, 1, 12, 13, 14] rfl
  replace M := M.mask [false, true, true, true, true, true, true] rfl
  refine nm_then ?_
  refine Zsr ?_
  refine Zg8 (v2 := (.bool false)) (v7 := (.pointer (some ⟨g25, 0, none⟩))) T (Zq (Zrm rfl (T.e 0 rfl))) rfl (fun _ T => Zq (Zrq (rn_neq rfl (T.e 0 rfl) evc) (by simp))) rfl (Zm 0 rfl rfl) rfl (fun _ T => Zw (Zwy rfl rfl (T.e 0 rfl) rfl) (Zrm rfl (T.e 4 rfl))) rfl (fun _ T => Zw (Zwy rfl rfl (T.e 1 rfl) rfl) (Zrm rfl (T.e 7 rfl))) rfl (fun _ T => Zw (Zwy rfl rfl (T.e 2 rfl) rfl) (Zrm rfl (T.e 7 rfl))) rfl (fun _ T => Zw (Zwy rfl rfl (T.e 3 rfl) rfl) (Zri (size := 1) 0 rfl (T.e 1 rfl) (T.e 0 rfl) ⟨_, Tryd.underlying39, by kernel_rfl⟩ rfl (by decide) rfl)) rfl (fun _ T => Zw (Zwy rfl rfl (T.e 4 rfl) rfl) (Zro (Mem.nth M 0 rfl) rfl (T.e 0 rfl) rfl)) rfl ?_; clear T ac; intro ac T
  refine Zg2 (v1 := (.bool false)) T (Zw (Zwy rfl rfl (T.e 5 rfl) rfl) (Zrq (rn_neq rfl (T.e 4 rfl) (T.e 0 rfl)) (by simp))) rfl (fun _ T => Zq (Zr0 rfl (T.e 6 rfl) rfl (T.e 0 rfl))) rfl ?_; clear T ac; intro ac T
  replace T := T.pick [0, 1, 2, 3, 4, 5, 6, 12, 13, 14] rfl
  refine Zln ?_
  refine wp_cond_false (T.e 0 rfl) ?_
  refine wp_skip ?_
  refine Znb ?_
  refine nm_then ?_
  refine wp_region_lit ?_
  refine Zg2 (v2 := (.int .i64 1)) T (Zq (Zrm rfl (T.e 7 rfl))) rfl (fun _ T => Zq (rn_ofI (rn_add rfl (T.e 0 rfl) evc (by omega)) (by rfl))) rfl ?_; clear T ac; intro ac T
  refine l_q (v := (.int .i64 1)) (T.pick [0, 1, 2, 3, 4, 5, 6, 7, 8, 10, 11] rfl) rfl rfl rfl rfl (Zra rfl (T.e 0 rfl)) ?_; clear T ac; intro ac T
  replace T := T.pick [0, 4, 5, 6, 7, 8, 9, 10, 11] rfl
  refine Zln ?_
  refine rounds_S ?_
  refine wp_seq ?_
  refine Zsr ?_
  refine Zg4 (v3 := (.int .i64 3)) (v4 := (.bool true)) T (Zq (Zrm rfl (T.e 0 rfl))) rfl (Zm 9 rfl rfl) rfl (Zl Tryd.underlying46 0 rfl rfl) rfl (fun _ T => Zq (Zrq (rn_lss rfl (T.e 2 rfl) (T.e 0 rfl)) (by simp))) rfl ?_; clear T ac; intro ac T
  replace T := T.pick [0, 4, 5, 6, 7, 8, 9, 10, 11, 12] rfl
  refine Zln ?_
  refine wp_cond_true (T.e 0 rfl) ?_
  refine Zsk ?_
  refine wp_seq ?_
  refine wp_block ?_
  refine wp_seq ?_
  refine Zgs M (M.mask [true, true, true, true, true, true] rfl) 11 (by kernel_rfl) rfl (by kernel_rfl) ?_
  clear M; intro wc M
  refine gq T 1 2 rfl (fun _ _ _ _ _ => (Zrm rfl (T.e 9 rfl))) ?_; clear T ac; intro ac T
  refine gq T 2 6 rfl (fun _ _ _ _ _ => (Zrm rfl (T.e 2 rfl))) ?_; clear T ac; intro ac T
  refine gq (v := (.pointer (some ⟨g24, 1, none⟩))) T 3 14 rfl (fun _ _ _ _ _ => (Zri (size := 1) 1 rfl (T.e 1 rfl) (T.e 0 rfl) ⟨_, Tryd.underlying46, by kernel_rfl⟩ rfl (by decide) rfl)) ?_; clear T ac; intro ac T
  refine gq T 4 30 rfl (fun B w' hD hl hS => (Zro (Mem.nth (show Mem w noEx w' _ from hS) 1 rfl) rfl (T.e 0 rfl) rfl)) ?_; clear T ac; intro ac T
  refine gw 0 31 ?_; intro K hK
  refine Zoc (first := []) (cap := []) T rfl rfl rfl rfl evf .nil Tryd.func5 rfl rfl ?_
  refine Calls.mono (flat_any _) ?_
  clear T; rintro e wc ⟨gu52, rfl, N⟩ ac T
  replace M := M.join N; clear N
  replace M := M.mask [true, true, true, true, true, true, true] rfl
  refine Zso hK _ _ (M.mask [false, true, true, true, true, true, true] rfl) ?_; clear hK K
  refine gw 5 63 ?_; intro K hK
  refine Zoc (first := []) (cap := []) T rfl rfl rfl rfl evf (.cons (T.e 0 rfl) (.cons (T.e 1 rfl) .nil)) Tryd.func16 rfl rfl ?_
  refine Calls.mono (kex19 (some ⟨gu52, 0, none⟩) 2 (some ⟨g23, 0, none⟩) 3 _ (M.rdOwn (Zne (i := 0) rfl) rfl rfl) (M.rdOwn (Zne (i := 3) rfl) rfl rfl)) ?_
  clear T; rintro e wc ⟨rfl, hb⟩ ac T
  replace M := M.call hb; clear hb
  refine Zso hK _ _ (M.mask [false, true, true, true, true, true, true] rfl) ?_; clear hK K
  refine gq T 6 127 rfl (fun _ _ _ _ _ => (Zrm rfl (T.e 0 rfl))) ?_; clear T ac; intro ac T
  refine gq T 7 255 rfl (fun _ _ _ _ _ => (Zre rfl (T.e 0 rfl) rfl)) ?_; clear T ac; intro ac T
  refine gq T 8 511 rfl (fun _ _ _ _ _ => (Zre rfl (T.e 1 rfl) rfl)) ?_; clear T ac; intro ac T
  refine gq T 9 1023 rfl (fun _ _ _ _ _ => (Zra rfl (T.e 1 rfl))) ?_; clear T ac; intro ac T
  refine gq T 10 2047 rfl (fun _ _ _ _ _ => (Zra rfl (T.e 1 rfl))) ?_; clear T ac; intro ac T
  refine Zgd (by kernel_rfl) ?_
  replace T := T.pick [0, 1, 12, 13, 14, 15, 16, 17, 18, 19, 20] rfl
  replace M := M.mask [false, true, true, true, true, true, true] rfl
  refine nm_then ?_
  refine Zsr ?_
  refine Zg3 (v2 := (.bool false)) T (Zq (Zrm rfl (T.e 0 rfl))) rfl (fun _ T => Zq (Zrq (rn_neq rfl (T.e 0 rfl) evc) (by simp))) rfl (Zm 0 rfl rfl) rfl ?_; clear T ac; intro ac T
  refine l_q (v := (.int .i64 3)) (T.pick [0, 1, 2, 3, 4, 5, 6, 7, 8, 9, 10, 12, 13] rfl) (Zwy rfl rfl (T.e 0 rfl) rfl) rfl rfl rfl (Zrm rfl (T.e 4 rfl)) ?_; clear T ac; intro ac T
  refine l_q (v := (.slice (some ⟨g25, 0, none⟩) 3 3)) (T.pick [0, 1, 2, 3, 4, 5, 6, 7, 8, 9, 10, 12, 13] rfl) (Zwy rfl rfl (T.e 1 rfl) rfl) rfl rfl rfl (Zrm rfl (T.e 12 rfl)) ?_; clear T ac; intro ac T
  refine l_q (v := (.int .i64 1)) (T.pick [0, 1, 2, 3, 4, 5, 6, 7, 8, 9, 10, 12, 13] rfl) (Zwy rfl rfl (T.e 2 rfl) rfl) rfl rfl rfl (Zrm rfl (T.e 7 rfl)) ?_; clear T ac; intro ac T
  refine l_q (v := (.pointer (some ⟨g25, 1, none⟩))) (T.pick [0, 1, 2, 3, 4, 5, 6, 7, 8, 9, 10, 12, 13] rfl) (Zwy rfl rfl (T.e 3 rfl) rfl) rfl rfl rfl (Zri (size := 1) 1 rfl (T.e 1 rfl) (T.e 0 rfl) ⟨_, Tryd.underlying39, by kernel_rfl⟩ rfl (by decide) rfl) ?_; clear T ac; intro ac T
  refine l_q (v := (.int .i64 3)) (T.pick [0, 1, 2, 3, 4, 5, 6, 7, 8, 9, 10, 12, 13] rfl) (Zwy rfl rfl (T.e 4 rfl) rfl) rfl rfl rfl (Zro (Mem.nth M 0 rfl) rfl (T.e 0 rfl) rfl) ?_; clear T ac; intro ac T
  refine l_q (v := (.bool false)) (T.pick [0, 1, 2, 3, 4, 5, 6, 7, 8, 9, 10, 12, 13] rfl) (Zwy rfl rfl (T.e 5 rfl) rfl) rfl rfl rfl (Zrq (rn_neq rfl (T.e 4 rfl) (T.e 0 rfl)) (by simp)) ?_; clear T ac; intro ac T
  refine lq T (Zr0 rfl (T.e 6 rfl) rfl (T.e 0 rfl)) ?_; clear T ac; intro ac T
  replace T := T.pick [0, 1, 2, 3, 4, 5, 6, 12, 13, 14] rfl
  refine Zln ?_
  refine wp_cond_false (T.e 0 rfl) ?_
  refine wp_skip ?_
  refine Znb ?_
  refine nm_then ?_
  refine wp_region_lit ?_
  refine Zg2 (v2 := (.int .i64 2)) T (Zq (Zrm rfl (T.e 7 rfl))) rfl (fun _ T => Zq (rn_ofI (rn_add rfl (T.e 0 rfl) evc (by omega)) (by rfl))) rfl ?_; clear T ac; intro ac T
  refine l_q (v := (.int .i64 2)) (T.pick [0, 1, 2, 3, 4, 5, 6, 7, 8, 10, 11] rfl) rfl rfl rfl rfl (Zra rfl (T.e 0 rfl)) ?_; clear T ac; intro ac T
  replace T := T.pick [0, 4, 5, 6, 7, 8, 9, 10, 11] rfl
  refine Zln ?_
  refine rounds_S ?_
  refine wp_seq ?_
  refine Zsr ?_
  refine Zg4 (v3 := (.int .i64 3)) (v4 := (.bool true)) T (Zq (Zrm rfl (T.e 0 rfl))) rfl (Zm 9 rfl rfl) rfl (Zl Tryd.underlying46 0 rfl rfl) rfl (fun _ T => Zq (Zrq (rn_lss rfl (T.e 2 rfl) (T.e 0 rfl)) (by simp))) rfl ?_; clear T ac; intro ac T
  replace T := T.pick [0, 4, 5, 6, 7, 8, 9, 10, 11, 12] rfl
  refine Zln ?_
  refine wp_cond_true (T.e 0 rfl) ?_
  refine Zsk ?_
  refine wp_seq ?_
  refine wp_block ?_
  refine wp_seq ?_
  refine Zgs M (M.mask [true, true, true, true, true, true] rfl) 11 (by kernel_rfl) rfl (by kernel_rfl) ?_
  clear M; intro wc M
  refine gq T 1 2 rfl (fun _ _ _ _ _ => (Zrm rfl (T.e 9 rfl))) ?_; clear T ac; intro ac T
  refine gq T 2 6 rfl (fun _ _ _ _ _ => (Zrm rfl (T.e 2 rfl))) ?_; clear T ac; intro ac T
  refine gq (v := (.pointer (some ⟨g24, 2, none⟩))) T 3 14 rfl (fun _ _ _ _ _ => (Zri (size := 1) 2 rfl (T.e 1 rfl) (T.e 0 rfl) ⟨_, Tryd.underlying46, by kernel_rfl⟩ rfl (by decide) rfl)) ?_; clear T ac; intro ac T
  refine gq T 4 30 rfl (fun B w' hD hl hS => (Zro (Mem.nth (show Mem w noEx w' _ from hS) 1 rfl) rfl (T.e 0 rfl) rfl)) ?_; clear T ac; intro ac T
  refine gw 0 31 ?_; intro K hK
  refine Zoc (first := []) (cap := []) T rfl rfl rfl rfl evf .nil Tryd.func5 rfl rfl ?_
  refine Calls.mono (flat_any _) ?_
  clear T; rintro e wc ⟨gu54, rfl, N⟩ ac T
  replace M := M.join N; clear N
  replace M := M.mask [true, true, true, true, true, true, true] rfl
  refine Zso hK _ _ (M.mask [false, true, true, true, true, true, true] rfl) ?_; clear hK K
  refine gw 5 63 ?_; intro K hK
  refine Zoc (first := []) (cap := []) T rfl rfl rfl rfl evf (.cons (T.e 0 rfl) (.cons (T.e 1 rfl) .nil)) Tryd.func16 rfl rfl ?_
  refine Calls.mono (kex20 (some ⟨gu54, 0, none⟩) 2 none 0 _ (M.rdOwn (Zne (i := 0) rfl) rfl rfl) (Rd.none0 M)) ?_
  clear T; rintro e wc ⟨rfl, hb⟩ ac T
  replace M := M.call hb; clear hb
  refine Zso hK _ _ (M.mask [false, true, true, true, true, true, true] rfl) ?_; clear hK K
  refine gq T 6 127 rfl (fun _ _ _ _ _ => (Zrm rfl (T.e 0 rfl))) ?_; clear T ac; intro ac T
  refine gq T 7 255 rfl (fun _ _ _ _ _ => (Zre rfl (T.e 0 rfl) rfl)) ?_; clear T ac; intro ac T
  refine gq T 8 511 rfl (fun _ _ _ _ _ => (Zre rfl (T.e 1 rfl) rfl)) ?_; clear T ac; intro ac T
  refine gq T 9 1023 rfl (fun _ _ _ _ _ => (Zra rfl (T.e 1 rfl))) ?_; clear T ac; intro ac T
  refine gq T 10 2047 rfl (fun _ _ _ _ _ => (Zra rfl (T.e 1 rfl))) ?_; clear T ac; intro ac T
  refine Zgd (by kernel_rfl) ?_
  replace T := T.pick [0, 1, 12, 13, 14, 15, 16, 17, 18, 19, 20] rfl
  replace M := M.mask [false, true, true, true, true, true, true] rfl
  refine nm_then ?_
  refine Zsr ?_
  refine Zg3 (v2 := (.bool false)) T (Zq (Zrm rfl (T.e 0 rfl))) rfl (fun _ T => Zq (Zrq (rn_neq rfl (T.e 0 rfl) evc) (by simp))) rfl (Zm 0 rfl rfl) rfl ?_; clear T ac; intro ac T
  refine l_q (v := (.int .i64 2)) (T.pick [0, 1, 2, 3, 4, 5, 6, 7, 8, 9, 10, 12, 13] rfl) (Zwy rfl rfl (T.e 0 rfl) rfl) rfl rfl rfl (Zrm rfl (T.e 4 rfl)) ?_; clear T ac; intro ac T
  refine l_q (v := (.slice (some ⟨g25, 0, none⟩) 3 3)) (T.pick [0, 1, 2, 3, 4, 5, 6, 7, 8, 9, 10, 12, 13] rfl) (Zwy rfl rfl (T.e 1 rfl) rfl) rfl rfl rfl (Zrm rfl (T.e 12 rfl)) ?_; clear T ac; intro ac T
  refine l_q (v := (.int .i64 2)) (T.pick [0, 1, 2, 3, 4, 5, 6, 7, 8, 9, 10, 12, 13] rfl) (Zwy rfl rfl (T.e 2 rfl) rfl) rfl rfl rfl (Zrm rfl (T.e 7 rfl)) ?_; clear T ac; intro ac T
  refine l_q (v := (.pointer (some ⟨g25, 2, none⟩))) (T.pick [0, 1, 2, 3, 4, 5, 6, 7, 8, 9, 10, 12, 13] rfl) (Zwy rfl rfl (T.e 3 rfl) rfl) rfl rfl rfl (Zri (size := 1) 2 rfl (T.e 1 rfl) (T.e 0 rfl) ⟨_, Tryd.underlying39, by kernel_rfl⟩ rfl (by decide) rfl) ?_; clear T ac; intro ac T
  refine l_q (v := (.int .i64 2)) (T.pick [0, 1, 2, 3, 4, 5, 6, 7, 8, 9, 10, 12, 13] rfl) (Zwy rfl rfl (T.e 4 rfl) rfl) rfl rfl rfl (Zro (Mem.nth M 0 rfl) rfl (T.e 0 rfl) rfl) ?_; clear T ac; intro ac T
  refine l_q (v := (.bool false)) (T.pick [0, 1, 2, 3, 4, 5, 6, 7, 8, 9, 10, 12, 13] rfl) (Zwy rfl rfl (T.e 5 rfl) rfl) rfl rfl rfl (Zrq (rn_neq rfl (T.e 4 rfl) (T.e 0 rfl)) (by simp)) ?_; clear T ac; intro ac T
  refine lq T (Zr0 rfl (T.e 6 rfl) rfl (T.e 0 rfl)) ?_; clear T ac; intro ac T
  replace T := T.pick [0, 1, 2, 3, 4, 5, 6, 12, 13, 14] rfl
  refine Zln ?_
  refine wp_cond_false (T.e 0 rfl) ?_
  refine wp_skip ?_
  refine Znb ?_
  refine nm_then ?_
  refine wp_region_lit ?_
  refine Zg2 (v2 := (.int .i64 3)) T (Zq (Zrm rfl (T.e 7 rfl))) rfl (fun _ T => Zq (rn_ofI (rn_add rfl (T.e 0 rfl) evc (by omega)) (by rfl))) rfl ?_; clear T ac; intro ac T
  refine l_q (v := (.int .i64 3)) (T.pick [0, 1, 2, 3, 4, 5, 6, 7, 8, 10, 11] rfl) rfl rfl rfl rfl (Zra rfl (T.e 0 rfl)) ?_; clear T ac; intro ac T
  replace T := T.pick [0, 4, 5, 6, 7, 8, 9, 10, 11] rfl
  refine Zln ?_
  refine rounds_S ?_
  refine wp_seq ?_
  refine Zsr ?_
  refine Zg4 (v3 := (.int .i64 3)) (v4 := (.bool false)) T (Zq (Zrm rfl (T.e 0 rfl))) rfl (Zm 9 rfl rfl) rfl (Zl Tryd.underlying46 0 rfl rfl) rfl (fun _ T => Zq (Zrq (rn_lss rfl (T.e 2 rfl) (T.e 0 rfl)) (by simp))) rfl ?_; clear T ac; intro ac T
  replace T := T.pick [0, 4, 5, 6, 7, 8, 9, 10, 11, 12] rfl
  refine Zln ?_
  refine wp_cond_false (T.e 0 rfl) ?_
  refine wp_exit ?_
  refine Zet ?_
  refine Zet ?_
  refine ex_hit ?_
  refine nm_then ?_
  refine Zsr ?_
  refine Zl2 ?_
  refine Zoc (first := []) (cap := []) T rfl rfl rfl rfl evf .nil Tryd.func17 rfl rfl ?_
  refine Calls.mono (games_any _ (hT.mem0 M)) ?_
  clear T; rintro e wc ⟨rfl, hb⟩ ac T
  replace M := M.call hb; clear hb
  refine lq T (Zra rfl (T.e 0 rfl)) ?_; clear T ac; intro ac T
  refine wpList_nil ?_
  replace T := T.pick [0] rfl
  replace M := M.mask [false, false, false, false, true, true] rfl
  refine Znr ?_
  refine rt_1 T rfl (T.e 0 rfl) ?_
  exact ⟨rfl, M.below⟩
 intro H2
 refine g_have (fun ac wc => ∃ (lmgr2_1 : List (Int × Int)), (lmgr2_1 = List.replicate 5 (0, 0)) ∧ (lmgr2_1.length = 5) ∧ ∃ (gr2_1 : Nat), Tm ac 289 [(43, .slice (some ⟨gr2_1, 0, none⟩) 5 5), (47, .pointer (some ⟨g2, 14, none⟩)), (46, .pointer (some ⟨g2, 6, none⟩)), (45, .pointer (some ⟨g1, 2, none⟩)), (44, .pointer (some ⟨g1, 0, none⟩)), (42, .agg #[.int .i64 32, .int .i64 30]), (7, .pointer (some ⟨g7, 0, none⟩)), (6, .pointer (some ⟨g6, 0, none⟩)), (5, .pointer (some ⟨g5, 0, none⟩)), (4, .pointer (some ⟨g4, 0, none⟩)), (3, .pointer (some ⟨g3, 0, none⟩)), (2, .pointer (some ⟨g2, 0, none⟩)), (1, .pointer (some ⟨g1, 0, none⟩))] ∧ Mem w noEx wc ((gr2_1, .cells (rc lmgr2_1 ++ [])) :: (g7, .cells [.int .i64 (-12), .int .i64 (-8), .int .i64 30, .int .i64 32, .int .i64 40, .int .i64 41, .int .i64 3, .int .i64 4, .int .i64 2, .int .i64 3, .int .i64 1, .int .i64 2, .int .i64 1, .int .i64 1, .int .i64 20, .slice (some ⟨gu7, 0, none⟩) 2 2, .int .i64 5, .int .i64 1]) :: (g6, .cells [.int .i64 (-12), .int .i64 (-8), .int .i64 30, .int .i64 32, .int .i64 40, .int .i64 41, .int .i64 3, .int .i64 4, .int .i64 2, .int .i64 3, .int .i64 1, .int .i64 2, .int .i64 1, .int .i64 1, .int .i64 20, .slice Aw 2 2, .int .i64 5, .int .i64 1]) :: (g5, .cells [.int .i64 (-12), .int .i64 (-8), .int .i64 30, .int .i64 32, .int .i64 40, .int .i64 41, .int .i64 3, .int .i64 4, .int .i64 2, .int .i64 3, .int .i64 1, .int .i64 2, .int .i64 1, .int .i64 1, .int .i64 20, .slice (some ⟨gu5, 0, none⟩) 2 2, .int .i64 5, .int .i64 1]) :: (g4, .cells [.int .i64 (-12), .int .i64 (-8), .int .i64 30, .int .i64 32, .int .i64 40, .int .i64 41, .int .i64 3, .int .i64 4, .int .i64 2, .int .i64 3, .int .i64 1, .int .i64 2, .int .i64 1, .int .i64 1, .int .i64 20, .slice (some ⟨gu4, 0, none⟩) 2 2, .int .i64 5, .int .i64 1]) :: (g3, .cells [.int .i64 (-12), .int .i64 (-8), .int .i64 30, .int .i64 32, .int .i64 40, .int .i64 41, .int .i64 3, .int .i64 4, .int .i64 2, .int .i64 3, .int .i64 1, .int .i64 2, .int .i64 1, .int .i64 1, .int .i64 20, .slice (some ⟨gu3, 0, none⟩) 2 2, .int .i64 5, .int .i64 1]) :: (g2, .cells [.int .i64 (-12), .int .i64 (-8), .int .i64 30, .int .i64 32, .int .i64 40, .int .i64 41, .int .i64 3, .int .i64 4, .int .i64 2, .int .i64 3, .int .i64 1, .int .i64 2, .int .i64 1, .int .i64 1, .int .i64 20, .slice (some ⟨gu2, 0, none⟩) 2 2, .int .i64 5, .int .i64 1]) :: (g1, .cells [.int .i64 (-12), .int .i64 (-8), .int .i64 32, .int .i64 30, .int .i64 40, .int .i64 41, .int .i64 3, .int .i64 4, .int .i64 2, .int .i64 3, .int .i64 1, .int .i64 2, .int .i64 1, .int .i64 1, .int .i64 20, .slice (some ⟨gu1, 0, none⟩) 2 2, .int .i64 5, .int .i64 1]) :: (gu7, .cells [.int .i64 (-2), .int .i64 1, .int .i64 0, .int .i64 3]) :: (gu5, .cells [.int .i64 (-2), .int .i64 1, .int .i64 0, .int .i64 3]) :: (gu4, .cells [.int .i64 (-2), .int .i64 1, .int .i64 0, .int .i64 3]) :: (gu3, .cells [.int .i64 (-2), .int .i64 1, .int .i64 0, .int .i64 3]) :: (gu2, .cells [.int .i64 (-2), .int .i64 1, .int .i64 0, .int .i64 3]) :: (gu1, .cells [.int .i64 (-2), .int .i64 1, .int .i64 0, .int .i64 3]) :: Iw)) (Zpb 17 127) 10 ?_ ?_
 ·clear T M
  rintro ac wc ⟨lmgr2_1, hlmgr2_1, llmgr2_1, gr2_1, T, M⟩
  refine gw 7 255 ?_; intro K hK
  refine Zos M T rfl rfl (T.e 1 rfl) evc rfl (.tail (.tail (.tail (.tail (.tail (.tail .head)))))) rfl (by simp) rfl (by kernel_rfl) ?_; clear M T; intro wc ac M T
  refine Zso hK _ _ (MA.mk (fun _ => M.mask [false, true, true, false, false, false, false, false, true, true, true, true, true, true] rfl) (MA.mk (fun _ => M.mask [false, true, true, true, false, false, false, false, true, true, true, true, true, true] rfl) (MA.mk (fun _ => M.mask [false, true, true, true, true, false, false, false, true, true, true, true, true, true] rfl) (MA.mk (fun _ => M.mask [false, true, true, true, true, true, false, false, true, true, true, true, true, true] rfl) (MA.mk (fun h => (no_of (by kernel_rfl) h).elim) (MA.mk (fun h => (no_of (by kernel_rfl) h).elim) (M.mask [false, false, true, false, false, false, false, false, true, true, true, true, true, true] rfl))))))) ?_; clear hK K
  exact H2 _ _ ⟨lmgr2_1, hlmgr2_1, llmgr2_1, gr2_1, T, M⟩
 intro H1
 refine g_have (fun ac wc => ∃ (lmgr2_1 : List (Int × Int)), (lmgr2_1 = List.replicate 5 (0, 0)) ∧ (lmgr2_1.length = 5) ∧ ∃ (gr2_1 : Nat), Tm ac 289 [(43, .slice (some ⟨gr2_1, 0, none⟩) 5 5), (45, .pointer (some ⟨g1, 2, none⟩)), (44, .pointer (some ⟨g1, 0, none⟩)), (42, .agg #[.int .i64 32, .int .i64 30]), (7, .pointer (some ⟨g7, 0, none⟩)), (6, .pointer (some ⟨g6, 0, none⟩)), (5, .pointer (some ⟨g5, 0, none⟩)), (4, .pointer (some ⟨g4, 0, none⟩)), (3, .pointer (some ⟨g3, 0, none⟩)), (2, .pointer (some ⟨g2, 0, none⟩)), (1, .pointer (some ⟨g1, 0, none⟩))] ∧ Mem w noEx wc ((gr2_1, .cells (rc lmgr2_1 ++ [])) :: (g7, .cells [.int .i64 (-12), .int .i64 (-8), .int .i64 30, .int .i64 32, .int .i64 40, .int .i64 41, .int .i64 3, .int .i64 4, .int .i64 2, .int .i64 3, .int .i64 1, .int .i64 2, .int .i64 1, .int .i64 1, .int .i64 20, .slice (some ⟨gu7, 0, none⟩) 2 2, .int .i64 5, .int .i64 1]) :: (g6, .cells [.int .i64 (-12), .int .i64 (-8), .int .i64 30, .int .i64 32, .int .i64 40, .int .i64 41, .int .i64 3, .int .i64 4, .int .i64 2, .int .i64 3, .int .i64 1, .int .i64 2, .int .i64 1, .int .i64 1, .int .i64 20, .slice Aw 2 2, .int .i64 5, .int .i64 1]) :: (g5, .cells [.int .i64 (-12), .int .i64 (-8), .int .i64 30, .int .i64 32, .int .i64 40, .int .i64 41, .int .i64 3, .int .i64 4, .int .i64 2, .int .i64 3, .int .i64 1, .int .i64 2, .int .i64 1, .int .i64 1, .int .i64 20, .slice (some ⟨gu5, 0, none⟩) 2 2, .int .i64 5, .int .i64 1]) :: (g4, .cells [.int .i64 (-12), .int .i64 (-8), .int .i64 30, .int .i64 32, .int .i64 40, .int .i64 41, .int .i64 3, .int .i64 4, .int .i64 2, .int .i64 3, .int .i64 1, .int .i64 2, .int .i64 1, .int .i64 1, .int .i64 20, .slice (some ⟨gu4, 0, none⟩) 2 2, .int .i64 5, .int .i64 1]) :: (g3, .cells [.int .i64 (-12), .int .i64 (-8), .int .i64 30, .int .i64 32, .int .i64 40, .int .i64 41, .int .i64 3, .int .i64 4, .int .i64 2, .int .i64 3, .int .i64 1, .int .i64 2, .int .i64 1, .int .i64 1, .int .i64 20, .slice (some ⟨gu3, 0, none⟩) 2 2, .int .i64 5, .int .i64 1]) :: (g2, .cells [.int .i64 (-12), .int .i64 (-8), .int .i64 30, .int .i64 32, .int .i64 40, .int .i64 41, .int .i64 3, .int .i64 4, .int .i64 2, .int .i64 3, .int .i64 1, .int .i64 2, .int .i64 1, .int .i64 1, .int .i64 20, .slice (some ⟨gu2, 0, none⟩) 2 2, .int .i64 5, .int .i64 1]) :: (g1, .cells [.int .i64 (-12), .int .i64 (-8), .int .i64 30, .int .i64 32, .int .i64 40, .int .i64 41, .int .i64 3, .int .i64 4, .int .i64 2, .int .i64 3, .int .i64 1, .int .i64 2, .int .i64 1, .int .i64 1, .int .i64 20, .slice (some ⟨gu1, 0, none⟩) 2 2, .int .i64 5, .int .i64 1]) :: (gu7, .cells [.int .i64 (-2), .int .i64 1, .int .i64 0, .int .i64 3]) :: (gu5, .cells [.int .i64 (-2), .int .i64 1, .int .i64 0, .int .i64 3]) :: (gu4, .cells [.int .i64 (-2), .int .i64 1, .int .i64 0, .int .i64 3]) :: (gu3, .cells [.int .i64 (-2), .int .i64 1, .int .i64 0, .int .i64 3]) :: (gu2, .cells [.int .i64 (-2), .int .i64 1, .int .i64 0, .int .i64 3]) :: (gu1, .cells [.int .i64 (-2), .int .i64 1, .int .i64 0, .int .i64 3]) :: Iw)) (Zpb 17 15) 13 ?_ ?_
 ·clear T M
  rintro ac wc ⟨lmgr2_1, hlmgr2_1, llmgr2_1, gr2_1, T, M⟩
  refine gw 4 31 ?_; intro K hK
  refine Zos M T rfl rfl (T.e 1 rfl) (T.e 3 rfl) rfl (.tail (.tail (.tail (.tail (.tail (.tail (.tail .head))))))) rfl (by simp) rfl (by kernel_rfl) ?_; clear M T; intro wc ac M T
  refine Zso hK _ _ (MA.mk (fun _ => M.mask [false, true, true, false, false, false, false, false, true, true, true, true, true, true] rfl) (MA.mk (fun _ => M.mask [false, true, true, true, false, false, false, false, true, true, true, true, true, true] rfl) (MA.mk (fun _ => M.mask [false, true, true, true, true, false, false, false, true, true, true, true, true, true] rfl) (MA.mk (fun _ => M.mask [false, true, true, true, true, true, false, false, true, true, true, true, true, true] rfl) (MA.mk (fun _ => M.mask [false, true, true, true, true, true, true, false, true, true, true, true, true, true] rfl) (MA.mk (fun h => (no_of (by kernel_rfl) h).elim) (M.mask [false, false, true, false, false, false, false, false, true, true, true, true, true, true] rfl))))))) ?_; clear hK K
  refine gq (v := (.pointer (some ⟨g2, 6, none⟩))) T 5 63 rfl (fun _ _ _ _ _ => (Zrf (off := 6) rfl (T.e 9 rfl) (fun _ _ _ => by kernel_rfl))) ?_; clear T ac; intro ac T
  refine gq (v := (.pointer (some ⟨g2, 14, none⟩))) T 6 127 rfl (fun _ _ _ _ _ => (Zrf (off := 8) rfl (T.e 0 rfl) (fun _ _ _ => by kernel_rfl))) ?_; clear T ac; intro ac T
  exact H1 _ _ ⟨lmgr2_1, hlmgr2_1, llmgr2_1, gr2_1, T.pick [2, 0, 1, 3, 4, 5, 6, 7, 8, 9, 10, 11, 12] rfl, M⟩
 intro H0
 refine g_m2 (i := 0) (j := 1) (by kernel_rfl) ?_ ?_
 ·refine gi 1 ?_; intro K hK
  refine Zoc (first := []) (cap := []) T rfl rfl rfl rfl evf (.cons evc (.cons evc .nil)) Tryd.func6 rfl rfl ?_
  refine Calls.mono (to_any 32 30 _) ?_
  clear T; rintro e wc ⟨rfl, hb⟩ ac T
  replace M := M.call hb; clear hb
  refine Zso hK _ _ (MA.mk (fun _ => M.mask [true, true, false, false, false, false, false, true, true, true, true, true, true] rfl) (MA.mk (fun _ => M.mask [true, true, true, false, false, false, false, true, true, true, true, true, true] rfl) (MA.mk (fun _ => M.mask [true, true, true, true, false, false, false, true, true, true, true, true, true] rfl) (MA.mk (fun _ => M.mask [true, true, true, true, true, false, false, true, true, true, true, true, true] rfl) (MA.mk (fun _ => M.mask [true, true, true, true, true, true, false, true, true, true, true, true, true] rfl) (MA.mk (fun _ => M.mask [true, true, true, true, true, true, true, true, true, true, true, true, true] rfl) (M.mask [false, true, false, false, false, false, false, true, true, true, true, true, true] rfl))))))) ?_; clear hK K
  refine gq (v := (.pointer (some ⟨g1, 0, none⟩))) T 2 5 rfl (fun _ _ _ _ _ => (Zrf (off := 0) rfl (T.e 7 rfl) (fun _ _ _ => by kernel_rfl))) ?_; clear T ac; intro ac T
  refine gq (v := (.pointer (some ⟨g1, 2, none⟩))) T 3 13 rfl (fun _ _ _ _ _ => (Zrf (off := 2) rfl (T.e 0 rfl) (fun _ _ _ => by kernel_rfl))) ?_; clear T ac; intro ac T
  refine g_m2 (i := 1) (j := 4) (by kernel_rfl) ?_ ?_
  ·refine gi 15 ?_; intro K hK
   refine ow_ms2 (m := 5) M T rfl rfl rfl rfl evc evc Tryd.underlying28 Tryd.info23 (by omega) ?_; clear M T; intro gr2_1 wc ac M T
   obtain ⟨lmgr2_1, hlmgr2_1⟩ : ∃ q : List (Int × Int), q = List.replicate 5 (0, 0) := ⟨_, rfl⟩
   have llmgr2_1 : lmgr2_1.length = 5 := by rw [hlmgr2_1, List.length_replicate]
   rw [← hlmgr2_1] at M
   have Ssgr2_1 := Sp.pre (w := w) (ex := noEx) (size := 2) (n := lmgr2_1.length) (g := gr2_1) (xs := rc lmgr2_1) (ys := []) (by simp [rc_length])
   refine Zso hK _ _ (MA.mk (fun _ => M.mask [false, true, true, false, false, false, false, false, true, true, true, true, true, true] rfl) (MA.mk (fun _ => M.mask [false, true, true, true, false, false, false, false, true, true, true, true, true, true] rfl) (MA.mk (fun _ => M.mask [false, true, true, true, true, false, false, false, true, true, true, true, true, true] rfl) (MA.mk (fun _ => M.mask [false, true, true, true, true, true, false, false, true, true, true, true, true, true] rfl) (MA.mk (fun _ => M.mask [false, true, true, true, true, true, true, false, true, true, true, true, true, true] rfl) (MA.mk (fun _ => M.mask [false, true, true, true, true, true, true, true, true, true, true, true, true, true] rfl) (M.mask [false, false, true, false, false, false, false, false, true, true, true, true, true, true] rfl))))))) ?_; clear hK K
   exact H0 _ _ ⟨lmgr2_1, hlmgr2_1, llmgr2_1, gr2_1, T, M⟩
  refine gi 29 ?_; intro K hK
  refine Zos M T rfl rfl (T.e 0 rfl) (T.e 2 rfl) rfl (.tail (.tail (.tail (.tail (.tail (.tail .head)))))) rfl (by simp) rfl (by kernel_rfl) ?_; clear M T; intro wc ac M T
  refine Zso hK _ _ (MA.mk (fun _ => M.mask [true, true, false, false, false, false, false, true, true, true, true, true, true] rfl) (MA.mk (fun _ => M.mask [true, true, true, false, false, false, false, true, true, true, true, true, true] rfl) (MA.mk (fun _ => M.mask [true, true, true, true, false, false, false, true, true, true, true, true, true] rfl) (MA.mk (fun _ => M.mask [true, true, true, true, true, false, false, true, true, true, true, true, true] rfl) (MA.mk (fun _ => M.mask [true, true, true, true, true, true, false, true, true, true, true, true, true] rfl) (MA.mk (fun h => (no_of (by kernel_rfl) h).elim) (M.mask [false, true, false, false, false, false, false, true, true, true, true, true, true] rfl))))))) ?_; clear hK K
  refine gq (v := (.pointer (some ⟨g2, 6, none⟩))) T 5 61 rfl (fun _ _ _ _ _ => (Zrf (off := 6) rfl (T.e 8 rfl) (fun _ _ _ => by kernel_rfl))) ?_; clear T ac; intro ac T
  refine gq (v := (.pointer (some ⟨g2, 14, none⟩))) T 6 125 rfl (fun _ _ _ _ _ => (Zrf (off := 8) rfl (T.e 0 rfl) (fun _ _ _ => by kernel_rfl))) ?_; clear T ac; intro ac T
  refine g_m2 (i := 1) (j := 7) (by kernel_rfl) ?_ ?_
  ·refine gi 127 ?_; intro K hK
   refine ow_ms2 (m := 5) M T rfl rfl rfl rfl evc evc Tryd.underlying28 Tryd.info23 (by omega) ?_; clear M T; intro gr2_1 wc ac M T
   obtain ⟨lmgr2_1, hlmgr2_1⟩ : ∃ q : List (Int × Int), q = List.replicate 5 (0, 0) := ⟨_, rfl⟩
   have llmgr2_1 : lmgr2_1.length = 5 := by rw [hlmgr2_1, List.length_replicate]
   rw [← hlmgr2_1] at M
   have Ssgr2_1 := Sp.pre (w := w) (ex := noEx) (size := 2) (n := lmgr2_1.length) (g := gr2_1) (xs := rc lmgr2_1) (ys := []) (by simp [rc_length])
   refine Zso hK _ _ (MA.mk (fun _ => M.mask [false, true, true, false, false, false, false, false, true, true, true, true, true, true] rfl) (MA.mk (fun _ => M.mask [false, true, true, true, false, false, false, false, true, true, true, true, true, true] rfl) (MA.mk (fun _ => M.mask [false, true, true, true, true, false, false, false, true, true, true, true, true, true] rfl) (MA.mk (fun _ => M.mask [false, true, true, true, true, true, false, false, true, true, true, true, true, true] rfl) (MA.mk (fun _ => M.mask [false, true, true, true, true, true, true, false, true, true, true, true, true, true] rfl) (MA.mk (fun h => (no_of (by kernel_rfl) h).elim) (M.mask [false, false, true, false, false, false, false, false, true, true, true, true, true, true] rfl))))))) ?_; clear hK K
   exact H1 _ _ ⟨lmgr2_1, hlmgr2_1, llmgr2_1, gr2_1, T, M⟩
  refine gi 253 ?_; intro K hK
  refine Zos M T rfl rfl (T.e 0 rfl) evc rfl (.tail (.tail (.tail (.tail (.tail .head))))) rfl (by simp) rfl (by kernel_rfl) ?_; clear M T; intro wc ac M T
  refine Zso hK _ _ (MA.mk (fun _ => M.mask [true, true, false, false, false, false, false, true, true, true, true, true, true] rfl) (MA.mk (fun _ => M.mask [true, true, true, false, false, false, false, true, true, true, true, true, true] rfl) (MA.mk (fun _ => M.mask [true, true, true, true, false, false, false, true, true, true, true, true, true] rfl) (MA.mk (fun _ => M.mask [true, true, true, true, true, false, false, true, true, true, true, true, true] rfl) (MA.mk (fun h => (no_of (by kernel_rfl) h).elim) (MA.mk (fun h => (no_of (by kernel_rfl) h).elim) (M.mask [false, true, false, false, false, false, false, true, true, true, true, true, true] rfl))))))) ?_; clear hK K
  refine gw 1 255 ?_; intro K hK
  refine ow_ms2 (m := 5) M T rfl rfl rfl rfl evc evc Tryd.underlying28 Tryd.info23 (by omega) ?_; clear M T; intro gr2_1 wc ac M T
  obtain ⟨lmgr2_1, hlmgr2_1⟩ : ∃ q : List (Int × Int), q = List.replicate 5 (0, 0) := ⟨_, rfl⟩
  have llmgr2_1 : lmgr2_1.length = 5 := by rw [hlmgr2_1, List.length_replicate]
  rw [← hlmgr2_1] at M
  have Ssgr2_1 := Sp.pre (w := w) (ex := noEx) (size := 2) (n := lmgr2_1.length) (g := gr2_1) (xs := rc lmgr2_1) (ys := []) (by simp [rc_length])
  refine Zso hK _ _ (MA.mk (fun _ => M.mask [false, true, true, false, false, false, false, false, true, true, true, true, true, true] rfl) (MA.mk (fun _ => M.mask [false, true, true, true, false, false, false, false, true, true, true, true, true, true] rfl) (MA.mk (fun _ => M.mask [false, true, true, true, true, false, false, false, true, true, true, true, true, true] rfl) (MA.mk (fun _ => M.mask [false, true, true, true, true, true, false, false, true, true, true, true, true, true] rfl) (MA.mk (fun h => (no_of (by kernel_rfl) h).elim) (MA.mk (fun h => (no_of (by kernel_rfl) h).elim) (M.mask [false, false, true, false, false, false, false, false, true, true, true, true, true, true] rfl))))))) ?_; clear hK K
  exact H2 _ _ ⟨lmgr2_1, hlmgr2_1, llmgr2_1, gr2_1, T, M⟩
 refine gi 2 ?_; intro K hK
 refine ow_ms2 (m := 5) M T rfl rfl rfl rfl evc evc Tryd.underlying28 Tryd.info23 (by omega) ?_; clear M T; intro gr2_1 wc ac M T
 obtain ⟨lmgr2_1, hlmgr2_1⟩ : ∃ q : List (Int × Int), q = List.replicate 5 (0, 0) := ⟨_, rfl⟩
 have llmgr2_1 : lmgr2_1.length = 5 := by rw [hlmgr2_1, List.length_replicate]
 rw [← hlmgr2_1] at M
 have Ssgr2_1 := Sp.pre (w := w) (ex := noEx) (size := 2) (n := lmgr2_1.length) (g := gr2_1) (xs := rc lmgr2_1) (ys := []) (by simp [rc_length])
 refine Zso hK _ _ (MA.mk (fun _ => M.mask [false, true, true, false, false, false, false, false, true, true, true, true, true, true] rfl) (MA.mk (fun _ => M.mask [false, true, true, true, false, false, false, false, true, true, true, true, true, true] rfl) (MA.mk (fun _ => M.mask [false, true, true, true, true, false, false, false, true, true, true, true, true, true] rfl) (MA.mk (fun _ => M.mask [false, true, true, true, true, true, false, false, true, true, true, true, true, true] rfl) (MA.mk (fun _ => M.mask [false, true, true, true, true, true, true, false, true, true, true, true, true, true] rfl) (MA.mk (fun _ => M.mask [false, true, true, true, true, true, true, true, true, true, true, true, true, true] rfl) (M.mask [false, false, true, false, false, false, false, false, true, true, true, true, true, true] rfl))))))) ?_; clear hK K
 refine gw 0 3 ?_; intro K hK
 refine Zoc (first := []) (cap := []) T rfl rfl rfl rfl evf (.cons evc (.cons evc .nil)) Tryd.func6 rfl rfl ?_
 refine Calls.mono (to_any 32 30 _) ?_
 clear T; rintro e wc ⟨rfl, hb⟩ ac T
 replace M := M.call hb; clear hb
 refine Zso hK _ _ (MA.mk (fun _ => M.mask [false, true, true, false, false, false, false, false, true, true, true, true, true, true] rfl) (MA.mk (fun _ => M.mask [false, true, true, true, false, false, false, false, true, true, true, true, true, true] rfl) (MA.mk (fun _ => M.mask [false, true, true, true, true, false, false, false, true, true, true, true, true, true] rfl) (MA.mk (fun _ => M.mask [false, true, true, true, true, true, false, false, true, true, true, true, true, true] rfl) (MA.mk (fun _ => M.mask [false, true, true, true, true, true, true, false, true, true, true, true, true, true] rfl) (MA.mk (fun _ => M.mask [false, true, true, true, true, true, true, true, true, true, true, true, true, true] rfl) (M.mask [false, false, true, false, false, false, false, false, true, true, true, true, true, true] rfl))))))) ?_; clear hK K
 refine gq (v := (.pointer (some ⟨g1, 0, none⟩))) T 2 7 rfl (fun _ _ _ _ _ => (Zrf (off := 0) rfl (T.e 8 rfl) (fun _ _ _ => by kernel_rfl))) ?_; clear T ac; intro ac T
 refine gq (v := (.pointer (some ⟨g1, 2, none⟩))) T 3 15 rfl (fun _ _ _ _ _ => (Zrf (off := 2) rfl (T.e 0 rfl) (fun _ _ _ => by kernel_rfl))) ?_; clear T ac; intro ac T
 exact H0 _ _ ⟨lmgr2_1, hlmgr2_1, llmgr2_1, gr2_1, T.pick [3, 0, 1, 2, 4, 5, 6, 7, 8, 9, 10] rfl, M⟩
end Go.Proofs.YtmdbdaofjepelaaDoor


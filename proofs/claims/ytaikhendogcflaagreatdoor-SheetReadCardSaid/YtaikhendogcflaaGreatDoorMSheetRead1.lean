/-
  Walks of functions, and plain laws (texts put together). No condition.
-/
import Derived.Test.YtaikhendogcflaaGreatDoorRows
import Derived.WalkKit
import Derived.WalkSpells
import Derived.WalkLawsBesides
import Derived.Handy
import Derived.Lib.Hide
import Derived.Deep.Draws
import Derived.Deep.MidRow
import Derived.Deep.AppendLies
import Derived.Deep.RegionHeld3
import Derived.Deep.DrawnRows
import Derived.ProofKit
import Derived.OpenShut
import Derived.WideKeyArgs
import Derived.Carry
import Derived.Deep.Slices
import Derived.IntWalk
import Derived.LoopN
import Derived.Maps.OwnOps
import Derived.DeepKeys4
import Derived.Maps.RangeWalk
import Derived.RangeFuncNested
import Derived.RangeFuncBound
import Derived.RangeFuncCalls
import Derived.RangeFuncLeaves
import Derived.Shelf.Abstract
import Derived.Shelf.RegionOpen
import Derived.OwnWalkIn
import Derived.TacticsInMore
import Derived.LoopNIn
import Derived.LoopIn
import Derived.Scope
import Derived.Deep.DeepMust
import Derived.Deep.DeepFit
set_option maxRecDepth 100000
set_option maxHeartbeats 1000000
set_option linter.unusedSimpArgs false
set_option linter.unusedVariables false
namespace Go.Proofs.YtaikhendogcflaaGreatDoor
open Go.RowKit
def Rd (w : World) (B size : Nat) (A : Option Addr) (n : Nat) (xs : List Value) : Prop :=
 xs.length = n * size ∧ (0 < n → ∃ b o, A = some ⟨b, o, none⟩ ∧ b < B ∧ ∀ j u, xs[j]? = some u → w.cell? ⟨b, o + j, none⟩ = some u)
section
variable {w w' : World} {B B' size n : Nat} {A : Option Addr} {xs : List Value}
theorem Rd.empty : Rd w B size A 0 [] := ⟨by simp, fun h => absurd h (by omega)⟩
theorem Rd.keep (h : Rd w B size A n xs) (hk : ∀ b o, b < B → w'.cell? ⟨b, o, none⟩ = w.cell? ⟨b, o, none⟩) : Rd w' B size A n xs :=
 ⟨h.1, fun hn => by
  obtain ⟨b, o, e, hb, hc⟩ := h.2 hn
  exact ⟨b, o, e, hb, fun j u hu => (hk _ _ hb).trans (hc j u hu)⟩⟩
theorem Rd.more (h : Rd w B size A n xs) (hB : B ≤ B') : Rd w B' size A n xs :=
 ⟨h.1, fun hn => by
  obtain ⟨b, o, e, hb, hc⟩ := h.2 hn
  exact ⟨b, o, e, by omega, hc⟩⟩
theorem Rd.below (h : Rd w B size A n xs) (hb : Below B w w') : Rd w' B size A n xs := h.keep fun _ _ hp => hb.cell hp
theorem Rd.cells (h : Rd w B size A n xs) (hn : 0 < n) : ∃ b o, A = some ⟨b, o, none⟩ ∧ b < B ∧ ∀ j u, xs[j]? = some u → w.cell? ⟨b, o + j, none⟩ = some u := h.2 hn
end
def ic (l : List Int) : List Value := l.map fun n => .int .i64 n
theorem ic_length (l : List Int) : (ic l).length = l.length := by simp [ic]
theorem ic_get (l : List Int) (k : Nat) (n : Int) (h : l[k]? = some n) : (ic l)[k]? = some (.int .i64 n) := by simp [ic, h]
theorem Rd.at1 {w : World} {B : Nat} {A : Option Addr} {n : Nat} {l : List Int} (h : Rd w B 1 A n (ic l)) {k : Nat} (hk : k < n) :
  ∃ b o x, A = some ⟨b, o, none⟩ ∧ b < B ∧ l.drop k = x :: l.drop (k + 1) ∧ w.cell? ⟨b, o + k, none⟩ = some (.int .i64 x) := by
 have hl : l.length = n := by have := h.1; rw [ic_length] at this; omega
 obtain ⟨b, o, e, hb, hc⟩ := h.2 (by omega)
 have hg : l[k]? = some l[k] := List.getElem?_eq_getElem (by omega)
 exact ⟨b, o, l[k], e, hb, List.drop_eq_getElem_cons (by omega), hc _ _ (ic_get l k _ hg)⟩
theorem Rd.len1 {w : World} {B : Nat} {A : Option Addr} {n : Nat} {l : List Int} (h : Rd w B 1 A n (ic l)) : l.length = n := by have := h.1; rw [ic_length] at this; omega
structure Bk (w : World) (g : Nat) (cs : Array Value) : Prop where
 lt : g < w.heap.size
 cell : ∀ o, w.cell? ⟨g, o, none⟩ = cs[o]?
 frozen : ∀ o, w.frozen? ⟨g, o, none⟩ = false
variable {w w' : World} {g : Nat} {cs : Array Value}
theorem Bk.new (w : World) (t : TypeId) (cs : Array Value) : Bk (w.alloc (.cells cs t)) w.heap.size cs := by
 have e : (w.alloc (.cells cs t)).heap[w.heap.size]? = some (.cells cs t) := heap_alloc_new w _
 refine ⟨by simp, fun o => by simp only [World.cell?, e]; rfl, fun o => by simp only [World.frozen?, e]; simp⟩
theorem Bk.kept {B : Nat} (h : Bk w g cs) (hb : Below B w w') (hg : g < B) : Bk w' g cs :=
 ⟨Nat.lt_of_lt_of_le h.lt hb.size, fun o => (hb.cell (p := ⟨g, o, none⟩) hg).trans (h.cell o), fun o => (hb.frozen (p := ⟨g, o, none⟩) hg).trans (h.frozen o)⟩
theorem Bk.below (h : Bk w g cs) (hb : Below w.heap.size w w') : Bk w' g cs := h.kept hb h.lt
theorem Bk.range (h : Bk w g cs) : w.rangeAt g 0 cs.toList := fun j v hv => by rw [h.cell, Nat.zero_add]; simpa using hv
theorem Bk.there (h : Bk w g cs) : w.there g 0 cs.size := fun j hj => ⟨by rw [h.cell, Nat.zero_add, Array.getElem?_eq_getElem hj]; rfl, h.frozen _⟩
theorem size_setCells (b : Nat) : ∀ (vs : List Value) (o : Nat) (w : World), (w.setCells b o vs).heap.size = w.heap.size
 | [], _, _ => rfl
 | v :: r, o, w => by rw [World.setCells, size_setCells b r]; simp
structure Oth (w w' : World) (g : Nat) : Prop where
 os : w'.os = w.os
 tape : w'.tape = w.tape
 output : w'.output = w.output
 size : w'.heap.size = w.heap.size
 block : ∀ k, k ≠ g → w'.heap[k]? = w.heap[k]?
theorem Oth.refl (w : World) (g : Nat) : Oth w w g := ⟨rfl, rfl, rfl, rfl, fun _ _ => rfl⟩
theorem Oth.trans {a b c : World} {g : Nat} (h : Oth a b g) (k : Oth b c g) : Oth a c g :=
 ⟨k.os.trans h.os, k.tape.trans h.tape, k.output.trans h.output, k.size.trans h.size, fun x hx => (k.block x hx).trans (h.block x hx)⟩
theorem Oth.setCell (w : World) (p : Addr) (u : Value) : Oth w (w.setCell p u) p.block := ⟨rfl, rfl, rfl, by simp, fun k hk => Below.heap_setCell w p u k hk⟩
theorem Oth.setCells (b : Nat) : ∀ (vs : List Value) (o : Nat) (w : World), Oth w (w.setCells b o vs) b
 | [], _, w => Oth.refl w b
 | v :: r, o, w => (Oth.setCell w ⟨b, o, none⟩ v).trans (Oth.setCells b r (o + 1) _)
theorem Bk.setCells (h : Bk w g cs) (ds : Array Value) (hs : ds.size = cs.size) : Bk (w.setCells g 0 ds.toList) g ds := by
 refine ⟨by rw [size_setCells]; exact h.lt, fun o => ?_, fun o => (World.frozen?_setCells _ _ _ _ _).trans (h.frozen o)⟩
 have ht : w.there g 0 ds.toList.length := by have := h.there; simpa [hs] using this
 by_cases ho : o < ds.size
 ·have h2 := World.rangeAt_setCells_same w g 0 ds.toList ht o ds[o] (by simp [ho])
  rw [Nat.zero_add] at h2
  rw [h2, Array.getElem?_eq_getElem ho]
 ·rw [World.cell?_setCells_out g _ _ _ _ (fun _ _ => .inr (by simp; omega)), h.cell, Array.getElem?_eq_none (by omega), Array.getElem?_eq_none (by omega)]
theorem ret_blk {P : Program} {fn : Func} {R : Ending → World → Prop} {a : Act} {w : World} (t : Tmp) (ty : TypeId) (hr : fn.results = #[.cell t ty]) (hd : a.defers = [])
   (g : Nat) (hx : a.tmps.getD t undef = .pointer (some ⟨g, 0, none⟩)) (cs : Array Value) (hB : Bk w g cs) (d : TypeDesc) (hu : P.underlying ty = some d) (hw : d.isRow = true) (hi : (P.info? ty).map (·.size) = some cs.size)
   (h : R (.returned (.agg cs)) w) : bodyPost P fn R .ret a w := by
 refine ⟨hd, .agg cs, ?_, h⟩
 have hl := run_loadVar_mid w g 0 ty cs.toList d hB.range hu hw (by simpa using hi)
 simp only [Array.toArray_toList] at hl
 have hx' : a.tmps[t]?.getD undef = .pointer (some ⟨g, 0, none⟩) := by simpa using hx
 simp [results, hr, hx', asAddr, hl, Sem.run_bind]
theorem ret_blk1 {P : Program} {fn : Func} {R : Ending → World → Prop} {a : Act} {w : World} (t t' : Tmp) (ty : TypeId) (hr : fn.results = #[.cell t ty, .tmp t']) (hd : a.defers = [])
   (g : Nat) (v : Value) (hx : a.tmps.getD t undef = .pointer (some ⟨g, 0, none⟩)) (hx' : a.tmps.getD t' undef = v) (cs : Array Value) (hB : Bk w g cs) (d : TypeDesc)
   (hu : P.underlying ty = some d) (hw : d.isRow = true) (hi : (P.info? ty).map (·.size) = some cs.size)
   (h : R (.returned (.tuple #[.agg cs, v])) w) : bodyPost P fn R .ret a w := by
 refine ⟨hd, .tuple #[.agg cs, v], ?_, h⟩
 have hl := run_loadVar_mid w g 0 ty cs.toList d hB.range hu hw (by simpa using hi)
 simp only [Array.toArray_toList] at hl
 have e : a.tmps[t]?.getD undef = .pointer (some ⟨g, 0, none⟩) := by simpa using hx
 have e' : a.tmps[t']?.getD undef = v := by simpa using hx'
 simp [results, hr, e, e', asAddr, hl, Sem.run_bind]
theorem own_form {base e size n : Nat} {v : Value} {xs : List Value} (h : w.ownsRow base e size v n xs) (hn : 0 < n) :
  ∃ g cap, v = .slice (some ⟨g, 0, none⟩) n cap ∧ n ≤ cap ∧ cap ≤ maxLen ∧ base ≤ g ∧ g < w.heap.size ∧ w.rangeAt g 0 xs := by
 have hc := h
 rcases h.2 with ⟨_, h0⟩ | ⟨g, cap, cur, rfl, hb, hg, hc1, hc2, _⟩
 ·omega
 ·refine ⟨g, cap, rfl, hc1, hc2, hb, (Array.getElem?_eq_some_iff.1 hg).1, fun j u hu => ?_⟩
  have := hc.cells (g := g) rfl j u hu
  rwa [Addr.add_mid] at this
theorem ret_int {k : IntKind} {a b : Int} (h : a = b) : Ending.returned (.int k a) = .returned (.int k b) := by rw [h]
theorem ret_bool {a b : Bool} (h : a = b) : Ending.returned (.bool a) = .returned (.bool b) := by rw [h]
section
variable {P : Program} {ops : Array Oper} {Q : Exit → Act → World → Prop} {S : Array Bool → World → Prop}
def DC (ops : Array Oper) (L : Array Bool) : Prop :=
 L.size = ops.size ∧ ∀ (j : Nat) (o : Oper), ops[j]? = some o → L.getD j true = true → ∀ e ∈ o.after, Region.binds .any e = true → L.getD e.on false = true
theorem DC.start : DC ops (Array.replicate ops.size false) := by
 refine ⟨by simp, fun j o hj hl => ?_⟩
 have hlt : j < ops.size := (Array.getElem?_eq_some_iff.1 hj).1
 simp [hlt] at hl
theorem DC.step {L : Array Bool} {i : Nat} (h : DC ops L) (hi : i ∈ Region.ready .any ops L) : DC ops (L.setIfInBounds i true) := by
 obtain ⟨h0, oi, hoi, hall⟩ := mem_ready.1 hi
 refine ⟨by simpa using h.1, fun j o hj hl e he hb => ?_⟩
 by_cases hji : i = j
 ·subst hji
  rw [hoi] at hj
  injection hj with hj
  subst hj
  exact getD_set_true (hall e he hb)
 ·rw [getD_set_ne true hji] at hl
  exact getD_set_true (h.2 j o hj hl e he hb)
def waitsFor (ops : Array Oper) (m i : Nat) : Bool := match ops[m]? with | some om => om.after.any fun e => Region.binds .any e && e.on == i | none => false
theorem DC.wait {L : Array Bool} {i m : Nat} (h : DC ops L) (hw : waitsFor ops m i = true) (hi : L.getD i true = false) : L.getD m true = false := by
 cases hm : L.getD m true with
 | false => rfl
 | true =>
  unfold waitsFor at hw
  cases ho : ops[m]? with
  | none => rw [ho] at hw; cases hw
  | some om =>
   rw [ho] at hw
   obtain ⟨e, he, hb⟩ := Array.any_eq_true'.1 hw
   simp only [Bool.and_eq_true, beq_iff_eq] at hb
   have h1 := h.2 m om ho hm e he hb.1
   rw [hb.2] at h1
   rcases Nat.lt_or_ge i L.size with h' | h'
   ·simp [h'] at hi h1; rw [hi] at h1; cases h1
   ·simp [Array.getElem?_eq_none h'] at h1
def wpAnyS (P : Program) (ops : Array Oper) (Q : Exit → Act → World → Prop) (S : Array Bool → World → Prop) : Nat → Array Bool → Act → World → Prop
 | 0, listed, a, w => Region.ready .any ops listed = [] ∧ Q .normal a w
 | fuel + 1, listed, a, w =>
  (Region.ready .any ops listed = [] → Q .normal a w) ∧
  ∀ i ∈ Region.ready .any ops listed, wpOp P ops Q i (fun a' w' => S (listed.setIfInBounds i true) w' ∧ wpAnyS P ops Q S fuel (listed.setIfInBounds i true) a' w') a w
theorem wpAny_of_S : ∀ (fuel : Nat) (listed : Array Bool) (a : Act) (w : World), wpAnyS P ops Q S fuel listed a w → wpAny P .any ops Q fuel listed a w
 | 0, _, _, _, h => h
 | fuel + 1, _, _, _, h => ⟨h.1, fun i hi => wpOp_mono (fun a' w' h' => wpAny_of_S fuel _ a' w' h'.2) (h.2 i hi)⟩
theorem wpAnyS_first {i : Nat} {oi : Oper} {v : Value} (hi : ops[i]? = some oi)
  (hsel : ∀ (j : Nat) (o : Oper) cs b, ops[j]? = some o → o.op ≠ .select cs b)
  (hQ : ∀ c a w, Q (.panic c) (a.put oi.dst v) w → Q (.panic c) a w) (hSi : ∀ L w, S (L.setIfInBounds i true) w ↔ S L w) :
  ∀ (fuel : Nat) (listed : Array Bool) (a : Act) (w : World),
   (∀ j oj, ops[j]? = some oj → j ≠ i → listed.getD j true = false → (∀ e ∈ oj.after, Region.binds .any e = true → e.on ≠ i) → oi.apart ops oj = true) →
   i ∈ Region.ready .any ops listed → YieldsIf P ops (fun w' => ∃ L, DC ops L ∧ L.getD i true = false ∧ S L w') oi v a → DC ops listed → S listed w →
   wpAnyS P ops Q S fuel (listed.setIfInBounds i true) (a.put oi.dst v) w → wpAnyS P ops Q S (fuel + 1) listed a w := by
 intro fuel
 induction fuel with
 | zero =>
  intro listed a w _ hr hy hD hS H
  refine ⟨fun h => (by rw [h] at hr; cases hr), fun j hj => ?_⟩
  by_cases hji : j = i
  ·subst hji; exact hy.wpOp hi ⟨listed, hD, (mem_ready.1 hr).1, hS⟩ ⟨(hSi _ _).2 hS, H⟩
  ·have := ready_mono hj hji
   rw [H.1] at this
   cases this
 | succ fuel ih =>
  intro listed a w hfree hr hy hD hS H
  refine ⟨fun h => (by rw [h] at hr; cases hr), fun j hj => ?_⟩
  by_cases hji : j = i
  ·subst hji; exact hy.wpOp hi ⟨listed, hD, (mem_ready.1 hr).1, hS⟩ ⟨(hSi _ _).2 hS, H⟩
  ·have h1 := H.2 j (ready_mono hj hji)
   obtain ⟨hjun, oj, hoj, hall⟩ := mem_ready.1 hj
   have hnot : ∀ e ∈ oj.after, Region.binds .any e = true → e.on ≠ i := fun e he hb heq => by
    have h1 := hall e he hb
    have h0 := (mem_ready.1 hr).1
    rw [heq] at h1
    rcases Nat.lt_or_ge i listed.size with h' | h'
    ·simp [h'] at h0 h1; rw [h0] at h1; cases h1
    ·simp [Array.getElem?_eq_none h'] at h1
   have h2 := wpOp_putIf hoj (hfree j oj hoj hji hjun hnot) (fun cs b => hsel i oi cs b hi) (fun cs b => hsel j oj cs b hoj) hQ hy h1
   have hfree' : ∀ k ok, ops[k]? = some ok → k ≠ i → (listed.setIfInBounds j true).getD k true = false →
     (∀ e ∈ ok.after, Region.binds .any e = true → e.on ≠ i) → oi.apart ops ok = true := fun k ok hk hki hun hno => by
    refine hfree k ok hk hki ?_ hno
    by_cases hjk : j = k
    ·subst hjk; exact hjun
    ·rw [getD_set_ne true hjk] at hun; exact hun
   refine wpOp_mono (fun a' w' h3 => ?_) h2
   have hS' : S (listed.setIfInBounds j true) w' := by
    have := h3.2.1
    rw [Array.setIfInBounds_comm _ _ (Ne.symm hji)] at this
    exact (hSi _ _).1 this
   refine ⟨hS', ih (listed.setIfInBounds j true) a' w' hfree' (ready_mono hr (Ne.symm hji)) h3.1 (hD.step hj) hS' ?_⟩
   rw [Array.setIfInBounds_comm _ _ hji]
   exact h3.2.2
def wpG (P : Program) (ops : Array Oper) (Q : Exit → Act → World → Prop) (S : Array Bool → World → Prop) (fuel : Nat) (listed : Array Bool) (a : Act) (w : World) : Prop :=
 DC ops listed → S listed w → wpAnyS P ops Q S fuel listed a w
theorem wpG_take {i : Nat} {oi : Oper} {v : Value} {fuel : Nat} {listed : Array Bool} {a : Act} {w : World} (hi : ops[i]? = some oi)
  (hs : (Region.noSelect ops && Region.free .any ops listed i && (Region.ready .any ops listed).contains i) = true)
  (hSi : ∀ L w, S (L.setIfInBounds i true) w ↔ S L w)
  (hQ : ∀ c a w, Q (.panic c) (a.put oi.dst v) w → Q (.panic c) a w) (hy : YieldsIf P ops (fun w' => ∃ L, DC ops L ∧ L.getD i true = false ∧ S L w') oi v a)
  (h : wpG P ops Q S fuel (listed.setIfInBounds i true) (a.put oi.dst v) w) : wpG P ops Q S (fuel + 1) listed a w := by
 intro hD hS
 simp only [Bool.and_eq_true] at hs
 obtain ⟨⟨h1, h2⟩, h3⟩ := hs
 have hr : i ∈ Region.ready .any ops listed := by simpa using h3
 exact wpAnyS_first hi (Region.noSelect_spec h1) hQ hSi fuel listed a w (Region.free_spec hi h2) hr hy hD hS (h (hD.step hr) ((hSi _ _).2 hS))
theorem wpG_one {i : Nat} {o : Oper} {fuel : Nat} {listed : Array Bool} {a : Act} {w : World} (hr : Region.ready .any ops listed = [i]) (ho : ops[i]? = some o)
  (hw : Region.wanted o (yielded ops a.tmps) = true)
  (h : S listed w → ∀ K' : Act → World → Prop, Shut (∀ a w, S (listed.setIfInBounds i true) w → wpG P ops Q S fuel (listed.setIfInBounds i true) a w → K' a w) → Oper.wp P o a w K' Q) : wpG P ops Q S (fuel + 1) listed a w := by
 intro hD hS
 refine ⟨fun h0 => (by rw [hr] at h0; cases h0), fun j hj => ?_⟩
 have hD' := hD.step hj
 rw [hr] at hj
 obtain rfl : j = i := by simpa using hj
 refine wpOp_step ho (fun K' hK => ?_)
 rw [if_pos hw]
 exact h hS K' (fun a w hS' hW => hK a w ⟨hS', hW hD' hS'⟩)
theorem wpG_step {i : Nat} {o : Oper} {fuel : Nat} {listed : Array Bool} {a : Act} {w : World} (hr : Region.ready .any ops listed = [i]) (ho : ops[i]? = some o)
  (hw : Region.wanted o (yielded ops a.tmps) = true)
  (h : S listed w → ∀ K' : Act → World → Prop, Shut (∀ a w, S (listed.setIfInBounds i true) w → (∀ W, wpG P ops Q S fuel (listed.setIfInBounds i true) a W) → K' a w) → Oper.wp P o a w K' Q) : wpG P ops Q S (fuel + 1) listed a w :=
 wpG_one hr ho hw fun hS K' hK => h hS K' fun a w hS' hW => hK a w hS' (hW w)
theorem wpG_done {listed : Array Bool} {a : Act} {w : World} {fuel : Nat} (hr : Region.ready .any ops listed = []) (h : S listed w → Q .normal a w) : wpG P ops Q S fuel listed a w := by
 intro _ hS
 cases fuel with
 | zero => exact ⟨hr, h hS⟩
 | succ fuel => exact ⟨fun _ => h hS, by rw [hr]; simp⟩
theorem wpG_end {listed : Array Bool} {a : Act} {w : World} {fuel : Nat} (hr : Region.ready .any ops listed = []) (h : ∀ W, S listed W → Q .normal a W) : wpG P ops Q S fuel listed a w := wpG_done hr (h w)
theorem wp_region_G (S : Array Bool → World → Prop) (n : Nat) {id : Nat} {a : Act} {w : World} (hm : P.follows .mixedOrders = true) (hn : ops.size = n) (hS : S (Array.replicate n false) w.drew)
  (h : ∀ W, wpG P ops Q S n (Array.replicate n false) a W) : (Code.region id ops true).wp P Q a w := by
 subst hn
 exact wp_region_any hm (wpAny_of_S _ _ _ _ (h _ DC.start hS))
theorem no_of {b : Bool} (h : b = true) (h' : b = false) : False := by rw [h] at h'; cases h'
end
section
variable {w W W' : World} {p : Nat → Prop} {g : Nat} {cs : Array Value}
end
section
open Go.ChangeShapes Go.WideShapes Go.ChangeAt Go.RowKit
theorem Tryz.own : ownKnob Tryz.prog.godebug = none := by kernel_rfl
theorem Tryz.laid : laidOutB Tryz.prog = true := by kernel_rfl
section
variable {H : Type} {enc : TypeId × Value → H} {P : Program} {W W' : World}
theorem all_stay (hl : laidOutB P = true) (hb : Below W.heap.size W W') (sp : Nat → Bool) : ∀ {ts : List TypeId} {vs : List Value} {ds : List (DataW H)} {ps : List MemPlace},
  (∀ t ∈ ts, P.readableRec t = true ∧ t < P.types.size) → DataW.TrodAll enc P W 0 (fun _ => true) true ts vs ds ps → (∀ x ∈ ps, x.block < W.heap.size) → (∀ x ∈ ps, sp x.block = true) → DataW.TrodAll enc P W' 0 sp true ts vs ds ps
 | [], vs, ds, ps, _, h, _, _ => by
  obtain ⟨rfl, rfl, rfl⟩ := trodAll_nil h
  exact trodAll_mk0
 | t :: ts, vs, ds, ps, hr, h, hlt, hsp => by
  obtain ⟨v, vs', d, ds', p, q, rfl, rfl, rfl, h1, h2⟩ := trodAll_cons h
  exact trodAll_cons_mk (WideElems.Trod_stays hl (hr t (by simp)).1 (hr t (by simp)).2 h1 (fun x hx => hb.same (hlt x (List.mem_append_left _ hx))) (fun x hx => hsp x (List.mem_append_left _ hx)))
   (all_stay hl hb sp (fun t' ht' => hr t' (List.mem_cons_of_mem _ ht')) h2 (fun x hx => hlt x (List.mem_append_right _ hx)) (fun x hx => hsp x (List.mem_append_right _ hx)))
theorem law_post {f : Func} {s : ChangeSpec} {args : Array Value} {ds : List (DataW H)} {before : List MemPlace} {tb : TypeId} (hl : laidOutB P = true) (hr : ∀ t ∈ f.params.toList, P.readableRec t = true ∧ t < P.types.size)
   (hres : f.resultTypes = #[tb]) (htb : P.underlying tb = some .bool) (hvars : s.vars = []) (hW : DataW.Whole enc P f.params.toList s.vars false W args.toList ds [] before)
   (hfr : (s.fn H (ds ++ [])).results = [.lit (.bool true)]) (hfa : (s.fn H (ds ++ [])).args = ds) (hfv : (s.fn H (ds ++ [])).vars = []) (hb : Below W.heap.size W W') :
   s.post enc P f false true false false W args (.bool true) W' := by
 have hlt : ∀ x ∈ before, x.block < W.heap.size := fun x hx => hW.lt x hx
 have hin : ∀ x ∈ before, (fun b => decide (b < W.heap.size)) x.block = true := fun x hx => by simpa using hlt x hx
 have hW2 := hW
 obtain ⟨p, q, hA, hV, hpq, hz, -⟩ := hW
 rw [hvars] at hV
 obtain ⟨-, rfl⟩ := trodVars_none hV
 rw [List.append_nil] at hpq
 subst hpq
 have hargs : ∀ sp : Nat → Bool, (∀ x ∈ before, sp x.block = true) → DataW.TrodAll enc P W' 0 sp true f.params.toList args.toList (s.fn H (ds ++ [])).args before := fun sp hsp => by
   rw [hfa]
   exact all_stay hl hb sp hr hA hlt hsp
 have hr1 : ∀ (b : Nat) (sp : Nat → Bool) (hd : Bool), DataW.TrodAll enc P W' b sp hd f.resultTypes.toList ((Value.bool true).resultList f.resultTypes.size) (s.fn H (ds ++ [])).results [] := fun b sp hd => by
   rw [hfr, hres]
   exact trodAll_cons_mk (shut_bool htb _) trodAll_mk0
 have hv1 : ∀ sp : Nat → Bool, DataW.TrodVars enc P W' sp s.vars (s.fn H (ds ++ [])).vars [] := fun sp => by
   rw [hfv, hvars]
   rfl
 refine ⟨ds, [], before, [], before, [], hW2, hr1 _ _ _, hargs _ hin, hv1 _, World.keptBut_mono (fun x hx => ⟨hx, .inr (by simpa using hx)⟩) (hb.frame (· ∈ before)), fun _ => ⟨?_, _, _, ([] ++ before) ++ [], ⟨[] ++ before, [], trodAll_append (hargs _ (fun _ _ => rfl)) (hr1 _ _ _), hv1 _, rfl, ?_, ?_⟩, ?_⟩⟩
 · exact ok_one hres rfl (okWide_bool_mk htb _)
 · intro b off hx
   have hx' : MemPlace.cell b off ∈ before := by simpa using hx
   rw [hb.frozen (hlt _ hx')]
   exact hz b off hx'
 · intro h; cases h
 · intro x hx _
   simpa using hx
theorem read_ints {t e : TypeId} {v : Value} {d : DataW H} {ps : List MemPlace} {base : Nat} (ht : P.underlying t = some (.slice e)) (he : P.underlying e = some (.int .i64)) (hc : P.cellsOf e = 1) (hv : Value.okWide P W .any base t v)
  (h : DataW.Trod enc P W 0 (fun _ => true) true t v d ps) (hlt : ∀ x ∈ ps, x.block < W.heap.size) : ∃ A n c l, v = .slice A n c ∧ Rd W W.heap.size 1 A n (ic l) ∧ n ≤ 9223372036854775807 := by
 obtain ⟨a0, len, cap, rfl⟩ := okWide_slice ht hv
 obtain ⟨fuel, hf⟩ := h
 rcases open_ints ht he hc hf with ⟨hcs, hx⟩ | ⟨a, len', cap', zs, hcs, _, hl, hm, hz, hx, hcell, hwz⟩
 ·simp [Value.cells] at hcs
  obtain ⟨rfl, rfl, rfl⟩ := hcs
  exact ⟨none, 0, 0, [], rfl, Rd.empty, by omega⟩
 ·simp [Value.cells] at hcs
  obtain ⟨rfl, rfl, rfl⟩ := hcs
  simp only [if_true] at hz
  simp only [Prod.mk.injEq] at hx
  obtain ⟨-, rfl⟩ := hx
  refine ⟨some a, len, cap, zs.take len, rfl, ⟨by rw [ic_length, List.length_take]; omega, fun hn => ?_⟩, by unfold maxLen at hm; omega⟩
  obtain ⟨b, off, spot⟩ := a
  have hspot : spot = none := by simpa [Addr.add] using World.cell?_spot (hcell 0 (by omega))
  subst hspot
  refine ⟨b, off, rfl, hlt (.cell b off) (MemPlace.mem_row.2 ⟨0, by omega, by simp⟩), fun k u hu => ?_⟩
  have hk : k < len := by
   have := (List.getElem?_eq_some_iff.1 hu).1
   rw [ic_length, List.length_take] at this
   omega
  have h2 := hcell k (by omega)
  rw [Addr.add_mid] at h2
  rw [h2, ← hu]
  simp [ic, hk, List.getD, List.getElem?_take]
  rw [List.getElem?_eq_getElem (by omega)]
  rfl
end
end
abbrev R2 (a b : Int) : Value := .agg #[.int .i64 a, .int .i64 b]
def withinB (n lo hi : Int) : Bool := decide (lo ≤ n ∧ n ≤ hi)
def chkR (x0 x1 lo hi : Int) : Int := if withinB x0 lo hi = true ∧ withinB x1 lo hi = true then (if x1 < x0 then 5 else 0) else 1
structure Jb where
 p0 : Int
 p1 : Int
 t0 : Int
 t1 : Int
 r0 : Int
 r1 : Int
 u0 : Int
 u1 : Int
 d0 : Int
 d1 : Int
 a0 : Int
 a1 : Int
 b0 : Int
 b1 : Int
 le : Int
 sh : List (Int × Int)
 wi : Int
 me : Int
section
open Go.ChangeShapes Go.WideShapes Go.ChangeAt Go.RowKit
theorem cInt : Tryz.prog.cellsOf 3 = 1 := by kernel_rfl
section
variable {H : Type} {enc : TypeId × Value → H} {P : Program} {W : World} {base : Nat} {sp : Nat → Bool} {hd : Bool}
end
end
inductive BA where
 | cells (l : List Value)
 | row (e size n : Nat) (xs : List Value) (cap : Nat)
 | any (Q : Obj → Prop)
def BA.holds (w : World) (g : Nat) : BA → Prop
 | .cells l => Bk w g l.toArray
 | .row e size n xs cap => w.ownsRow g e size (.slice (some ⟨g, 0, none⟩) n cap) n xs ∧ 0 < n
 | .any Q => ∃ o, w.heap[g]? = some o ∧ Q o
theorem BA.lt {w : World} {g : Nat} {p : BA} (h : p.holds w g) : g < w.heap.size := by
 cases p with
 | cells l => exact Bk.lt h
 | row e size n xs cap => exact (h.1.lt g rfl).2
 | any Q => obtain ⟨o, ho, _⟩ := h; exact (Array.getElem?_eq_some_iff.1 ho).1
theorem BA.same {w w' : World} {g : Nat} {p : BA} (h : p.holds w g) (hs : w.heap.size ≤ w'.heap.size) (hb : w'.heap[g]? = w.heap[g]?) : p.holds w' g := by
 cases p with
 | cells l =>
  have h : Bk w g l.toArray := h
  exact ⟨Nat.lt_of_lt_of_le h.lt hs, fun o => (World.cell?_of_block (w := w) (a := ⟨g, o, none⟩) hb).trans (h.cell o), fun o => (World.frozen?_of_block (w := w) (a := ⟨g, o, none⟩) hb).trans (h.frozen o)⟩
 | row e size n xs cap =>
  obtain ⟨⟨h1, h2⟩, h3⟩ := h
  refine ⟨⟨h1, ?_⟩, h3⟩
  rcases h2 with ⟨h2, h4⟩ | ⟨g', c', cur, h2, hb', hg, hr⟩
  ·exact .inl ⟨h2, h4⟩
  ·injection h2 with h2 _ hcap
   injection h2 with h2
   injection h2 with h2 _ _
   subst h2
   exact .inr ⟨g, c', cur, by rw [hcap], hb', hb.trans hg, hr⟩
 | any Q => obtain ⟨o, ho, hq⟩ := h; exact ⟨o, hb.trans ho, hq⟩
structure Mem (w0 : World) (ex : Nat → Prop) (w : World) (L : List (Nat × BA)) : Prop where
 os : w.os = w0.os
 tape : w.tape = w0.tape
 output : w.output = w0.output
 size : w0.heap.size ≤ w.heap.size
 block : ∀ b, b < w0.heap.size → ¬ ex b → w.heap[b]? = w0.heap[b]?
 blk : ∀ p ∈ L, (w0.heap.size ≤ p.1 ∨ ex p.1) ∧ p.2.holds w p.1
 nd : (L.map (·.1)).Nodup
abbrev noEx : Nat → Prop := fun _ => False
inductive Upd : List (Nat × BA) → Nat → BA → BA → List (Nat × BA) → Prop
 | head {g p p' L} : Upd ((g, p) :: L) g p p' ((g, p') :: L)
 | tail {q g p p' L L'} : Upd L g p p' L' → Upd (q :: L) g p p' (q :: L')
theorem Upd.keys {L L' : List (Nat × BA)} {g : Nat} {p p' : BA} (h : Upd L g p p' L') : L'.map (·.1) = L.map (·.1) := by
 induction h with
 | head => rfl
 | tail _ ih => simp [ih]
theorem Upd.mem {L L' : List (Nat × BA)} {g : Nat} {p p' : BA} (h : Upd L g p p' L') : (g, p) ∈ L := by
 induction h with
 | head => simp
 | tail _ ih => exact List.mem_cons_of_mem _ ih
theorem Upd.all {L L' : List (Nat × BA)} {g : Nat} {p p' : BA} (h : Upd L g p p' L') (hn : (L.map (·.1)).Nodup) : ∀ q ∈ L', q = (g, p') ∨ (q ∈ L ∧ q.1 ≠ g) := by
 induction h with
 | head =>
   intro q hq
   rcases List.mem_cons.1 hq with rfl | hq
   · exact .inl rfl
   · refine .inr ⟨List.mem_cons_of_mem _ hq, fun e => ?_⟩
     have := (List.nodup_cons.1 hn).1
     exact this (List.mem_map.2 ⟨q, hq, e⟩)
 | @tail q0 g p p' L L' h ih =>
   intro q hq
   have hn' := List.nodup_cons.1 hn
   rcases List.mem_cons.1 hq with rfl | hq
   · refine .inr ⟨List.mem_cons_self, fun e => hn'.1 (List.mem_map.2 ⟨_, h.mem, e.symm⟩)⟩
   · rcases ih hn'.2 q hq with h1 | h1
     · exact .inl h1
     · exact .inr ⟨List.mem_cons_of_mem _ h1.1, h1.2⟩
section
variable {w0 w w' : World} {ex : Nat → Prop} {L L' : List (Nat × BA)} {g : Nat}
theorem Mem.init (w : World) (ex : Nat → Prop) : Mem w ex w [] := ⟨rfl, rfl, rfl, Nat.le_refl _, fun _ _ _ => rfl, fun p hp => (by cases hp), by simp⟩
theorem Mem.below (M : Mem w0 noEx w L) : Below w0.heap.size w0 w := ⟨M.os, M.tape, M.output, M.size, fun b hb => M.block b hb (fun h => h)⟩
theorem Mem.old {b : Nat} {cs : Array Value} (M : Mem w0 ex w L) (h : Bk w0 b cs) (hb : ¬ ex b) : Bk w b cs :=
 ⟨Nat.lt_of_lt_of_le h.lt M.size, fun o => (World.cell?_of_block (w := w0) (a := ⟨b, o, none⟩) (M.block b h.lt hb)).trans (h.cell o), fun o => (World.frozen?_of_block (w := w0) (a := ⟨b, o, none⟩) (M.block b h.lt hb)).trans (h.frozen o)⟩
theorem Mem.get {l : List Value} (M : Mem w0 ex w L) (h : (g, BA.cells l) ∈ L) : Bk w g l.toArray := (M.blk _ h).2
theorem Mem.rdOwn {l xs : List Value} {n size : Nat} (M : Mem w0 ex w L) (h : (g, BA.cells l) ∈ L) (hx : l = xs) (hs : xs.length = n * size) : Rd w w.heap.size size (some ⟨g, 0, none⟩) n xs := by
 have hb := M.get h
 subst hx
 refine ⟨hs, fun _ => ⟨g, 0, rfl, hb.lt, fun j u hu => ?_⟩⟩
 rw [hb.cell, Nat.zero_add]
 simpa using hu
theorem Mem.rdRow {e size n cap : Nat} {xs : List Value} (M : Mem w0 ex w L) (h : (g, BA.row e size n xs cap) ∈ L) : Rd w w.heap.size size (some ⟨g, 0, none⟩) n xs := by
 obtain ⟨hb, hn⟩ := (M.blk _ h).2
 obtain ⟨g', cap', e1, _, _, _, hl, hr⟩ := own_form hb hn
 injection e1 with e1 _ _
 injection e1 with e1
 injection e1 with e1 _ _
 subst e1
 refine ⟨hb.1, fun _ => ⟨g, 0, rfl, hl, fun j u hu => ?_⟩⟩
 exact hr j u hu
theorem Mem.drew (M : Mem w0 ex w L) : Mem w0 ex w.drew L := ⟨M.os, M.tape, M.output, M.size, M.block, fun p hp => ⟨(M.blk p hp).1, BA.same (M.blk p hp).2 (Nat.le_refl _) rfl⟩, M.nd⟩
theorem Mem.call (M : Mem w0 ex w L) (h : Below w.heap.size w w') : Mem w0 ex w' L :=
 ⟨h.os.trans M.os, h.tape.trans M.tape, h.output.trans M.output, Nat.le_trans M.size h.size, fun b hb hx => (h.block b (Nat.lt_of_lt_of_le hb M.size)).trans (M.block b hb hx),
  fun p hp => ⟨(M.blk p hp).1, BA.same (M.blk p hp).2 h.size (h.block _ (BA.lt (M.blk p hp).2))⟩, M.nd⟩
theorem Mem.alloc (M : Mem w0 ex w L) (o : Obj) : Mem w0 ex (w.alloc o) L := M.call ((Below.refl _ _).alloc (Nat.le_refl _) o)
theorem Mem.add {p : BA} (M : Mem w0 ex w L) (hg : w0.heap.size ≤ g) (hp : p.holds w g) (hn : ∀ q ∈ L, q.1 ≠ g) : Mem w0 ex w ((g, p) :: L) :=
 ⟨M.os, M.tape, M.output, M.size, M.block, fun q hq => by
  rcases List.mem_cons.1 hq with rfl | hq
  ·exact ⟨.inl hg, hp⟩
  ·exact M.blk q hq, List.nodup_cons.2 ⟨fun h => by obtain ⟨q, hq, e⟩ := List.mem_map.1 h; exact hn q hq e, M.nd⟩⟩
theorem Mem.new (M : Mem w0 ex w L) (l : List Value) (t : TypeId) : Mem w0 ex (w.alloc (.cells l.toArray t)) ((w.heap.size, .cells l) :: L) :=
 (M.alloc _).add M.size (Bk.new w t _) (fun q hq e => by have := (BA.lt (M.blk q hq).2); omega)
theorem Mem.newAny (M : Mem w0 ex w L) (o : Obj) (Q : Obj → Prop) (hQ : Q o) : Mem w0 ex (w.alloc o) ((w.heap.size, .any Q) :: L) :=
 (M.alloc _).add M.size ⟨o, (MapKept.heap_alloc w _).1, hQ⟩ (fun q hq e => by have := (BA.lt (M.blk q hq).2); omega)
theorem Mem.write {p p' : BA} (M : Mem w0 ex w L) (hu : Upd L g p p' L') (ho : Oth w w' g) (hp : p'.holds w' g) : Mem w0 ex w' L' := by
 have hg := (M.blk _ hu.mem).1
 refine ⟨ho.os.trans M.os, ho.tape.trans M.tape, ho.output.trans M.output, by rw [ho.size]; exact M.size, fun b hb hx => ?_, fun q hq => ?_, by rw [hu.keys]; exact M.nd⟩
 ·refine (ho.block b fun e => ?_).trans (M.block b hb hx)
  subst e
  rcases hg with h | h
  ·have h : w0.heap.size ≤ b := h
   omega
  ·exact hx h
 ·rcases hu.all M.nd q hq with rfl | ⟨h1, h2⟩
  ·exact ⟨hg, hp⟩
  ·exact ⟨(M.blk q h1).1, BA.same (M.blk q h1).2 (by rw [ho.size]; exact Nat.le_refl _) (ho.block _ h2)⟩
theorem Mem.callW {p p' : BA} (M : Mem w0 ex w L) (hu : Upd L g p p' L') (h : w.grownBy w' (some g)) (hp : p'.holds w' g) : Mem w0 ex w' L' := by
 have hg := (M.blk _ hu.mem).1
 refine ⟨h.os.trans M.os, h.tape.trans M.tape, h.output.trans M.output, Nat.le_trans M.size h.size, fun b hb hx => ?_, fun q hq => ?_, by rw [hu.keys]; exact M.nd⟩
 ·refine (h.block b (Nat.lt_of_lt_of_le hb M.size) fun e => ?_).trans (M.block b hb hx)
  injection e with e
  subst e
  rcases hg with h | h
  ·have h : w0.heap.size ≤ b := h
   omega
  ·exact hx h
 ·rcases hu.all M.nd q hq with rfl | ⟨h1, h2⟩
  ·exact ⟨hg, hp⟩
  ·exact ⟨(M.blk q h1).1, BA.same (M.blk q h1).2 h.size (h.block _ (BA.lt (M.blk q h1).2) (fun e => h2 (by injection e)))⟩
theorem Mem.grown (M : Mem w0 (fun b => b = g) w L) : w0.grownBy w (some g) := ⟨M.os, M.tape, M.output, M.size, fun b hb hx => M.block b hb (fun e => hx (by rw [e]))⟩
theorem Mem.forget {q : Nat × BA} (M : Mem w0 ex w (q :: L)) : Mem w0 ex w L := ⟨M.os, M.tape, M.output, M.size, M.block, fun p hp => M.blk p (List.mem_cons_of_mem _ hp), (List.nodup_cons.1 M.nd).2⟩
theorem Mem.sub (M : Mem w0 ex w L) (h : L'.Sublist L) : Mem w0 ex w L' := ⟨M.os, M.tape, M.output, M.size, M.block, fun p hp => M.blk p (h.subset hp), M.nd.sublist (h.map _)⟩
theorem Mem.join (M : Mem w0 ex w L) (h : Mem w noEx w' L') : Mem w0 ex w' (L' ++ L) := by
 have M2 := M.call h.below
 refine ⟨M2.os, M2.tape, M2.output, M2.size, M2.block, fun p hp => ?_, ?_⟩
 ·rcases List.mem_append.1 hp with hp | hp
  ·refine ⟨.inl ?_, (h.blk p hp).2⟩
   rcases (h.blk p hp).1 with h1 | h1
   ·exact Nat.le_trans M.size h1
   ·exact h1.elim
  ·exact M2.blk p hp
 ·rw [List.map_append]
  refine List.nodup_append.2 ⟨h.nd, M.nd, fun a ha b hb e => ?_⟩
  obtain ⟨p, hp, rfl⟩ := List.mem_map.1 ha
  obtain ⟨q, hq, rfl⟩ := List.mem_map.1 hb
  have h2 := BA.lt (M.blk q hq).2
  rcases (h.blk p hp).1 with h1 | h1
  ·rw [e] at h1; omega
  ·exact h1
theorem Mem.initEx {p : BA} (hp : p.holds w g) : Mem w (fun b => b = g) w [(g, p)] :=
 ⟨rfl, rfl, rfl, Nat.le_refl _, fun _ _ _ => rfl, fun q hq => (by obtain rfl := List.mem_singleton.1 hq; exact ⟨.inr rfl, hp⟩), by simp⟩
theorem Mem.at {q : Nat × BA} (M : Mem w0 ex w L) (h : q ∈ L) : q.2.holds w q.1 := (M.blk q h).2
theorem Bk.storeAt {cs : Array Value} (h : Bk w g cs) (o : Nat) (ds cs' : List Value) (hs : o + ds.length ≤ cs.size) (hc : cs' = cs.toList.take o ++ ds ++ cs.toList.drop (o + ds.length)) : Bk (w.setCells g o ds) g cs'.toArray := by
 have ht : w.there g o ds.length := fun j hj => ⟨by rw [h.cell, Array.getElem?_eq_getElem (by omega)]; rfl, h.frozen _⟩
 refine ⟨by rw [size_setCells]; exact h.lt, fun x => ?_, fun x => (World.frozen?_setCells _ _ _ _ _).trans (h.frozen x)⟩
 subst hc
 simp only [List.getElem?_toArray]
 by_cases h1 : x < o
 ·rw [World.cell?_setCells_out g _ _ _ _ (fun _ _ => .inl h1), h.cell, List.append_assoc, List.getElem?_append_left (by simp; omega), List.getElem?_take_of_lt h1]
  simp
 ·by_cases h2 : x < o + ds.length
  ·have h3 := World.rangeAt_setCells_same w g o ds ht (x - o) ds[x - o] (List.getElem?_eq_getElem (by omega))
   have e : o + (x - o) = x := by omega
   rw [e] at h3
   rw [h3, List.append_assoc, List.getElem?_append_right (by simp; omega)]
   have e2 : x - (cs.toList.take o).length = x - o := by simp; omega
   rw [e2, List.getElem?_append_left (by omega), List.getElem?_eq_getElem (by omega)]
  ·rw [World.cell?_setCells_out g _ _ _ _ (fun _ _ => .inr (by show o + ds.length ≤ x; omega)), h.cell, List.getElem?_append_right (by simp; omega)]
   have e2 : x - (cs.toList.take o ++ ds).length = x - (o + ds.length) := by simp; omega
   rw [e2, List.getElem?_drop]
   have e3 : o + ds.length + (x - (o + ds.length)) = x := by omega
   rw [e3]
   simp
end
class RowTy (P : Program) (t : TypeId) (n : outParam Nat) : Prop where
 row : ∃ d, P.underlying t = some d ∧ d.isRow = true
 size : (P.info? t).map (·.size) = some n
class OneTy (P : Program) (t : TypeId) : Prop where
 one : ∃ d, P.underlying t = some d ∧ d.isRow = false
 size : (P.info? t).map (·.size) = some 1
class ZeroTy (P : Program) (t : TypeId) (l : outParam (List Value)) : Prop where
 zero : ∀ w, ∃ z, (zeroValue t).run P w = .ok z w ∧ z.cells = l.toArray
section
variable {P : Program} {ops : Array Oper} {rest : List Oper} {op : Oper} {a : Act} {Q : Exit → Act → World → Prop} {w0 w : World} {ex : Nat → Prop} {L : List (Nat × BA)} {K : Act → World → Prop}
theorem run_load_row {ty : TypeId} {n g o : Nat} [h : RowTy P ty n] {cs ds : List Value} (hB : Bk w g cs.toArray) (hd : (cs.drop o).take n = ds) (hn : Nat.ble (o + n) cs.length = true) : (loadVar ty ⟨g, o, none⟩).run P w = .ok (.agg ds.toArray) w := by
 obtain ⟨d, hu, hr⟩ := h.row
 replace hn : ds.length = n := by have := Nat.le_of_ble_eq_true hn; subst hd; simp; omega
 refine run_loadVar_mid w g o ty ds d (fun j v hv => ?_) hu hr (by rw [hn]; exact h.size)
 rw [hB.cell]
 subst hd
 have hj : j < n := by
  have := (List.getElem?_eq_some_iff.1 hv).1
  rw [hn] at this
  exact this
 rw [List.getElem?_take_of_lt hj, List.getElem?_drop] at hv
 simpa using hv
theorem run_load_one {ty : TypeId} {g o : Nat} [h : OneTy P ty] {cs : List Value} {v : Value} (hB : Bk w g cs.toArray) (hv : cs[o]? = some v) : (loadVar ty ⟨g, o, none⟩).run P w = .ok v w := by
 obtain ⟨d, hu, hr⟩ := h.one
 have hc : w.cell? ⟨g, o, none⟩ = some v := by rw [hB.cell]; simpa using hv
 have ha : (isAgg ty).run P w = .ok false w := by
  unfold isAgg
  simp only [Sem.run_bind, run_underlying hu, Result.andThen_ok]
  cases d <;> first | rfl | (simp [TypeDesc.isRow] at hr)
 unfold loadVar
 simp only [Sem.run_bind, ha, Result.andThen_ok]
 simp [load, Sem.run, hc]
theorem run_store_any {ty : TypeId} {g o : Nat} {v : Value} {cs ds : List Value} (hi : (P.info? ty).map (·.size) = some ds.length) (hB : Bk w g cs.toArray) (hv : v.cells = ds.toArray) (h1 : ds.all (·.oneCell') = true) (hs : o + ds.length ≤ cs.length) :
   (storeVar ty ⟨g, o, none⟩ v).run P w = .ok () (w.setCells g o ds) := by
 have ht : w.there g o ds.length := fun j hj => ⟨by rw [hB.cell, Array.getElem?_eq_getElem (by simp; omega)]; rfl, hB.frozen _⟩
 have h2 := run_storeVar_mid (P := P) w g o ty ds.toArray (by simpa using ht) (by simpa using hi) (by simpa using h1)
 unfold storeVar at h2 ⊢
 rw [hv]
 have e : (Value.agg ds.toArray).cells = ds.toArray := rfl
 rw [e] at h2
 exact h2
theorem run_alloc_any {ty : TypeId} {l : List Value} [h : ZeroTy P ty l] (w : World) : (Instr.alloc ty true (.tuple #[])).run P w = .ok (.pointer (some ⟨w.heap.size, 0, none⟩)) (w.alloc (.cells l.toArray ty)) := by
 obtain ⟨z, hz, hc⟩ := h.zero w
 unfold Instr.alloc
 simp only [Sem.run_bind, hz, Result.andThen_ok, newVar, newRow, run_newObj_alloc, Sem.run_pure, hc]
theorem wpList_wanted (hw : Region.wanted op (yielded ops a.tmps) = true) (h : ∀ K : Act → World → Prop, (∀ a w, wpList P ops Q rest a w → K a w) → op.wp P a w K Q) : wpList P ops Q (op :: rest) a w :=
 wpList_step fun K hK => by rw [if_pos hw]; exact h K hK
theorem m_ldr {ty : TypeId} {n : Nat} [RowTy P ty n] {x : Operand} {g o : Nat} {cs ds : List Value} (M : Mem w0 ex w L) (hw : Region.wanted op (yielded ops a.tmps) = true) (ho : op.op = .load ty x) (hx : a.eval x = .pointer (some ⟨g, o, none⟩)) (hm : (g, BA.cells cs) ∈ L)
  (hd : (cs.drop o).take n = ds) (hn : Nat.ble (o + n) cs.length = true) (h : wpList P ops Q rest (a.put op.dst (.agg ds.toArray)) w) : wpList P ops Q (op :: rest) a w :=
 wpList_wanted hw fun _ hK => by
  unfold Oper.wp execOp
  simp only [ho, hx, Instr.loadAt, Instr.sureAddr, Sem.run_bind, Sem.run_pure, Result.andThen_ok, run_load_row (M.get hm) hd hn]
  exact hK _ _ h
theorem m_ld1 {ty : TypeId} [OneTy P ty] {x : Operand} {g o : Nat} {cs : List Value} {v : Value} (M : Mem w0 ex w L) (hw : Region.wanted op (yielded ops a.tmps) = true) (ho : op.op = .load ty x) (hx : a.eval x = .pointer (some ⟨g, o, none⟩)) (hm : (g, BA.cells cs) ∈ L)
  (hv : cs[o]? = some v) (h : wpList P ops Q rest (a.put op.dst v) w) : wpList P ops Q (op :: rest) a w :=
 wpList_wanted hw fun _ hK => by
  unfold Oper.wp execOp
  simp only [ho, hx, Instr.loadAt, Instr.sureAddr, Sem.run_bind, Sem.run_pure, Result.andThen_ok, run_load_one (M.get hm) hv]
  exact hK _ _ h
theorem lo_one {ty : TypeId} [OneTy P ty] {x : Operand} {g o : Nat} {cs : List Value} {v : Value} (hB : Bk w g cs.toArray) (hw : Region.wanted op (yielded ops a.tmps) = true) (ho : op.op = .load ty x) (hx : a.eval x = .pointer (some ⟨g, o, none⟩))
  (hv : cs[o]? = some v) (h : wpList P ops Q rest (a.put op.dst v) w) : wpList P ops Q (op :: rest) a w :=
 wpList_wanted hw fun _ hK => by
  unfold Oper.wp execOp
  simp only [ho, hx, Instr.loadAt, Instr.sureAddr, Sem.run_bind, Sem.run_pure, Result.andThen_ok, run_load_one hB hv]
  exact hK _ _ h
theorem rn_row {ty : TypeId} {n : Nat} [RowTy P ty n] {x : Operand} {g o : Nat} {cs ds : List Value} (hB : Bk w g cs.toArray) (ho : op.op = .load ty x) (hx : a.eval x = .pointer (some ⟨g, o, none⟩))
  (hd : (cs.drop o).take n = ds) (hn : Nat.ble (o + n) cs.length = true) : (execOp a.eval op).run P w = .ok (.value (.agg ds.toArray)) w := by
 unfold execOp
 simp only [ho, hx, Instr.loadAt, Instr.sureAddr, Sem.run_bind, Sem.run_pure, Result.andThen_ok, run_load_row hB hd hn]
theorem Zro {ty : TypeId} [OneTy P ty] {x : Operand} {g o : Nat} {cs : List Value} {v : Value} (hB : Bk w g cs.toArray) (ho : op.op = .load ty x) (hx : a.eval x = .pointer (some ⟨g, o, none⟩))
  (hv : cs[o]? = some v) : (execOp a.eval op).run P w = .ok (.value v) w := by
 unfold execOp
 simp only [ho, hx, Instr.loadAt, Instr.sureAddr, Sem.run_bind, Sem.run_pure, Result.andThen_ok, run_load_one hB hv]
theorem m_stw {ty : TypeId} {x y : Operand} {g o : Nat} {v : Value} {cs ds cs' : List Value} {L' : List (Nat × BA)} (M : Mem w0 ex w L) (ho : op.op = .store ty x y) (hx : a.eval x = .pointer (some ⟨g, o, none⟩)) (hy : a.eval y = v) (hv : v.cells = ds.toArray)
   (hu : Upd L g (.cells cs) (.cells cs') L') (hc : cs.take o ++ ds ++ cs.drop (o + ds.length) = cs') (hs : o + ds.length ≤ cs.length) (h1 : ds.all (·.oneCell') = true) (hi : (P.info? ty).map (·.size) = some ds.length)
   (h : ∀ w', Mem w0 ex w' L' → K (a.put op.dst undef) w') : op.wp P a w K Q := by
 have hB := M.get hu.mem
 unfold Oper.wp execOp
 simp only [ho, hx, hy, Instr.storeAt, Instr.sureAddr, Sem.run_bind, Sem.run_pure, Result.andThen_ok, run_store_any hi hB hv h1 hs]
 exact h _ (M.write hu (Oth.setCells g _ _ _) (hB.storeAt o ds cs' (by simpa using hs) (by simpa using hc.symm)))
theorem m_st {ty : TypeId} {x y : Operand} {g o : Nat} {v : Value} {cs ds cs' : List Value} {L' : List (Nat × BA)} (M : Mem w0 ex w L) (hw : Region.wanted op (yielded ops a.tmps) = true) (ho : op.op = .store ty x y) (hx : a.eval x = .pointer (some ⟨g, o, none⟩)) (hy : a.eval y = v) (hv : v.cells = ds.toArray)
   (hu : Upd L g (.cells cs) (.cells cs') L') (hc : cs.take o ++ ds ++ cs.drop (o + ds.length) = cs') (hs : o + ds.length ≤ cs.length) (h1 : ds.all (·.oneCell') = true) (hi : (P.info? ty).map (·.size) = some ds.length)
   (h : ∀ w', Mem w0 ex w' L' → wpList P ops Q rest (a.put op.dst undef) w') : wpList P ops Q (op :: rest) a w :=
 wpList_wanted hw fun _ hK => m_stw M ho hx hy hv hu hc hs h1 hi fun w' M' => hK _ _ (h w' M')
theorem m_alw {ty : TypeId} {l : List Value} [ZeroTy P ty l] (M : Mem w0 ex w L) (ho : op.op = .alloc ty)
  (h : ∀ g w', Mem w0 ex w' ((g, .cells l) :: L) → K (a.put op.dst (.pointer (some ⟨g, 0, none⟩))) w') : op.wp P a w K Q := by
 unfold Oper.wp execOp
 simp only [ho, Sem.run_bind, Sem.run_pure, Result.andThen_ok, run_alloc_any (P := P) (ty := ty)]
 exact h _ _ (M.new l ty)
theorem m_al {ty : TypeId} {l : List Value} [ZeroTy P ty l] (M : Mem w0 ex w L) (hw : Region.wanted op (yielded ops a.tmps) = true) (ho : op.op = .alloc ty)
  (h : ∀ g w', Mem w0 ex w' ((g, .cells l) :: L) → wpList P ops Q rest (a.put op.dst (.pointer (some ⟨g, 0, none⟩))) w') : wpList P ops Q (op :: rest) a w :=
 wpList_wanted hw fun _ hK => m_alw M ho fun g w' M' => hK _ _ (h g w' M')
theorem m_bx {ty : TypeId} {x : Operand} {v : Value} {l : List Value} (M : Mem w0 ex w L) (hw : Region.wanted op (yielded ops a.tmps) = true) (ho : op.op = .box ty x) (hx : a.eval x = v) (hv : v.cells = l.toArray)
  (h : ∀ g w', Mem w0 ex w' ((g, .cells l) :: L) → wpList P ops Q rest (a.put op.dst (.pointer (some ⟨g, 0, none⟩))) w') : wpList P ops Q (op :: rest) a w :=
 wpList_wanted hw fun _ hK => by
  unfold Oper.wp execOp
  simp only [ho, hx, Instr.box, Sem.run_bind, Sem.run_pure, Result.andThen_ok, newVar, newRow, run_newObj_alloc, hv]
  exact hK _ _ (h _ _ (M.new l ty))
theorem start {c : Code} (ex : Nat → Prop) (h : ∀ w', Mem w ex w' [] → c.wp P Q a w') : c.wp P Q a w := h w (Mem.init w ex)
theorem m_start {c : Code} (M : Mem w0 ex w L) (h : ∀ w', Mem w0 ex w' L → c.wp P Q a w') : c.wp P Q a w := h w M
theorem absorb {l : List Value} {t : TypeId} (M : Mem w0 ex w L) (h : Mem w0 ex (w.alloc (.cells l.toArray t)) ((w.heap.size, .cells l) :: L) → wpList P ops Q rest a (w.alloc (.cells l.toArray t))) : wpList P ops Q rest a (w.alloc (.cells l.toArray t)) := h (M.new l t)
theorem ret_M {fn : Func} {R : Ending → World → Prop} {t : Tmp} {ty : TypeId} {n g : Nat} [hT : RowTy P ty n] {cs : List Value} (M : Mem w0 ex w L) (hr : fn.results = #[.cell t ty]) (hd : a.defers = [])
  (hx : a.tmps.getD t undef = .pointer (some ⟨g, 0, none⟩)) (hm : (g, BA.cells cs) ∈ L) (hn : cs.length = n) (h : R (.returned (.agg cs.toArray)) w) : bodyPost P fn R .ret a w := by
 obtain ⟨d, hu, hw⟩ := hT.row
 exact ret_blk t ty hr hd g hx cs.toArray (M.get hm) d hu hw (by rw [List.size_toArray, hn]; exact hT.size) h
theorem ret_M1 {fn : Func} {R : Ending → World → Prop} {t t' : Tmp} {ty : TypeId} {n g : Nat} [hT : RowTy P ty n] {v : Value} {cs : List Value} (M : Mem w0 ex w L) (hr : fn.results = #[.cell t ty, .tmp t']) (hd : a.defers = [])
  (hx : a.tmps.getD t undef = .pointer (some ⟨g, 0, none⟩)) (hx' : a.tmps.getD t' undef = v) (hm : (g, BA.cells cs) ∈ L) (hn : cs.length = n) (h : R (.returned (.tuple #[.agg cs.toArray, v])) w) : bodyPost P fn R .ret a w := by
 obtain ⟨d, hu, hw⟩ := hT.row
 exact ret_blk1 t t' ty hr hd g v hx hx' cs.toArray (M.get hm) d hu hw (by rw [List.size_toArray, hn]; exact hT.size) h
end
instance : OneTy Tryz.prog 3 := ⟨⟨_, Tryz.underlying3, rfl⟩, by kernel_rfl⟩
instance : ZeroTy Tryz.prog 3 [.int .i64 0] := ⟨fun _ => ⟨.int .i64 0, by kernel_rfl, rfl⟩⟩
instance : OneTy Tryz.prog 4 := ⟨⟨_, Tryz.underlying4, rfl⟩, by kernel_rfl⟩
instance : ZeroTy Tryz.prog 4 [.bool false] := ⟨fun _ => ⟨.bool false, by kernel_rfl, rfl⟩⟩
instance : OneTy Tryz.prog 5 := ⟨⟨_, Tryz.underlying5, rfl⟩, by kernel_rfl⟩
instance : ZeroTy Tryz.prog 5 [.int .u8 0] := ⟨fun _ => ⟨.int .u8 0, by kernel_rfl, rfl⟩⟩
instance : OneTy Tryz.prog 9 := ⟨⟨_, Tryz.underlying9, rfl⟩, by kernel_rfl⟩
instance : ZeroTy Tryz.prog 9 [.string ⟨#[]⟩] := ⟨fun _ => ⟨.string ⟨#[]⟩, by kernel_rfl, rfl⟩⟩
instance : RowTy Tryz.prog 23 4 := ⟨⟨_, Tryz.underlying23, rfl⟩, by kernel_rfl⟩
instance : ZeroTy Tryz.prog 23 [.int .i64 0, .int .i64 0, .int .i64 0, .int .i64 0] := ⟨fun _ => ⟨.agg #[.int .i64 0, .int .i64 0, .int .i64 0, .int .i64 0], by kernel_rfl, rfl⟩⟩
instance : OneTy Tryz.prog 24 := ⟨⟨_, Tryz.underlying24, rfl⟩, by kernel_rfl⟩
instance : ZeroTy Tryz.prog 24 [.slice none 0 0] := ⟨fun _ => ⟨.slice none 0 0, by kernel_rfl, rfl⟩⟩
instance : RowTy Tryz.prog 26 2 := ⟨⟨_, Tryz.underlying26, rfl⟩, by kernel_rfl⟩
instance : ZeroTy Tryz.prog 26 [.int .i64 0, .int .i64 0] := ⟨fun _ => ⟨.agg #[.int .i64 0, .int .i64 0], by kernel_rfl, rfl⟩⟩
instance : RowTy Tryz.prog 28 9 := ⟨⟨_, Tryz.underlying28, rfl⟩, by kernel_rfl⟩
instance : ZeroTy Tryz.prog 28 [.int .i64 0, .int .i64 0, .int .i64 0, .int .i64 0, .int .i64 0, .int .i64 0, .int .i64 0, .int .i64 0, .int .i64 0] := ⟨fun _ => ⟨.agg #[.int .i64 0, .int .i64 0, .int .i64 0, .int .i64 0, .int .i64 0, .int .i64 0, .int .i64 0, .int .i64 0, .int .i64 0], by kernel_rfl, rfl⟩⟩
instance : RowTy Tryz.prog 30 21 := ⟨⟨_, Tryz.underlying30, rfl⟩, by kernel_rfl⟩
instance : ZeroTy Tryz.prog 30 [.int .i64 0, .int .i64 0, .int .i64 0, .int .i64 0, .int .i64 0, .slice none 0 0, .slice none 0 0, .int .i64 0, .int .i64 0, .int .i64 0, .int .i64 0, .int .i64 0, .int .i64 0, .int .i64 0, .int .i64 0, .int .i64 0, .int .i64 0, .int .i64 0, .int .i64 0, .int .i64 0, .int .i64 0] := ⟨fun _ => ⟨.agg #[.int .i64 0, .int .i64 0, .int .i64 0, .int .i64 0, .int .i64 0, .slice none 0 0, .slice none 0 0, .int .i64 0, .int .i64 0, .int .i64 0, .int .i64 0, .int .i64 0, .int .i64 0, .int .i64 0, .int .i64 0, .int .i64 0, .int .i64 0, .int .i64 0, .int .i64 0, .int .i64 0, .int .i64 0], by kernel_rfl, rfl⟩⟩
instance : OneTy Tryz.prog 31 := ⟨⟨_, Tryz.underlying31, rfl⟩, by kernel_rfl⟩
instance : ZeroTy Tryz.prog 31 [.slice none 0 0] := ⟨fun _ => ⟨.slice none 0 0, by kernel_rfl, rfl⟩⟩
instance : OneTy Tryz.prog 47 := ⟨⟨_, Tryz.underlying47, rfl⟩, by kernel_rfl⟩
instance : ZeroTy Tryz.prog 47 [.slice none 0 0] := ⟨fun _ => ⟨.slice none 0 0, by kernel_rfl, rfl⟩⟩
instance : RowTy Tryz.prog 49 7 := ⟨⟨_, Tryz.underlying49, rfl⟩, by kernel_rfl⟩
instance : ZeroTy Tryz.prog 49 [.int .i64 0, .int .i64 0, .int .i64 0, .int .i64 0, .int .i64 0, .int .i64 0, .slice none 0 0] := ⟨fun _ => ⟨.agg #[.int .i64 0, .int .i64 0, .int .i64 0, .int .i64 0, .int .i64 0, .int .i64 0, .slice none 0 0], by kernel_rfl, rfl⟩⟩
instance : OneTy Tryz.prog 57 := ⟨⟨_, Tryz.underlying57, rfl⟩, by kernel_rfl⟩
instance : ZeroTy Tryz.prog 57 [.slice none 0 0] := ⟨fun _ => ⟨.slice none 0 0, by kernel_rfl, rfl⟩⟩
instance : OneTy Tryz.prog 66 := ⟨⟨_, Tryz.underlying66, rfl⟩, by kernel_rfl⟩
instance : ZeroTy Tryz.prog 66 [.slice none 0 0] := ⟨fun _ => ⟨.slice none 0 0, by kernel_rfl, rfl⟩⟩
instance : RowTy Tryz.prog 68 5 := ⟨⟨_, Tryz.underlying68, rfl⟩, by kernel_rfl⟩
instance : ZeroTy Tryz.prog 68 [.int .i64 0, .int .i64 0, .int .i64 0, .int .i64 0, .slice none 0 0] := ⟨fun _ => ⟨.agg #[.int .i64 0, .int .i64 0, .int .i64 0, .int .i64 0, .slice none 0 0], by kernel_rfl, rfl⟩⟩
instance : OneTy Tryz.prog 74 := ⟨⟨_, Tryz.underlying74, rfl⟩, by kernel_rfl⟩
instance : ZeroTy Tryz.prog 74 [.nilFunc] := ⟨fun _ => ⟨.nilFunc, by kernel_rfl, rfl⟩⟩
instance : RowTy Tryz.prog 77 4 := ⟨⟨_, Tryz.underlying77, rfl⟩, by kernel_rfl⟩
instance : ZeroTy Tryz.prog 77 [.int .i64 0, .int .i64 0, .int .i64 0, .int .i64 0] := ⟨fun _ => ⟨.agg #[.int .i64 0, .int .i64 0, .int .i64 0, .int .i64 0], by kernel_rfl, rfl⟩⟩
instance : RowTy Tryz.prog 80 6 := ⟨⟨_, Tryz.underlying80, rfl⟩, by kernel_rfl⟩
instance : ZeroTy Tryz.prog 80 [.int .i64 0, .int .i64 0, .int .i64 0, .int .i64 0, .int .i64 0, .int .i64 0] := ⟨fun _ => ⟨.agg #[.int .i64 0, .int .i64 0, .int .i64 0, .int .i64 0, .int .i64 0, .int .i64 0], by kernel_rfl, rfl⟩⟩
instance : RowTy Tryz.prog 82 18 := ⟨⟨_, Tryz.underlying82, rfl⟩, by kernel_rfl⟩
instance : ZeroTy Tryz.prog 82 [.int .i64 0, .int .i64 0, .int .i64 0, .int .i64 0, .int .i64 0, .int .i64 0, .int .i64 0, .int .i64 0, .int .i64 0, .int .i64 0, .int .i64 0, .int .i64 0, .int .i64 0, .int .i64 0, .int .i64 0, .slice none 0 0, .int .i64 0, .int .i64 0] := ⟨fun _ => ⟨.agg #[.int .i64 0, .int .i64 0, .int .i64 0, .int .i64 0, .int .i64 0, .int .i64 0, .int .i64 0, .int .i64 0, .int .i64 0, .int .i64 0, .int .i64 0, .int .i64 0, .int .i64 0, .int .i64 0, .int .i64 0, .slice none 0 0, .int .i64 0, .int .i64 0], by kernel_rfl, rfl⟩⟩
instance : OneTy Tryz.prog 84 := ⟨⟨_, Tryz.underlying84, rfl⟩, by kernel_rfl⟩
instance : ZeroTy Tryz.prog 84 [.int .u64 0] := ⟨fun _ => ⟨.int .u64 0, by kernel_rfl, rfl⟩⟩
instance : RowTy Tryz.prog 86 1 := ⟨⟨_, Tryz.underlying86, rfl⟩, by kernel_rfl⟩
instance : ZeroTy Tryz.prog 86 [.int .u64 0] := ⟨fun _ => ⟨.agg #[.int .u64 0], by kernel_rfl, rfl⟩⟩
instance : OneTy Tryz.prog 93 := ⟨⟨_, Tryz.underlying93, rfl⟩, by kernel_rfl⟩
instance : ZeroTy Tryz.prog 93 [.slice none 0 0] := ⟨fun _ => ⟨.slice none 0 0, by kernel_rfl, rfl⟩⟩
instance : OneTy Tryz.prog 98 := ⟨⟨_, Tryz.underlying98, rfl⟩, by kernel_rfl⟩
instance : ZeroTy Tryz.prog 98 [.nilFunc] := ⟨fun _ => ⟨.nilFunc, by kernel_rfl, rfl⟩⟩
instance : RowTy Tryz.prog 100 3 := ⟨⟨_, Tryz.underlying100, rfl⟩, by kernel_rfl⟩
instance : ZeroTy Tryz.prog 100 [.string ⟨#[]⟩, .string ⟨#[]⟩, .nilFunc] := ⟨fun _ => ⟨.agg #[.string ⟨#[]⟩, .string ⟨#[]⟩, .nilFunc], by kernel_rfl, rfl⟩⟩
instance : OneTy Tryz.prog 110 := ⟨⟨_, Tryz.underlying110, rfl⟩, by kernel_rfl⟩
instance : ZeroTy Tryz.prog 110 [.slice none 0 0] := ⟨fun _ => ⟨.slice none 0 0, by kernel_rfl, rfl⟩⟩
instance : RowTy Tryz.prog 119 4 := ⟨⟨_, Tryz.underlying119, rfl⟩, by kernel_rfl⟩
instance : ZeroTy Tryz.prog 119 [.int .i64 0, .int .i64 0, .bool false, .int .i64 0] := ⟨fun _ => ⟨.agg #[.int .i64 0, .int .i64 0, .bool false, .int .i64 0], by kernel_rfl, rfl⟩⟩
instance : RowTy Tryz.prog 123 3 := ⟨⟨_, Tryz.underlying123, rfl⟩, by kernel_rfl⟩
instance : ZeroTy Tryz.prog 123 [.int .i64 0, .int .i64 0, .bool false] := ⟨fun _ => ⟨.agg #[.int .i64 0, .int .i64 0, .bool false], by kernel_rfl, rfl⟩⟩
instance : OneTy Tryz.prog 133 := ⟨⟨_, Tryz.underlying133, rfl⟩, by kernel_rfl⟩
instance : ZeroTy Tryz.prog 133 [.nilIface] := ⟨fun _ => ⟨.nilIface, by kernel_rfl, rfl⟩⟩
instance : RowTy Tryz.prog 137 1 := ⟨⟨_, Tryz.underlying137, rfl⟩, by kernel_rfl⟩
instance : ZeroTy Tryz.prog 137 [.int .i64 0] := ⟨fun _ => ⟨.agg #[.int .i64 0], by kernel_rfl, rfl⟩⟩
instance : OneTy Tryz.prog 147 := ⟨⟨_, Tryz.underlying147, rfl⟩, by kernel_rfl⟩
instance : ZeroTy Tryz.prog 147 [.nilFunc] := ⟨fun _ => ⟨.nilFunc, by kernel_rfl, rfl⟩⟩
instance : RowTy Tryz.prog 152 6 := ⟨⟨_, Tryz.underlying152, rfl⟩, by kernel_rfl⟩
instance : ZeroTy Tryz.prog 152 [.int .i64 0, .int .i64 0, .int .i64 0, .int .i64 0, .slice none 0 0, .slice none 0 0] := ⟨fun _ => ⟨.agg #[.int .i64 0, .int .i64 0, .int .i64 0, .int .i64 0, .slice none 0 0, .slice none 0 0], by kernel_rfl, rfl⟩⟩
instance : OneTy Tryz.prog 159 := ⟨⟨_, Tryz.underlying159, rfl⟩, by kernel_rfl⟩
instance : ZeroTy Tryz.prog 159 [.slice none 0 0] := ⟨fun _ => ⟨.slice none 0 0, by kernel_rfl, rfl⟩⟩
instance : OneTy Tryz.prog 161 := ⟨⟨_, Tryz.underlying161, rfl⟩, by kernel_rfl⟩
instance : ZeroTy Tryz.prog 161 [.nilFunc] := ⟨fun _ => ⟨.nilFunc, by kernel_rfl, rfl⟩⟩
instance : RowTy Tryz.prog 174 2 := ⟨⟨_, Tryz.underlying174, rfl⟩, by kernel_rfl⟩
instance : ZeroTy Tryz.prog 174 [.slice none 0 0, .slice none 0 0] := ⟨fun _ => ⟨.agg #[.slice none 0 0, .slice none 0 0], by kernel_rfl, rfl⟩⟩
instance : OneTy Tryz.prog 175 := ⟨⟨_, Tryz.underlying175, rfl⟩, by kernel_rfl⟩
instance : ZeroTy Tryz.prog 175 [.nilFunc] := ⟨fun _ => ⟨.nilFunc, by kernel_rfl, rfl⟩⟩
instance : RowTy Tryz.prog 184 9 := ⟨⟨_, Tryz.underlying184, rfl⟩, by kernel_rfl⟩
instance : ZeroTy Tryz.prog 184 [.int .i64 0, .int .i64 0, .int .i64 0, .int .i64 0, .int .i64 0, .int .i64 0, .slice none 0 0, .nilFunc, .nilFunc] := ⟨fun _ => ⟨.agg #[.int .i64 0, .int .i64 0, .int .i64 0, .int .i64 0, .int .i64 0, .int .i64 0, .slice none 0 0, .nilFunc, .nilFunc], by kernel_rfl, rfl⟩⟩
instance : OneTy Tryz.prog 185 := ⟨⟨_, Tryz.underlying185, rfl⟩, by kernel_rfl⟩
instance : ZeroTy Tryz.prog 185 [.map none] := ⟨fun _ => ⟨.map none, by kernel_rfl, rfl⟩⟩
instance : RowTy Tryz.prog 187 11 := ⟨⟨_, Tryz.underlying187, rfl⟩, by kernel_rfl⟩
instance : ZeroTy Tryz.prog 187 [.int .i64 0, .int .i64 0, .int .i64 0, .int .i64 0, .int .i64 0, .int .i64 0, .slice none 0 0, .nilFunc, .nilFunc, .slice none 0 0, .map none] := ⟨fun _ => ⟨.agg #[.int .i64 0, .int .i64 0, .int .i64 0, .int .i64 0, .int .i64 0, .int .i64 0, .slice none 0 0, .nilFunc, .nilFunc, .slice none 0 0, .map none], by kernel_rfl, rfl⟩⟩
instance : OneTy Tryz.prog 191 := ⟨⟨_, Tryz.underlying191, rfl⟩, by kernel_rfl⟩
instance : ZeroTy Tryz.prog 191 [.int .u64 0] := ⟨fun _ => ⟨.int .u64 0, by kernel_rfl, rfl⟩⟩
instance : RowTy Tryz.prog 193 3 := ⟨⟨_, Tryz.underlying193, rfl⟩, by kernel_rfl⟩
instance : ZeroTy Tryz.prog 193 [.int .u64 0, .int .i64 0, .int .i64 0] := ⟨fun _ => ⟨.agg #[.int .u64 0, .int .i64 0, .int .i64 0], by kernel_rfl, rfl⟩⟩
instance : RowTy Tryz.prog 202 4 := ⟨⟨_, Tryz.underlying202, rfl⟩, by kernel_rfl⟩
instance : ZeroTy Tryz.prog 202 [.int .i64 0, .int .i64 0, .int .i64 0, .int .i64 0] := ⟨fun _ => ⟨.agg #[.int .i64 0, .int .i64 0, .int .i64 0, .int .i64 0], by kernel_rfl, rfl⟩⟩
instance : RowTy Tryz.prog 207 5 := ⟨⟨_, Tryz.underlying207, rfl⟩, by kernel_rfl⟩
instance : ZeroTy Tryz.prog 207 [.int .i64 0, .int .i64 0, .int .i64 0, .int .i64 0, .int .i64 0] := ⟨fun _ => ⟨.agg #[.int .i64 0, .int .i64 0, .int .i64 0, .int .i64 0, .int .i64 0], by kernel_rfl, rfl⟩⟩
instance : OneTy Tryz.prog 209 := ⟨⟨_, Tryz.underlying209, rfl⟩, by kernel_rfl⟩
instance : ZeroTy Tryz.prog 209 [.nilFunc] := ⟨fun _ => ⟨.nilFunc, by kernel_rfl, rfl⟩⟩
instance : OneTy Tryz.prog 210 := ⟨⟨_, Tryz.underlying210, rfl⟩, by kernel_rfl⟩
instance : ZeroTy Tryz.prog 210 [.nilFunc] := ⟨fun _ => ⟨.nilFunc, by kernel_rfl, rfl⟩⟩
instance : OneTy Tryz.prog 212 := ⟨⟨_, Tryz.underlying212, rfl⟩, by kernel_rfl⟩
instance : ZeroTy Tryz.prog 212 [.pointer none] := ⟨fun _ => ⟨.pointer none, by kernel_rfl, rfl⟩⟩
instance : RowTy Tryz.prog 214 2 := ⟨⟨_, Tryz.underlying214, rfl⟩, by kernel_rfl⟩
instance : ZeroTy Tryz.prog 214 [.pointer none, .slice none 0 0] := ⟨fun _ => ⟨.agg #[.pointer none, .slice none 0 0], by kernel_rfl, rfl⟩⟩
instance : OneTy Tryz.prog 226 := ⟨⟨_, Tryz.underlying226, rfl⟩, by kernel_rfl⟩
instance : ZeroTy Tryz.prog 226 [.nilIface] := ⟨fun _ => ⟨.nilIface, by kernel_rfl, rfl⟩⟩
instance : RowTy Tryz.prog 237 2 := ⟨⟨_, Tryz.underlying237, rfl⟩, by kernel_rfl⟩
instance : ZeroTy Tryz.prog 237 [.slice none 0 0, .bool false] := ⟨fun _ => ⟨.agg #[.slice none 0 0, .bool false], by kernel_rfl, rfl⟩⟩
instance : OneTy Tryz.prog 240 := ⟨⟨_, Tryz.underlying240, rfl⟩, by kernel_rfl⟩
instance : ZeroTy Tryz.prog 240 [.nilFunc] := ⟨fun _ => ⟨.nilFunc, by kernel_rfl, rfl⟩⟩
instance : OneTy Tryz.prog 241 := ⟨⟨_, Tryz.underlying241, rfl⟩, by kernel_rfl⟩
instance : ZeroTy Tryz.prog 241 [.nilFunc] := ⟨fun _ => ⟨.nilFunc, by kernel_rfl, rfl⟩⟩
instance : RowTy Tryz.prog 243 21 := ⟨⟨_, Tryz.underlying243, rfl⟩, by kernel_rfl⟩
instance : ZeroTy Tryz.prog 243 [.int .i64 0, .int .i64 0, .int .i64 0, .int .i64 0, .int .i64 0, .int .i64 0, .int .i64 0, .int .i64 0, .int .i64 0, .int .i64 0, .int .i64 0, .int .i64 0, .int .i64 0, .int .i64 0, .int .i64 0, .slice none 0 0, .int .i64 0, .int .i64 0, .int .i64 0, .int .i64 0, .nilFunc] := ⟨fun _ => ⟨.agg #[.int .i64 0, .int .i64 0, .int .i64 0, .int .i64 0, .int .i64 0, .int .i64 0, .int .i64 0, .int .i64 0, .int .i64 0, .int .i64 0, .int .i64 0, .int .i64 0, .int .i64 0, .int .i64 0, .int .i64 0, .slice none 0 0, .int .i64 0, .int .i64 0, .int .i64 0, .int .i64 0, .nilFunc], by kernel_rfl, rfl⟩⟩
instance : RowTy Tryz.prog 247 5 := ⟨⟨_, Tryz.underlying247, rfl⟩, by kernel_rfl⟩
instance : ZeroTy Tryz.prog 247 [.int .i64 0, .int .i64 0, .int .i64 0, .int .i64 0, .int .i64 0] := ⟨fun _ => ⟨.agg #[.int .i64 0, .int .i64 0, .int .i64 0, .int .i64 0, .int .i64 0], by kernel_rfl, rfl⟩⟩
instance : OneTy Tryz.prog 249 := ⟨⟨_, Tryz.underlying249, rfl⟩, by kernel_rfl⟩
instance : ZeroTy Tryz.prog 249 [.map none] := ⟨fun _ => ⟨.map none, by kernel_rfl, rfl⟩⟩
instance : RowTy Tryz.prog 252 2 := ⟨⟨_, Tryz.underlying252, rfl⟩, by kernel_rfl⟩
instance : ZeroTy Tryz.prog 252 [.int .i64 0, .int .i64 0] := ⟨fun _ => ⟨.agg #[.int .i64 0, .int .i64 0], by kernel_rfl, rfl⟩⟩
instance : RowTy Tryz.prog 253 2 := ⟨⟨_, Tryz.underlying253, rfl⟩, by kernel_rfl⟩
instance : ZeroTy Tryz.prog 253 [.int .i64 0, .int .i64 0] := ⟨fun _ => ⟨.agg #[.int .i64 0, .int .i64 0], by kernel_rfl, rfl⟩⟩
instance : OneTy Tryz.prog 265 := ⟨⟨_, Tryz.underlying265, rfl⟩, by kernel_rfl⟩
instance : ZeroTy Tryz.prog 265 [.nilFunc] := ⟨fun _ => ⟨.nilFunc, by kernel_rfl, rfl⟩⟩
instance : RowTy Tryz.prog 271 6 := ⟨⟨_, Tryz.underlying271, rfl⟩, by kernel_rfl⟩
instance : ZeroTy Tryz.prog 271 [.int .u64 0, .int .i64 0, .int .i64 0, .int .u64 0, .int .i64 0, .int .i64 0] := ⟨fun _ => ⟨.agg #[.int .u64 0, .int .i64 0, .int .i64 0, .int .u64 0, .int .i64 0, .int .i64 0], by kernel_rfl, rfl⟩⟩
instance : OneTy Tryz.prog 272 := ⟨⟨_, Tryz.underlying272, rfl⟩, by kernel_rfl⟩
instance : ZeroTy Tryz.prog 272 [.map none] := ⟨fun _ => ⟨.map none, by kernel_rfl, rfl⟩⟩
instance : OneTy Tryz.prog 297 := ⟨⟨_, Tryz.underlying297, rfl⟩, by kernel_rfl⟩
instance : ZeroTy Tryz.prog 297 [.nilFunc] := ⟨fun _ => ⟨.nilFunc, by kernel_rfl, rfl⟩⟩
instance : OneTy Tryz.prog 301 := ⟨⟨_, Tryz.underlying301, rfl⟩, by kernel_rfl⟩
instance : ZeroTy Tryz.prog 301 [.map none] := ⟨fun _ => ⟨.map none, by kernel_rfl, rfl⟩⟩
instance : RowTy Tryz.prog 308 24 := ⟨⟨_, Tryz.underlying308, rfl⟩, by kernel_rfl⟩
instance : ZeroTy Tryz.prog 308 [.int .u8 0, .int .u8 0, .int .u8 0, .int .u8 0, .int .u8 0, .int .u8 0, .int .u8 0, .int .u8 0, .int .u8 0, .int .u8 0, .int .u8 0, .int .u8 0, .int .u8 0, .int .u8 0, .int .u8 0, .int .u8 0, .int .u8 0, .int .u8 0, .int .u8 0, .int .u8 0, .int .u8 0, .int .u8 0, .int .u8 0, .int .u8 0] := ⟨fun _ => ⟨.agg #[.int .u8 0, .int .u8 0, .int .u8 0, .int .u8 0, .int .u8 0, .int .u8 0, .int .u8 0, .int .u8 0, .int .u8 0, .int .u8 0, .int .u8 0, .int .u8 0, .int .u8 0, .int .u8 0, .int .u8 0, .int .u8 0, .int .u8 0, .int .u8 0, .int .u8 0, .int .u8 0, .int .u8 0, .int .u8 0, .int .u8 0, .int .u8 0], by kernel_rfl, rfl⟩⟩
instance : OneTy Tryz.prog 321 := ⟨⟨_, Tryz.underlying321, rfl⟩, by kernel_rfl⟩
instance : ZeroTy Tryz.prog 321 [.nilFunc] := ⟨fun _ => ⟨.nilFunc, by kernel_rfl, rfl⟩⟩
instance : RowTy Tryz.prog 334 20 := ⟨⟨_, Tryz.underlying334, rfl⟩, by kernel_rfl⟩
instance : ZeroTy Tryz.prog 334 [.int .u64 0, .int .u64 0, .int .u64 0, .int .u64 0, .int .u64 0, .int .u64 0, .int .u64 0, .int .u64 0, .int .u64 0, .int .u64 0, .int .u64 0, .int .u64 0, .int .u64 0, .int .u64 0, .int .u64 0, .int .u64 0, .int .u64 0, .int .u64 0, .int .u64 0, .int .u64 0] := ⟨fun _ => ⟨.agg #[.int .u64 0, .int .u64 0, .int .u64 0, .int .u64 0, .int .u64 0, .int .u64 0, .int .u64 0, .int .u64 0, .int .u64 0, .int .u64 0, .int .u64 0, .int .u64 0, .int .u64 0, .int .u64 0, .int .u64 0, .int .u64 0, .int .u64 0, .int .u64 0, .int .u64 0, .int .u64 0], by kernel_rfl, rfl⟩⟩
instance : RowTy Tryz.prog 336 65 := ⟨⟨_, Tryz.underlying336, rfl⟩, by kernel_rfl⟩
instance : ZeroTy Tryz.prog 336 [.int .u8 0, .int .u8 0, .int .u8 0, .int .u8 0, .int .u8 0, .int .u8 0, .int .u8 0, .int .u8 0, .int .u8 0, .int .u8 0, .int .u8 0, .int .u8 0, .int .u8 0, .int .u8 0, .int .u8 0, .int .u8 0, .int .u8 0, .int .u8 0, .int .u8 0, .int .u8 0, .int .u8 0, .int .u8 0, .int .u8 0, .int .u8 0, .int .u8 0, .int .u8 0, .int .u8 0, .int .u8 0, .int .u8 0, .int .u8 0, .int .u8 0, .int .u8 0, .int .u8 0, .int .u8 0, .int .u8 0, .int .u8 0, .int .u8 0, .int .u8 0, .int .u8 0, .int .u8 0, .int .u8 0, .int .u8 0, .int .u8 0, .int .u8 0, .int .u8 0, .int .u8 0, .int .u8 0, .int .u8 0, .int .u8 0, .int .u8 0, .int .u8 0, .int .u8 0, .int .u8 0, .int .u8 0, .int .u8 0, .int .u8 0, .int .u8 0, .int .u8 0, .int .u8 0, .int .u8 0, .int .u8 0, .int .u8 0, .int .u8 0, .int .u8 0, .int .u8 0] := ⟨fun _ => ⟨.agg #[.int .u8 0, .int .u8 0, .int .u8 0, .int .u8 0, .int .u8 0, .int .u8 0, .int .u8 0, .int .u8 0, .int .u8 0, .int .u8 0, .int .u8 0, .int .u8 0, .int .u8 0, .int .u8 0, .int .u8 0, .int .u8 0, .int .u8 0, .int .u8 0, .int .u8 0, .int .u8 0, .int .u8 0, .int .u8 0, .int .u8 0, .int .u8 0, .int .u8 0, .int .u8 0, .int .u8 0, .int .u8 0, .int .u8 0, .int .u8 0, .int .u8 0, .int .u8 0, .int .u8 0, .int .u8 0, .int .u8 0, .int .u8 0, .int .u8 0, .int .u8 0, .int .u8 0, .int .u8 0, .int .u8 0, .int .u8 0, .int .u8 0, .int .u8 0, .int .u8 0, .int .u8 0, .int .u8 0, .int .u8 0, .int .u8 0, .int .u8 0, .int .u8 0, .int .u8 0, .int .u8 0, .int .u8 0, .int .u8 0, .int .u8 0, .int .u8 0, .int .u8 0, .int .u8 0, .int .u8 0, .int .u8 0, .int .u8 0, .int .u8 0, .int .u8 0, .int .u8 0], by kernel_rfl, rfl⟩⟩
instance : RowTy Tryz.prog 346 15 := ⟨⟨_, Tryz.underlying346, rfl⟩, by kernel_rfl⟩
instance : ZeroTy Tryz.prog 346 [.int .i64 0, .int .i64 0, .int .i64 0, .int .i64 0, .int .i64 0, .int .i64 0, .int .i64 0, .int .i64 0, .int .i64 0, .int .i64 0, .int .i64 0, .int .i64 0, .int .i64 0, .int .i64 0, .int .i64 0] := ⟨fun _ => ⟨.agg #[.int .i64 0, .int .i64 0, .int .i64 0, .int .i64 0, .int .i64 0, .int .i64 0, .int .i64 0, .int .i64 0, .int .i64 0, .int .i64 0, .int .i64 0, .int .i64 0, .int .i64 0, .int .i64 0, .int .i64 0], by kernel_rfl, rfl⟩⟩
instance : RowTy Tryz.prog 350 2 := ⟨⟨_, Tryz.underlying350, rfl⟩, by kernel_rfl⟩
instance : ZeroTy Tryz.prog 350 [.int .u8 0, .int .u8 0] := ⟨fun _ => ⟨.agg #[.int .u8 0, .int .u8 0], by kernel_rfl, rfl⟩⟩
instance : RowTy Tryz.prog 351 32 := ⟨⟨_, Tryz.underlying351, rfl⟩, by kernel_rfl⟩
instance : ZeroTy Tryz.prog 351 [.int .u8 0, .int .u8 0, .int .u8 0, .int .u8 0, .int .u8 0, .int .u8 0, .int .u8 0, .int .u8 0, .int .u8 0, .int .u8 0, .int .u8 0, .int .u8 0, .int .u8 0, .int .u8 0, .int .u8 0, .int .u8 0, .int .u8 0, .int .u8 0, .int .u8 0, .int .u8 0, .int .u8 0, .int .u8 0, .int .u8 0, .int .u8 0, .int .u8 0, .int .u8 0, .int .u8 0, .int .u8 0, .int .u8 0, .int .u8 0, .int .u8 0, .int .u8 0] := ⟨fun _ => ⟨.agg #[.int .u8 0, .int .u8 0, .int .u8 0, .int .u8 0, .int .u8 0, .int .u8 0, .int .u8 0, .int .u8 0, .int .u8 0, .int .u8 0, .int .u8 0, .int .u8 0, .int .u8 0, .int .u8 0, .int .u8 0, .int .u8 0, .int .u8 0, .int .u8 0, .int .u8 0, .int .u8 0, .int .u8 0, .int .u8 0, .int .u8 0, .int .u8 0, .int .u8 0, .int .u8 0, .int .u8 0, .int .u8 0, .int .u8 0, .int .u8 0, .int .u8 0, .int .u8 0], by kernel_rfl, rfl⟩⟩
instance : RowTy Tryz.prog 358 3 := ⟨⟨_, Tryz.underlying358, rfl⟩, by kernel_rfl⟩
instance : ZeroTy Tryz.prog 358 [.string ⟨#[]⟩, .string ⟨#[]⟩, .nilIface] := ⟨fun _ => ⟨.agg #[.string ⟨#[]⟩, .string ⟨#[]⟩, .nilIface], by kernel_rfl, rfl⟩⟩
instance : RowTy Tryz.prog 360 32 := ⟨⟨_, Tryz.underlying360, rfl⟩, by kernel_rfl⟩
instance : ZeroTy Tryz.prog 360 [.int .u8 0, .int .u8 0, .int .u8 0, .int .u8 0, .int .u8 0, .int .u8 0, .int .u8 0, .int .u8 0, .int .u8 0, .int .u8 0, .int .u8 0, .int .u8 0, .int .u8 0, .int .u8 0, .int .u8 0, .int .u8 0, .int .u8 0, .int .u8 0, .int .u8 0, .int .u8 0, .int .u8 0, .int .u8 0, .int .u8 0, .int .u8 0, .int .u8 0, .int .u8 0, .int .u8 0, .int .u8 0, .int .u8 0, .int .u8 0, .int .u8 0, .int .u8 0] := ⟨fun _ => ⟨.agg #[.int .u8 0, .int .u8 0, .int .u8 0, .int .u8 0, .int .u8 0, .int .u8 0, .int .u8 0, .int .u8 0, .int .u8 0, .int .u8 0, .int .u8 0, .int .u8 0, .int .u8 0, .int .u8 0, .int .u8 0, .int .u8 0, .int .u8 0, .int .u8 0, .int .u8 0, .int .u8 0, .int .u8 0, .int .u8 0, .int .u8 0, .int .u8 0, .int .u8 0, .int .u8 0, .int .u8 0, .int .u8 0, .int .u8 0, .int .u8 0, .int .u8 0, .int .u8 0], by kernel_rfl, rfl⟩⟩
instance : RowTy Tryz.prog 361 64 := ⟨⟨_, Tryz.underlying361, rfl⟩, by kernel_rfl⟩
instance : ZeroTy Tryz.prog 361 [.int .u8 0, .int .u8 0, .int .u8 0, .int .u8 0, .int .u8 0, .int .u8 0, .int .u8 0, .int .u8 0, .int .u8 0, .int .u8 0, .int .u8 0, .int .u8 0, .int .u8 0, .int .u8 0, .int .u8 0, .int .u8 0, .int .u8 0, .int .u8 0, .int .u8 0, .int .u8 0, .int .u8 0, .int .u8 0, .int .u8 0, .int .u8 0, .int .u8 0, .int .u8 0, .int .u8 0, .int .u8 0, .int .u8 0, .int .u8 0, .int .u8 0, .int .u8 0, .int .u8 0, .int .u8 0, .int .u8 0, .int .u8 0, .int .u8 0, .int .u8 0, .int .u8 0, .int .u8 0, .int .u8 0, .int .u8 0, .int .u8 0, .int .u8 0, .int .u8 0, .int .u8 0, .int .u8 0, .int .u8 0, .int .u8 0, .int .u8 0, .int .u8 0, .int .u8 0, .int .u8 0, .int .u8 0, .int .u8 0, .int .u8 0, .int .u8 0, .int .u8 0, .int .u8 0, .int .u8 0, .int .u8 0, .int .u8 0, .int .u8 0, .int .u8 0] := ⟨fun _ => ⟨.agg #[.int .u8 0, .int .u8 0, .int .u8 0, .int .u8 0, .int .u8 0, .int .u8 0, .int .u8 0, .int .u8 0, .int .u8 0, .int .u8 0, .int .u8 0, .int .u8 0, .int .u8 0, .int .u8 0, .int .u8 0, .int .u8 0, .int .u8 0, .int .u8 0, .int .u8 0, .int .u8 0, .int .u8 0, .int .u8 0, .int .u8 0, .int .u8 0, .int .u8 0, .int .u8 0, .int .u8 0, .int .u8 0, .int .u8 0, .int .u8 0, .int .u8 0, .int .u8 0, .int .u8 0, .int .u8 0, .int .u8 0, .int .u8 0, .int .u8 0, .int .u8 0, .int .u8 0, .int .u8 0, .int .u8 0, .int .u8 0, .int .u8 0, .int .u8 0, .int .u8 0, .int .u8 0, .int .u8 0, .int .u8 0, .int .u8 0, .int .u8 0, .int .u8 0, .int .u8 0, .int .u8 0, .int .u8 0, .int .u8 0, .int .u8 0, .int .u8 0, .int .u8 0, .int .u8 0, .int .u8 0, .int .u8 0, .int .u8 0, .int .u8 0, .int .u8 0], by kernel_rfl, rfl⟩⟩
instance : RowTy Tryz.prog 366 1 := ⟨⟨_, Tryz.underlying366, rfl⟩, by kernel_rfl⟩
instance : ZeroTy Tryz.prog 366 [.string ⟨#[]⟩] := ⟨fun _ => ⟨.agg #[.string ⟨#[]⟩], by kernel_rfl, rfl⟩⟩
structure TmD (df : List Deferred) (a : Act) (n : Nat) (E : List (Nat × Value)) : Prop where
 defers : a.defers = df
 size : a.tmps.size = n
 get : ∀ p ∈ E, a.eval (.tmp p.1) = p.2
abbrev Tm (a : Act) (n : Nat) (E : List (Nat × Value)) : Prop := TmD [] a n E
theorem subL {α : Type} {I L T : List α} (h : I.Sublist L) : I.Sublist (L ++ T) := h.trans (List.sublist_append_left _ _)
def nthE {α : Type} : List α → Nat → Option α
 | [], _ => none
 | x :: _, 0 => some x
 | _ :: l, i + 1 => nthE l i
theorem Zne {α : Type} : ∀ {l : List α} {i : Nat} {x : α}, nthE l i = some x → x ∈ l
 | [], _, _, h => by simp [nthE] at h
 | y :: l, 0, x, h => by simp [nthE] at h; simp [h]
 | y :: l, i + 1, x, h => List.mem_cons_of_mem _ (Zne (l := l) (i := i) (by simpa [nthE] using h))
theorem nthE_get {α : Type} : ∀ {l : List α} {i : Nat} {x : α}, nthE l i = some x → l[i]? = some x
 | [], _, _, h => by simp [nthE] at h
 | y :: l, 0, x, h => by simpa [nthE] using h
 | y :: l, i + 1, x, h => by
  have := nthE_get (l := l) (i := i) (x := x) (by simpa [nthE] using h)
  simpa using this
def freshE : List (Nat × Value) → Nat → Bool
 | [], _ => true
 | p :: l, t => match Nat.beq p.1 t with | true => false | false => freshE l t
theorem freshE_ne : ∀ {l : List (Nat × Value)} {t : Nat}, freshE l t = true → ∀ p ∈ l, p.1 ≠ t
 | [], _, _, p, hp => by cases hp
 | q :: l, t, h, p, hp => by
  unfold freshE at h
  cases hq : Nat.beq q.1 t with
  | true => rw [hq] at h; simp at h
  | false =>
   rw [hq] at h
   rcases List.mem_cons.1 hp with rfl | hp
   ·intro e; rw [e] at hq; simp at hq
   ·exact freshE_ne (by simpa using h) p hp
def pickE {α : Type} (E : List α) : List Nat → Option (List α)
 | [] => some []
 | i :: r => match nthE E i with
  | none => none
  | some x => match pickE E r with
   | none => none
   | some l => some (x :: l)
theorem pickE_mem {α : Type} {E : List α} : ∀ {is : List Nat} {l : List α}, pickE E is = some l → ∀ x ∈ l, x ∈ E
 | [], l, h, x, hx => by simp [pickE] at h; subst h; cases hx
 | i :: r, l, h, x, hx => by
  unfold pickE at h
  cases h1 : nthE E i with
  | none => rw [h1] at h; cases h
  | some y =>
   rw [h1] at h
   cases h2 : pickE E r with
   | none => rw [h2] at h; cases h
   | some l' =>
    rw [h2] at h
    simp only [Option.some.injEq] at h
    subst h
    rcases List.mem_cons.1 hx with rfl | hx
    ·exact Zne h1
    ·exact pickE_mem h2 x hx
def maskE {α : Type} : List α → List Bool → List α
 | x :: l, true :: m => x :: maskE l m
 | _ :: l, false :: m => maskE l m
 | l, _ => l
theorem maskE_sub {α : Type} : ∀ (l : List α) (m : List Bool), (maskE l m).Sublist l
 | [], [] => by simp [maskE]
 | [], _ :: _ => by simp [maskE]
 | _ :: _, [] => by simp [maskE]
 | x :: l, true :: m => (maskE_sub l m).cons_cons x
 | x :: l, false :: m => (maskE_sub l m).cons x
section
variable {df : List Deferred} {a : Act} {n t : Nat} {E E' : List (Nat × Value)} {v : Value}
theorem TmD.ev (T : TmD df a n E) (i : Nat) {t : Nat} {v : Value} (h : nthE E i = some (t, v)) : a.eval (.tmp t) = v := T.get _ (Zne h)
theorem TmD.pick (T : TmD df a n E) (is : List Nat) (h : pickE E is = some E') : TmD df a n E' := ⟨T.defers, T.size, fun p hp => T.get p (pickE_mem h p hp)⟩
theorem TmD.as (T : TmD df a n E) (h : E = E') : TmD df a n E' := h ▸ T
theorem TmD.put (T : TmD df a n E) (hn : Nat.blt t n = true) (hf : freshE E t = true) (v : Value) : TmD df (a.put (some t) v) n ((t, v) :: E) := by
 have hn : t < n := Nat.le_of_ble_eq_true hn
 refine ⟨T.defers, by simpa [Act.put] using T.size, fun p hp => ?_⟩
 rcases List.mem_cons.1 hp with rfl | hp
 ·have := T.size
  simp [Act.put, Act.eval, Array.getD, this, hn]
 ·have h1 := freshE_ne hf p hp
  have h2 := T.get p hp
  rw [Act.eval_put (fun d hd e => h1 (by injection hd with hd; injection e with e; rw [hd, e]))]
  exact h2
theorem TmD.put0 (T : TmD df a n E) (v : Value) : TmD df (a.put none v) n E := T
def maskR {α : Type} : List Bool → List α → Option (List α)
 | [], l => some l
 | b :: m, l => match l with
  | [] => some []
  | x :: r => match maskR m r with
   | none => none
   | some q => match b with
    | true => some (x :: q)
    | false => some q
def maskO {α : Type} (l : List α) (m : List Bool) : Option (List α) := maskR m l
theorem maskO_eq {α : Type} : ∀ (l : List α) (m : List Bool), maskO l m = some (maskE l m)
 | [], [] => rfl
 | _ :: _, [] => rfl
 | [], _ :: _ => rfl
 | x :: l, b :: m => by
  have ih : maskR m l = some (maskE l m) := maskO_eq l m
  unfold maskO maskR
  simp only [ih]
  cases b <;> rfl
theorem Mem.mask {w0 w : World} {ex : Nat → Prop} {L L' : List (Nat × BA)} (M : Mem w0 ex w L) (m : List Bool) (h : maskO L m = some L') : Mem w0 ex w L' := by
 rw [maskO_eq] at h
 injection h with h
 exact h ▸ M.sub (maskE_sub L m)
def nodupB : List Nat → Bool
 | [] => true
 | i :: r => !(r.any fun j => Nat.beq i j) && nodupB r
theorem pickE_nd {L : List (Nat × BA)} (hn : (L.map (·.1)).Nodup) : ∀ {is : List Nat} {L' : List (Nat × BA)}, pickE L is = some L' → nodupB is = true → (L'.map (·.1)).Nodup ∧ ∀ x ∈ L', ∃ i ∈ is, nthE L i = some x
 | [], L', h, _ => by simp [pickE] at h; subst h; simp
 | i :: r, L', h, hd => by
   unfold pickE at h
   cases h1 : nthE L i with
   | none => rw [h1] at h; cases h
   | some y =>
     rw [h1] at h
     cases h2 : pickE L r with
     | none => rw [h2] at h; cases h
     | some l' =>
       rw [h2] at h
       simp only [Option.some.injEq] at h
       subst h
       simp only [nodupB, Bool.and_eq_true] at hd
       obtain ⟨h3, h4⟩ := pickE_nd hn h2 hd.2
       refine ⟨List.nodup_cons.2 ⟨fun hm => ?_, h3⟩, fun x hx => ?_⟩
       · obtain ⟨z, hz, e⟩ := List.mem_map.1 hm
         obtain ⟨j, hj, hjz⟩ := h4 z hz
         have a1 := nthE_get h1
         have a2 := nthE_get hjz
         have b1 : (L.map (·.1))[i]? = some y.1 := by rw [List.getElem?_map, a1]; rfl
         have b2 : (L.map (·.1))[j]? = some y.1 := by rw [List.getElem?_map, a2]; show some z.1 = some y.1; rw [e]
         have : i = j := by
           have hi := (List.getElem?_eq_some_iff.1 b1).1
           exact (List.getElem?_inj hi hn).1 (b1.trans b2.symm)
         subst this
         have h5 := hd.1
         simp at h5
         exact absurd rfl (h5 i hj)
       · rcases List.mem_cons.1 hx with rfl | hx
         · exact ⟨i, List.mem_cons_self, h1⟩
         · obtain ⟨j, hj, h6⟩ := h4 x hx
           exact ⟨j, List.mem_cons_of_mem _ hj, h6⟩
theorem Mem.perm {w0 w : World} {ex : Nat → Prop} {L L' : List (Nat × BA)} (M : Mem w0 ex w L) (is : List Nat) (h : pickE L is = some L') (hd : nodupB is = true) : Mem w0 ex w L' :=
 ⟨M.os, M.tape, M.output, M.size, M.block, fun p hp => M.blk p (pickE_mem h p hp), (pickE_nd M.nd h hd).1⟩
def permO {α : Type} (K : List α) : Nat → List α → Option (List α)
 | 0, l => some (K ++ l)
 | k + 1, l => match l with
  | [] => none
  | _ :: r => permO K k r
theorem permO_eq {α : Type} {K : List α} : ∀ {k : Nat} {l L' : List α}, permO K k l = some L' → L' = K ++ l.drop k
 | 0, l, L', h => by simp [permO] at h; simp [h]
 | k + 1, [], L', h => by simp [permO] at h
 | k + 1, _ :: r, L', h => by
  have := permO_eq (k := k) (l := r) (by simpa [permO] using h)
  simpa using this
def allLt (k : Nat) : List Nat → Bool
 | [] => true
 | i :: r => Nat.blt i k && allLt k r
theorem allLt_mem {k : Nat} : ∀ {is : List Nat}, allLt k is = true → ∀ i ∈ is, i < k
 | [], _, i, h => by cases h
 | j :: r, h, i, hi => by
  simp only [allLt, Bool.and_eq_true] at h
  rcases List.mem_cons.1 hi with rfl | hi
  ·exact Nat.le_of_ble_eq_true h.1
  ·exact allLt_mem h.2 i hi
theorem Mem.permT {w0 w : World} {ex : Nat → Prop} {L L' K : List (Nat × BA)} (M : Mem w0 ex w L) (is : List Nat) (k : Nat) (h : pickE L is = some K) (hd : nodupB is = true) (hk : allLt k is = true) (h' : permO K k L = some L') : Mem w0 ex w L' := by
 have e := permO_eq h'
 subst e
 obtain ⟨n1, n2⟩ := pickE_nd M.nd h hd
 refine ⟨M.os, M.tape, M.output, M.size, M.block, fun p hp => M.blk p ?_, ?_⟩
 · rcases List.mem_append.1 hp with hp | hp
   · exact pickE_mem h p hp
   · exact List.mem_of_mem_drop hp
 · rw [List.map_append]
   refine List.nodup_append.2 ⟨n1, (M.nd.sublist ((List.drop_sublist k L).map _)), fun a ha b hb e => ?_⟩
   obtain ⟨x, hx, rfl⟩ := List.mem_map.1 ha
   obtain ⟨y, hy, rfl⟩ := List.mem_map.1 hb
   obtain ⟨i, hi, hix⟩ := n2 x hx
   have hik := allLt_mem hk i hi
   obtain ⟨j, hj⟩ := List.getElem?_of_mem hy
   rw [List.getElem?_drop] at hj
   have b1 : (L.map (·.1))[i]? = some x.1 := by rw [List.getElem?_map, nthE_get hix]; rfl
   have b2 : (L.map (·.1))[k + j]? = some x.1 := by rw [List.getElem?_map, hj]; show some y.1 = some x.1; rw [e]
   have := (List.getElem?_inj (List.getElem?_eq_some_iff.1 b1).1 M.nd).1 (b1.trans b2.symm)
   omega
theorem Mem.nth {w0 w : World} {ex : Nat → Prop} {L : List (Nat × BA)} {g : Nat} {l : List Value} (M : Mem w0 ex w L) (i : Nat) (h : nthE L i = some (g, .cells l)) : Bk w g l.toArray := M.get (Zne h)
end
theorem evc {a : Act} {v : Value} : a.eval (.const v) = v := rfl
theorem evf {a : Act} {f : FuncId} : a.eval (.func f) = .func (.func f) #[] #[] := rfl
inductive EvL (a : Act) : List Operand → List Value → Prop
 | nil : EvL a [] []
 | cons {x v xs vs} : a.eval x = v → EvL a xs vs → EvL a (x :: xs) (v :: vs)
theorem EvL.map {a : Act} {xs : List Operand} {vs : List Value} (h : EvL a xs vs) : xs.map a.eval = vs := by
 induction h with
 | nil => rfl
 | cons h _ ih => simp [h, ih]
inductive EvP (a : Act) : List (Nat × Operand) → List (Nat × Value) → Prop
 | nil : EvP a [] []
 | cons {i x v xs vs} : a.eval x = v → EvP a xs vs → EvP a ((i, x) :: xs) ((i, v) :: vs)
theorem EvP.map {a : Act} {xs : List (Nat × Operand)} {vs : List (Nat × Value)} (h : EvP a xs vs) : xs.map (fun p => (p.1, a.eval p.2)) = vs := by
 induction h with
 | nil => rfl
 | cons h _ ih => simp [h, ih]
section
variable {df : List Deferred} {P : Program} {ops : Array Oper} {rest : List Oper} {op : Oper} {a : Act} {Q : Exit → Act → World → Prop} {w0 w : World} {ex : Nat → Prop} {L : List (Nat × BA)} {K : Act → World → Prop} {n t : Nat} {E : List (Nat × Value)} {v : Value}
abbrev Runs (P : Program) (op : Oper) (a : Act) (v : Value) (w : World) : Prop := (execOp a.eval op).run P w = .ok (.value v) w
theorem Zrm {x : Operand} (ho : op.op = .move x) (hx : a.eval x = v) : Runs P op a v w := by unfold Runs execOp; simp only [ho, hx, Sem.run_pure]
theorem Zra {x : Operand} (ho : op.op = .assign x) (hx : a.eval x = v) : Runs P op a v w := by unfold Runs execOp; simp only [ho, hx, Sem.run_pure]
theorem Zr1 {c x y : Operand} {b : Bool} (ho : op.op = .pick c x y) (hc : a.eval c = .bool b) (hb : b = true) (hx : a.eval x = v) : Runs P op a v w := by
 subst hb; unfold Runs execOp; simp [ho, hc, hx, asBool]
theorem Zr0 {c x y : Operand} {b : Bool} (ho : op.op = .pick c x y) (hc : a.eval c = .bool b) (hb : b = false) (hx : a.eval y = v) : Runs P op a v w := by
 subst hb; unfold Runs execOp; simp [ho, hc, hx, asBool]
theorem rn_bin {o : BinOp} {t t' : TypeId} {x y : Operand} {u u' : Value} (ho : op.op = .binOp o t x y t') (hx : a.eval x = u) (hy : a.eval y = u') (hr : (do eqGuard o t x y u u'; binOp o t u u' : Sem Value).run P w = .ok v w) : Runs P op a v w := by
 unfold Runs execOp
 simp only [ho, hx, hy]
 rw [Sem.run_bind, hr]
 rfl
theorem rn_add {t t' : TypeId} {x y : Operand} {p q : Int} (ho : op.op = .binOp .add t x y t') (hx : a.eval x = .int .i64 p) (hy : a.eval y = .int .i64 q) (hb : -9223372036854775808 ≤ p + q ∧ p + q ≤ 9223372036854775807) : Runs P op a (.int .i64 (p + q)) w :=
 rn_bin ho hx hy (by show Result.ok (Value.int .i64 (IntKind.i64.wrap (p + q))) w = _; rw [IntWalk.i64_in _ hb])
theorem rn_sub {t t' : TypeId} {x y : Operand} {p q : Int} (ho : op.op = .binOp .sub t x y t') (hx : a.eval x = .int .i64 p) (hy : a.eval y = .int .i64 q) (hb : -9223372036854775808 ≤ p - q ∧ p - q ≤ 9223372036854775807) : Runs P op a (.int .i64 (p - q)) w :=
 rn_bin ho hx hy (by show Result.ok (Value.int .i64 (IntKind.i64.wrap (p - q))) w = _; rw [IntWalk.i64_in _ hb])
theorem rn_mul {t t' : TypeId} {x y : Operand} {p q : Int} (ho : op.op = .binOp .mul t x y t') (hx : a.eval x = .int .i64 p) (hy : a.eval y = .int .i64 q) (hb : -9223372036854775808 ≤ p * q ∧ p * q ≤ 9223372036854775807) : Runs P op a (.int .i64 (p * q)) w :=
 rn_bin ho hx hy (by show Result.ok (Value.int .i64 (IntKind.i64.wrap (p * q))) w = _; rw [IntWalk.i64_in _ hb])
theorem rn_lss {k : IntKind} {t t' : TypeId} {x y : Operand} {p q : Int} (ho : op.op = .binOp .lss t x y t') (hx : a.eval x = .int k p) (hy : a.eval y = .int k q) : Runs P op a (.bool (decide (p < q))) w :=
 rn_bin ho hx hy (by cases k <;> rfl)
theorem rn_leq {k : IntKind} {t t' : TypeId} {x y : Operand} {p q : Int} (ho : op.op = .binOp .leq t x y t') (hx : a.eval x = .int k p) (hy : a.eval y = .int k q) : Runs P op a (.bool (decide (p ≤ q))) w :=
 rn_bin ho hx hy (by cases k <;> rfl)
theorem rn_gtr {k : IntKind} {t t' : TypeId} {x y : Operand} {p q : Int} (ho : op.op = .binOp .gtr t x y t') (hx : a.eval x = .int k p) (hy : a.eval y = .int k q) : Runs P op a (.bool (decide (q < p))) w :=
 rn_bin ho hx hy (by cases k <;> rfl)
theorem rn_geq {k : IntKind} {t t' : TypeId} {x y : Operand} {p q : Int} (ho : op.op = .binOp .geq t x y t') (hx : a.eval x = .int k p) (hy : a.eval y = .int k q) : Runs P op a (.bool (decide (q ≤ p))) w :=
 rn_bin ho hx hy (by cases k <;> rfl)
theorem rn_eql {k : IntKind} {t t' : TypeId} {x y : Operand} {p q : Int} (ho : op.op = .binOp .eql t x y t') (hx : a.eval x = .int k p) (hy : a.eval y = .int k q) : Runs P op a (.bool (decide (p = q))) w :=
 rn_bin ho hx hy (by cases k <;> rfl)
theorem neq_dec (p q : Int) : (p != q) = !decide (p = q) := by by_cases h : p = q <;> simp [h]
theorem rn_neq {k : IntKind} {t t' : TypeId} {x y : Operand} {p q : Int} (ho : op.op = .binOp .neq t x y t') (hx : a.eval x = .int k p) (hy : a.eval y = .int k q) : Runs P op a (.bool (!decide (p = q))) w :=
 rn_bin ho hx hy (by rw [← neq_dec]; cases k <;> rfl)
theorem rn_not {t : TypeId} {x : Operand} {p : Bool} (ho : op.op = .unOp .not t x) (hx : a.eval x = .bool p) : Runs P op a (.bool (!p)) w := by
 unfold Runs execOp; simp only [ho, hx]; rfl
theorem Zrf {s : TypeId} {x : Operand} {f g o off : Nat} (ho : op.op = .fieldAddr s x f) (hx : a.eval x = .pointer (some ⟨g, o, none⟩))
  (hr : ∀ (g o : Nat) (w : World), (Instr.fieldAt s (.pointer (some ⟨g, o, none⟩)) f).run P w = .ok (.pointer (some ⟨g, o + off, none⟩)) w) : Runs P op a (.pointer (some ⟨g, o + off, none⟩)) w := by
 unfold Runs execOp
 simp only [ho, hx]
 rw [Sem.run_bind, hr]
 rfl
theorem Zri {s : TypeId} {x y : Operand} {g o size m c : Nat} {i : Int} {A : Option Addr} (k : Nat) (ho : op.op = .indexAddr s x y) (hx : a.eval x = .slice A m c) (hy : a.eval y = .int .i64 i)
   (hu : ∃ e, P.underlying s = some (.slice e) ∧ (P.info? e).map (·.size) = some size) (hk : i = (k : Int)) (hm : k < m) (hA : A = some ⟨g, o, none⟩) : Runs P op a (.pointer (some ⟨g, o + k * size, none⟩)) w := by
 subst hA
 obtain ⟨e, hu, he⟩ := hu
 subst hk
 unfold Runs execOp
 simp only [ho, hx, hy]
 cases hi : P.info? e with
 | none => rw [hi] at he; simp at he
 | some inf =>
   rw [hi] at he
   simp at he
   have hm' : (k : Int) < (m : Int) := by omega
   simp [Instr.indexAt, asIntOf, Sem.run_bind, run_underlying, hu, sizeOf, typeInfo, hi, he, Addr.add, hm]
theorem Zre {x : Operand} {i : Nat} {vs : List Value} (ho : op.op = .extract x i) (hx : a.eval x = .tuple vs.toArray) (hv : nthE vs i = some v) : Runs P op a v w := by
 unfold Runs execOp
 simp only [ho, hx]
 have : vs.toArray[i]? = some v := by rw [List.getElem?_toArray]; exact nthE_get hv
 simp [Instr.extract, this]
theorem rn_build {ty : TypeId} {parts : List (Nat × Operand)} {vs : List (Nat × Value)} (ho : op.op = .build ty parts.toArray) (hv : EvP a parts vs) (hr : ∀ w : World, (Instr.build ty vs.toArray).run P w = .ok v w) : Runs P op a v w := by
 unfold Runs execOp
 simp only [ho]
 have e : (parts.toArray.map fun x => (x.1, a.eval x.2)) = vs.toArray := by simp [← hv.map]
 have e2 : (parts.toArray.map fun (i, x) => (i, a.eval x)) = vs.toArray := e
 rw [Sem.run_bind, e2, hr]
 rfl
theorem Zrl {x : Operand} {A : Option Addr} {m c : Nat} {ty e : TypeId} (ho : op.op = .call { callee := .builtin .len, args := #[x], argTypes := #[ty] }) (hu : P.underlying ty = some (.slice e)) (hx : a.eval x = .slice A m c) : Runs P op a (.int .i64 (m : Int)) w := by
 unfold Runs execOp
 simp [ho, resolve, invoke, builtin, hx, Builtin.len_, Sem.run_bind, run_underlying, hu, goInt]
theorem rn_lenT {x : Operand} {s : ByteArray} {ty : TypeId} (ho : op.op = .call { callee := .builtin .len, args := #[x], argTypes := #[ty] }) (hu : P.underlying ty = some .string) (hx : a.eval x = .string s) : Runs P op a (.int .i64 (s.size : Int)) w := by
 unfold Runs execOp
 simp [ho, resolve, invoke, builtin, hx, Builtin.len_, Sem.run_bind, run_underlying, hu, goInt]
theorem maxI (p q : Int) : (if p < q then q else p) = max p q := by rw [Int.max_def]; split <;> split <;> omega
theorem rn_max2 {ts : Array TypeId} {x y : Operand} {p q : Int} (ho : op.op = .call { callee := .builtin .max, args := #[x, y], argTypes := ts }) (hx : a.eval x = .int .i64 p) (hy : a.eval y = .int .i64 q) : Runs P op a (.int .i64 (max p q)) w := by
 unfold Runs execOp
 simp [ho, resolve, invoke, builtin, hx, hy, Builtin.max_, Builtin.max2, Sem.run_bind, maxI]
def sliceO {α : Type} : Nat → Nat → List α → Option (List α)
 | _, 0, _ => some []
 | _, _ + 1, [] => none
 | 0, n + 1, x :: r => match sliceO 0 n r with
  | none => none
  | some q => some (x :: q)
 | o + 1, n + 1, _ :: r => sliceO o (n + 1) r
theorem sliceO_eq {α : Type} : ∀ {o n : Nat} {l ds : List α}, sliceO o n l = some ds → n ≠ 0 → (l.drop o).take n = ds ∧ o + n ≤ l.length
 | o, 0, l, ds, h, hn => absurd rfl hn
 | o, n + 1, [], ds, h, _ => by cases o <;> simp [sliceO] at h
 | 0, 1, x :: r, ds, h, _ => by simp [sliceO] at h; subst h; simp
 | 0, n + 2, x :: r, ds, h, _ => by
  unfold sliceO at h
  cases h2 : sliceO 0 (n + 1) r with
  | none => rw [h2] at h; cases h
  | some q =>
   rw [h2] at h
   simp only [Option.some.injEq] at h
   obtain ⟨h3, h4⟩ := sliceO_eq h2 (by simp)
   subst h
   subst h3
   simp only [List.drop_zero, List.length_cons] at h4 ⊢
   exact ⟨by simp, by omega⟩
 | o + 1, n + 1, x :: r, ds, h, _ => by
  unfold sliceO at h
  obtain ⟨h3, h4⟩ := sliceO_eq h (by simp)
  simp only [List.length_cons, List.drop_succ_cons]
  exact ⟨h3, by omega⟩
theorem Zrr {ty : TypeId} {m : Nat} [hT : RowTy P ty (m + 1)] {x : Operand} {g o : Nat} {cs ds : List Value} (hB : Bk w g cs.toArray) (ho : op.op = .load ty x) (hx : a.eval x = .pointer (some ⟨g, o, none⟩)) (hd : sliceO o (m + 1) cs = some ds) : Runs P op a (.agg ds.toArray) w := by
 obtain ⟨h1, h2⟩ := sliceO_eq hd (by simp)
 exact rn_row hB ho hx h1 (by rw [Nat.ble_eq]; exact h2)
theorem rn_cell {ty : TypeId} [OneTy P ty] {x : Operand} {p : Addr} (hc : w.cell? p = some v) (ho : op.op = .load ty x) (hx : a.eval x = .pointer (some p)) : Runs P op a v w := by
 obtain ⟨d, hu, hr⟩ := OneTy.one (P := P) (t := ty)
 have ha : (isAgg ty).run P w = .ok false w := by
  unfold isAgg
  simp only [Sem.run_bind, run_underlying hu, Result.andThen_ok]
  cases d <;> first | rfl | (simp [TypeDesc.isRow] at hr)
 unfold Runs execOp
 simp only [ho, hx, Instr.loadAt, Instr.sureAddr, Sem.run_bind, Sem.run_pure, Result.andThen_ok]
 unfold loadVar
 simp only [Sem.run_bind, ha, Result.andThen_ok]
 simp [load, Sem.run, hc]
theorem rn_rowat {ty : TypeId} {m : Nat} [hT : RowTy P ty m] {x : Operand} {g o : Nat} {ds : List Value} (hc : w.rangeAt g o ds) (ho : op.op = .load ty x) (hx : a.eval x = .pointer (some ⟨g, o, none⟩)) (hm : ds.length = m) : Runs P op a (.agg ds.toArray) w := by
 obtain ⟨d, hu, hr⟩ := hT.row
 have := run_loadVar_mid w g o ty ds d hc hu hr (by rw [hm]; exact hT.size)
 unfold Runs execOp
 simp only [ho, hx, Instr.loadAt, Instr.sureAddr, Sem.run_bind, Sem.run_pure, Result.andThen_ok, this]
theorem rn_ofI {k : IntKind} {p q : Int} (h : Runs P op a (.int k p) w) (e : p = q) : Runs P op a (.int k q) w := e ▸ h
theorem Zrq {b : Bool} (h : Runs P op a (.bool b) w) {c : Bool} (e : b = c) : Runs P op a (.bool c) w := e ▸ h
theorem Zwy {j : Nat} {c : Bool} {b : Bool} (hg : op.guard = some (j, c)) (hj : (ops[j]?).bind (·.dst) = some t) (he : a.eval (.tmp t) = .bool b) (hb : b = c) : Region.wanted op (yielded ops a.tmps) = true := by
 subst hb
 have : a.tmps[t]? = some (.bool b) := by
   have he : a.tmps.getD t undef = .bool b := he
   cases h : a.tmps[t]? with
   | none => simp [h, undef] at he
   | some x => simp [h] at he; rw [he]
 simp [Region.wanted, hg, yielded, hj, this]
theorem Zwu {j : Nat} {c : Bool} (hg : op.guard = some (j, c)) (hj : (ops[j]?).bind (·.dst) = some t) (he : a.eval (.tmp t) = undef) : Region.wanted op (yielded ops a.tmps) = false := by
 have he : a.tmps.getD t undef = undef := he
 have : yielded ops a.tmps j = none := by
   unfold yielded
   rw [hj]
   simp only [Option.bind_some]
   cases h : a.tmps[t]? with
   | none => rfl
   | some x => simp [h] at he; rw [he]; rfl
 simp only [Region.wanted, hg, this]
 rfl
theorem Zwn {j : Nat} {c : Bool} {b : Bool} (hg : op.guard = some (j, c)) (hj : (ops[j]?).bind (·.dst) = some t) (he : a.eval (.tmp t) = .bool b) (hb : b = !c) : Region.wanted op (yielded ops a.tmps) = false := by
 subst hb
 have : a.tmps[t]? = some (.bool !c) := by
   have he : a.tmps.getD t undef = .bool !c := he
   cases h : a.tmps[t]? with
   | none => simp [h, undef] at he
   | some x => simp [h] at he; rw [he]
 simp only [Region.wanted, hg, yielded, hj, Option.bind_some, this]
 cases c <;> rfl
theorem l_q (T : TmD df a n E) (hw : Region.wanted op (yielded ops a.tmps) = true) (hd : op.dst = some t) (hf : freshE E t = true) (hn : Nat.blt t n = true) (hr : Runs P op a v w)
  (h : ∀ a', TmD df a' n ((t, v) :: E) → wpList P ops Q rest a' w) : wpList P ops Q (op :: rest) a w :=
 wpList_wanted hw fun _ hK => by
  unfold Oper.wp
  unfold Runs at hr
  rw [hr, Oper.upon_value, hd]
  exact hK _ _ (h _ (T.put hn hf v))
theorem lq (T : TmD df a n E) (hr : Runs P op a v w) (h : ∀ a', TmD df a' n ((t, v) :: E) → wpList P ops Q rest a' w)
  (hw : Region.wanted op (yielded ops a.tmps) = true := by rfl) (hd : op.dst = some t := by rfl) (hf : freshE E t = true := by rfl) (hn : Nat.blt t n = true := by rfl) : wpList P ops Q (op :: rest) a w := l_q T hw hd hf hn hr h
theorem lw (T : TmD df a n E) (hw : Region.wanted op (yielded ops a.tmps) = true) (hr : Runs P op a v w) (h : ∀ a', TmD df a' n ((t, v) :: E) → wpList P ops Q rest a' w)
  (hd : op.dst = some t := by rfl) (hf : freshE E t = true := by rfl) (hn : Nat.blt t n = true := by rfl) : wpList P ops Q (op :: rest) a w := l_q T hw hd hf hn hr h
theorem l_pass (T : TmD df a n E) (hw : Region.wanted op (yielded ops a.tmps) = false) (hd : op.dst = some t) (hf : freshE E t = true) (hn : Nat.blt t n = true) (h : ∀ a', TmD df a' n ((t, undef) :: E) → wpList P ops Q rest a' w) : wpList P ops Q (op :: rest) a w :=
 wpList_step fun K hK => by
  rw [if_neg (by rw [hw]; simp), hd]
  exact hK _ _ (h _ (T.put hn hf _))
theorem lp (T : TmD df a n E) (hw : Region.wanted op (yielded ops a.tmps) = false) (h : ∀ a', TmD df a' n ((t, undef) :: E) → wpList P ops Q rest a' w)
  (hd : op.dst = some t := by rfl) (hf : freshE E t = true := by rfl) (hn : Nat.blt t n = true := by rfl) : wpList P ops Q (op :: rest) a w := l_pass T hw hd hf hn h
theorem l_w (hw : Region.wanted op (yielded ops a.tmps) = true) (h : ∀ K : Act → World → Prop, Shut (∀ a w, wpList P ops Q rest a w → K a w) → op.wp P a w K Q) : wpList P ops Q (op :: rest) a w :=
 wpList_wanted hw fun K hK => h K hK
theorem Zoa {ty : TypeId} {l : List Value} [ZeroTy P ty l] (M : Mem w0 ex w L) (T : TmD df a n E) (ho : op.op = .alloc ty) (hd : op.dst = some t) (hf : freshE E t = true) (hn : Nat.blt t n = true)
  (h : ∀ g w' a', Mem w0 ex w' ((g, .cells l) :: L) → TmD df a' n ((t, .pointer (some ⟨g, 0, none⟩)) :: E) → K a' w') : op.wp P a w K Q :=
 m_alw M ho fun g w' M' => h g w' _ M' (by rw [hd]; exact T.put hn hf _)
theorem Zob {ty : TypeId} {x : Operand} {l : List Value} (M : Mem w0 ex w L) (T : TmD df a n E) (ho : op.op = .box ty x) (hd : op.dst = some t) (hf : freshE E t = true) (hn : Nat.blt t n = true) (hx : a.eval x = v) (hv : v.cells = l.toArray)
  (h : ∀ g w' a', Mem w0 ex w' ((g, .cells l) :: L) → TmD df a' n ((t, .pointer (some ⟨g, 0, none⟩)) :: E) → K a' w') : op.wp P a w K Q := by
 unfold Oper.wp execOp
 simp only [ho, hx, Instr.box, Sem.run_bind, Sem.run_pure, Result.andThen_ok, newVar, newRow, run_newObj_alloc, hv]
 exact h _ _ _ (M.new l ty) (by rw [hd]; exact T.put hn hf _)
theorem ow_bs {ty len e : TypeId} {parts : List (Nat × Operand)} {vs : List (Nat × Value)} (l : List Value) (M : Mem w0 ex w L) (T : TmD df a n E) (ho : op.op = .buildSlice ty len parts.toArray) (hd : op.dst = some t) (hf : freshE E t = true) (hn : Nat.blt t n = true) (hv : EvP a parts vs)
  (hr : ∀ w : World, (Instr.buildSlice ty len vs.toArray).run P w = .ok (.slice (some ⟨w.heap.size, 0, none⟩) len len) (w.alloc (.cells l.toArray e)))
  (h : ∀ g w' a', Mem w0 ex w' ((g, .cells l) :: L) → TmD df a' n ((t, .slice (some ⟨g, 0, none⟩) len len) :: E) → K a' w') : op.wp P a w K Q := by
 unfold Oper.wp execOp
 simp only [ho]
 have e : (parts.toArray.map fun x => (x.1, a.eval x.2)) = vs.toArray := by simp [← hv.map]
 have e2 : (parts.toArray.map fun (i, x) => (i, a.eval x)) = vs.toArray := e
 rw [Sem.run_bind, e2, hr]
 exact h _ _ _ (M.new l _) (by rw [hd]; exact T.put hn hf _)
def storeO {α : Type} : List α → Nat → List α → Option (List α)
 | l, _, [] => some l
 | [], _, _ :: _ => none
 | _ :: r, 0, d :: ds => match storeO r 0 ds with
  | none => none
  | some q => some (d :: q)
 | x :: r, o + 1, d :: ds => match storeO r o (d :: ds) with
  | none => none
  | some q => some (x :: q)
theorem storeO_eq {α : Type} : ∀ {l : List α} {o : Nat} {ds l' : List α}, storeO l o ds = some l' → ds ≠ [] → o + ds.length ≤ l.length ∧ l' = l.take o ++ ds ++ l.drop (o + ds.length)
 | l, o, [], l', h, hn => absurd rfl hn
 | [], o, d :: ds, l', h, _ => by simp [storeO] at h
 | x :: r, 0, [d], l', h, _ => by
  cases r with
  | nil => simp [storeO] at h; subst h; simp
  | cons y r => simp [storeO] at h; subst h; simp
 | x :: r, 0, d :: d2 :: ds, l', h, _ => by
  unfold storeO at h
  cases h2 : storeO r 0 (d2 :: ds) with
  | none => rw [h2] at h; cases h
  | some q =>
   rw [h2] at h
   simp only [Option.some.injEq] at h
   obtain ⟨h3, h4⟩ := storeO_eq h2 (by simp)
   subst h
   subst h4
   simp only [List.length_cons] at h3 ⊢
   refine ⟨by omega, ?_⟩
   simp only [List.take_zero, List.nil_append, Nat.zero_add, List.cons_append, List.drop_succ_cons, List.length_cons]
 | x :: r, o + 1, d :: ds, l', h, _ => by
  unfold storeO at h
  cases h2 : storeO r o (d :: ds) with
  | none => rw [h2] at h; cases h
  | some q =>
   rw [h2] at h
   simp only [Option.some.injEq] at h
   obtain ⟨h3, h4⟩ := storeO_eq h2 (by simp)
   subst h
   subst h4
   simp only [List.length_cons] at h3 ⊢
   refine ⟨by omega, ?_⟩
   rw [show o + 1 + (ds.length + 1) = (o + (ds.length + 1)) + 1 by omega]
   simp only [List.take_succ_cons, List.cons_append, List.drop_succ_cons]
theorem Zos {ty : TypeId} {x y : Operand} {g o : Nat} {cs ds cs' : List Value} {L' : List (Nat × BA)} (M : Mem w0 ex w L) (T : TmD df a n E) (ho : op.op = .store ty x y) (hd : op.dst = none) (hx : a.eval x = .pointer (some ⟨g, o, none⟩)) (hy : a.eval y = v) (hv : v.cells = ds.toArray)
   (hu : Upd L g (.cells cs) (.cells cs') L') (hc : storeO cs o ds = some cs') (hne : ds ≠ []) (h1 : ds.all (·.oneCell') = true) (hi : (P.info? ty).map (·.size) = some ds.length)
   (h : ∀ w' a', Mem w0 ex w' L' → TmD df a' n E → K a' w') : op.wp P a w K Q := by
 obtain ⟨h2, h3⟩ := storeO_eq hc hne
 exact m_stw M ho hx hy hv hu h3.symm h2 h1 hi fun w' M' => h w' _ M' (by rw [hd]; exact T)
def RetK (next : Value → World → Prop) : Ending → World → Prop
 | .returned v, w => next v w
 | _, _ => False
theorem Zoc {x : Operand} {xs : List Operand} {ts : Array TypeId} {f : FuncId} {first cap vs : List Value} {fn : Func} (T : TmD df a n E) (ho : op.op = .call { callee := .value x, args := xs.toArray, argTypes := ts }) (hd : op.dst = some t) (hf : freshE E t = true) (hn : Nat.blt t n = true)
  (hx : a.eval x = .func (.func f) first.toArray cap.toArray) (hv : EvL a xs vs) (hfn : P.funcs[f]? = some fn) (hnm : (fn.name == "runtime.NumGoroutine") = false) (hb : fn.body.isNone = false)
  (h : Calls P f (first ++ vs ++ cap).toArray w (RetK fun v w' => ∀ a', TmD df a' n ((t, v) :: E) → K a' w')) : op.wp P a w K Q := by
 have e : (xs.toArray.map a.eval) = vs.toArray := by simp [← hv.map]
 have hrun : (execOp a.eval op).run P w = .ok (.enter f (first ++ vs ++ cap).toArray) w := by
  have hne : fn.name ≠ "runtime.NumGoroutine" := by simpa using hnm
  have hb2 : fn.body ≠ none := fun h => by rw [h] at hb; cases hb
  unfold execOp
  simp [ho, resolve, invoke, Deferred.ofValue, hx, hv.map, callFunc, hfn, hb2, hne, Sem.run_bind]
 unfold Oper.wp
 rw [hrun, Oper.upon_enter]
 refine h.mono fun e w' hh => ?_
 cases e with
 | returned v => exact (hd ▸ hh _ (T.put hn hf v) : K (a.put op.dst v) w')
 | panicked c => exact hh.elim
 | outgrown => exact hh.elim
def Zpb : Nat → Nat → Array Bool := fun n m => ((List.range n).map fun i => m.testBit i).toArray
section
variable {S : Array Bool → World → Prop} {fuel : Nat} {l l' : Array Bool} {i : Nat} {oi : Oper}
theorem wpAnyS_more {S' : Array Bool → World → Prop} (hm : ∀ L w, S' L w → S L w) : ∀ (fuel : Nat) (listed : Array Bool) (a : Act) (w : World), wpAnyS P ops Q S' fuel listed a w → wpAnyS P ops Q S fuel listed a w
 | 0, _, _, _, h => h
 | fuel + 1, _, _, _, h => ⟨h.1, fun i hi => wpOp_mono (fun a' w' h' => ⟨hm _ _ h'.1, wpAnyS_more hm fuel _ a' w' h'.2⟩) (h.2 i hi)⟩
theorem g_start (S : Array Bool → World → Prop) (m : Nat) {id : Nat} (hm : P.follows .mixedOrders = true) (hn : ops.size = m) (hz : Array.replicate m false = Zpb m 0) (hS : S (Zpb m 0) w.drew)
  (h : wpG P ops Q S m (Zpb m 0) a w.drew) : (Code.region id ops true).wp P Q a w := by
 subst hn
 rw [← hz] at hS h
 exact wp_region_any hm (wpAny_of_S _ _ _ _ (h DC.start hS))
theorem g_add (p : Array Bool → World → Prop) (h0 : p l w) (h : wpG P ops Q (fun L W => p L W ∧ S L W) fuel l a w) : wpG P ops Q S fuel l a w :=
 fun hD hS => wpAnyS_more (fun _ _ h => h.2) _ _ _ _ (h hD ⟨h0, hS⟩)
def MU (w0 : World) (ex : Nat → Prop) (L : List (Nat × BA)) : Array Bool → World → Prop := fun _ W => Mem w0 ex W L
def MG (s : Nat) (w0 : World) (ex : Nat → Prop) (L : List (Nat × BA)) : Array Bool → World → Prop := fun B W => B.getD s true = false → Mem w0 ex W L
theorem Zgs {Lc : List (Nat × BA)} (M : Mem w0 ex w L) (Mc : Mem w0 ex w Lc) (m : Nat) {id : Nat} (hm : P.follows .mixedOrders = true) (hn : ops.size = m) (hz : Array.replicate m false = Zpb m 0)
  (h : ∀ w', Mem w0 ex w' L → wpG P ops Q (MU w0 ex Lc) m (Zpb m 0) a w') : (Code.region id ops true).wp P Q a w := g_start _ m hm hn hz Mc.drew (h _ M.drew)
def MA (p q : Array Bool → World → Prop) : Array Bool → World → Prop := fun B W => p B W ∧ q B W
theorem MA.lft {p q : Array Bool → World → Prop} {B : Array Bool} {W : World} (h : MA p q B W) : p B W := h.1
theorem MA.rgt {p q : Array Bool → World → Prop} {B : Array Bool} {W : World} (h : MA p q B W) : q B W := h.2
theorem MA.mk {p q : Array Bool → World → Prop} {B : Array Bool} {W : World} (h : p B W) (h' : q B W) : MA p q B W := ⟨h, h'⟩
theorem g_addU (M : Mem w0 ex w L) (h : wpG P ops Q (MA (MU w0 ex L) S) fuel l a w) : wpG P ops Q S fuel l a w := g_add (MU w0 ex L) M h
theorem g_addG (s : Nat) (M : Mem w0 ex w L) (h : wpG P ops Q (MA (MG s w0 ex L) S) fuel l a w) : wpG P ops Q S fuel l a w := g_add (MG s w0 ex L) (fun _ => M) h
theorem si_U : ∀ (B : Array Bool) W, MU w0 ex L (B.setIfInBounds i true) W ↔ MU w0 ex L B W := fun _ _ => Iff.rfl
theorem si_G {s : Nat} (h : Nat.beq i s = false) : ∀ (B : Array Bool) W, MG s w0 ex L (B.setIfInBounds i true) W ↔ MG s w0 ex L B W := fun B W => by
 unfold MG
 rw [getD_set_ne true (fun e => by subst e; simp at h)]
theorem si_and {p q : Array Bool → World → Prop} (hp : ∀ B W, p (B.setIfInBounds i true) W ↔ p B W) (hq : ∀ B W, q (B.setIfInBounds i true) W ↔ q B W) :
  ∀ (B : Array Bool) W, MA p q (B.setIfInBounds i true) W ↔ MA p q B W := fun B W => and_congr (hp B W) (hq B W)
theorem g_q (T : TmD df a n E) (hi : ops[i]? = some oi) (hs : (Region.noSelect ops && Region.free .any ops l i && (Region.ready .any ops l).contains i) = true) (hl : l.setIfInBounds i true = l')
  (hSi : ∀ L w, S (L.setIfInBounds i true) w ↔ S L w) (hQ : ∀ c a w, Q (.panic c) (a.put oi.dst v) w → Q (.panic c) a w)
  (hw : Region.wanted oi (yielded ops a.tmps) = true) (hd : oi.dst = some t) (hf : freshE E t = true) (hn : Nat.blt t n = true)
  (hr : ∀ L w', DC ops L → L.getD i true = false → S L w' → Runs P oi a v w') (h : ∀ a', TmD df a' n ((t, v) :: E) → wpG P ops Q S fuel l' a' w) : wpG P ops Q S (fuel + 1) l a w :=
 wpG_take hi hs hSi hQ (.inl ⟨hw, fun w' hy => by obtain ⟨L, h1, h2, h3⟩ := hy; exact hr L w' h1 h2 h3⟩) (by rw [hl, hd]; exact h _ (T.put hn hf v))
theorem g_pass (T : TmD df a n E) (hi : ops[i]? = some oi) (hs : (Region.noSelect ops && Region.free .any ops l i && (Region.ready .any ops l).contains i) = true) (hl : l.setIfInBounds i true = l')
  (hSi : ∀ L w, S (L.setIfInBounds i true) w ↔ S L w) (hQ : ∀ c a w, Q (.panic c) (a.put oi.dst undef) w → Q (.panic c) a w)
  (hw : Region.wanted oi (yielded ops a.tmps) = false) (hd : oi.dst = some t) (hf : freshE E t = true) (hn : Nat.blt t n = true) (h : ∀ a', TmD df a' n ((t, undef) :: E) → wpG P ops Q S fuel l' a' w) : wpG P ops Q S (fuel + 1) l a w :=
 wpG_take hi hs hSi hQ (.inr ⟨hw, rfl⟩) (by rw [hl, hd]; exact h _ (T.put hn hf _))
theorem g_w (hr : Region.ready .any ops l = [i]) (ho : ops[i]? = some oi) (hl : l.setIfInBounds i true = l') (hw : Region.wanted oi (yielded ops a.tmps) = true)
  (h : ∀ K' : Act → World → Prop, Shut (∀ a w, S l' w → wpG P ops Q S fuel l' a w → K' a w) → oi.wp P a w K' Q) : wpG P ops Q S (fuel + 1) l a w :=
 wpG_one hr ho hw fun _ K' hK => by subst hl; exact h K' hK
def wpGi (P : Program) (ops : Array Oper) (Q : Exit → Act → World → Prop) (S : Array Bool → World → Prop) (fuel : Nat) (l : Array Bool) (i : Nat) (a : Act) (w : World) : Prop :=
 DC ops (l.setIfInBounds i true) → wpOp P ops Q i (fun a' w' => S (l.setIfInBounds i true) w' ∧ wpAnyS P ops Q S fuel (l.setIfInBounds i true) a' w') a w
theorem g_m2 {j : Nat} (hr : Region.ready .any ops l = [i, j]) (h : wpGi P ops Q S fuel l i a w) (h' : wpGi P ops Q S fuel l j a w) : wpG P ops Q S (fuel + 1) l a w := fun hD _ =>
 ⟨fun h0 => (by rw [hr] at h0; cases h0), fun k hk => by
  have hk' := hk
  rw [hr] at hk'
  simp only [List.mem_cons, List.not_mem_nil, or_false] at hk'
  rcases hk' with rfl | rfl
  ·exact h (hD.step hk)
  ·exact h' (hD.step hk)⟩
theorem g_i (ho : ops[i]? = some oi) (hl : l.setIfInBounds i true = l') (hw : Region.wanted oi (yielded ops a.tmps) = true)
  (h : ∀ K' : Act → World → Prop, Shut (∀ a w, S l' w → wpG P ops Q S fuel l' a w → K' a w) → oi.wp P a w K' Q) : wpGi P ops Q S fuel l i a w := fun hD => by
 subst hl
 refine wpOp_step ho (fun K' hK => ?_)
 rw [if_pos hw]
 exact h K' (fun a w hS' hW => hK a w ⟨hS', hW hD hS'⟩)
theorem gq (T : TmD df a n E) (i b' : Nat) {m b : Nat} (hi : ops[i]? = some oi) (hr : ∀ L w', DC ops L → L.getD i true = false → S L w' → Runs P oi a v w') (h : ∀ a', TmD df a' n ((t, v) :: E) → wpG P ops Q S fuel (Zpb m b') a' w)
  (hs : (Region.noSelect ops && Region.free .any ops (Zpb m b) i && (Region.ready .any ops (Zpb m b)).contains i) = true := by kernel_rfl) (hl : (Zpb m b).setIfInBounds i true = Zpb m b' := by kernel_rfl)
  (hSi : ∀ L w, S (L.setIfInBounds i true) w ↔ S L w := by repeat' (first | exact si_U | exact si_G rfl | refine si_and ?_ ?_)) (hQ : ∀ c a w, Q (.panic c) (a.put oi.dst v) w → Q (.panic c) a w := by exact fun _ _ _ h => h)
  (hw : Region.wanted oi (yielded ops a.tmps) = true := by rfl) (hd : oi.dst = some t := by rfl) (hf : freshE E t = true := by rfl) (hn : Nat.blt t n = true := by rfl) : wpG P ops Q S (fuel + 1) (Zpb m b) a w :=
 g_q T hi hs hl hSi hQ hw hd hf hn hr h
theorem gw (i b' : Nat) {m b : Nat} (h : ∀ K' : Act → World → Prop, Shut (∀ a w, S (Zpb m b') w → wpG P ops Q S fuel (Zpb m b') a w → K' a w) → oi.wp P a w K' Q)
  (hr : Region.ready .any ops (Zpb m b) = [i] := by kernel_rfl) (ho : ops[i]? = some oi := by rfl) (hl : (Zpb m b).setIfInBounds i true = Zpb m b' := by kernel_rfl) (hw : Region.wanted oi (yielded ops a.tmps) = true := by rfl) : wpG P ops Q S (fuel + 1) (Zpb m b) a w := g_w hr ho hl hw h
theorem gi (b' : Nat) {m b : Nat} (h : ∀ K' : Act → World → Prop, Shut (∀ a w, S (Zpb m b') w → wpG P ops Q S fuel (Zpb m b') a w → K' a w) → oi.wp P a w K' Q)
  (ho : ops[i]? = some oi := by rfl) (hl : (Zpb m b).setIfInBounds i true = Zpb m b' := by kernel_rfl) (hw : Region.wanted oi (yielded ops a.tmps) = true := by rfl) : wpGi P ops Q S fuel (Zpb m b) i a w := g_i ho hl hw h
theorem Zgd (hr : Region.ready .any ops l = []) (h : Q .normal a w) : wpG P ops Q S fuel l a w := wpG_done hr fun _ => h
end
theorem g_have {P : Program} {ops : Array Oper} {Q : Exit → Act → World → Prop} {S : Array Bool → World → Prop} {fuel : Nat} {l : Array Bool} {a : Act} {w : World} (I : Act → World → Prop) (l' : Array Bool) (fuel' : Nat)
  (h2 : ∀ a w, I a w → wpG P ops Q S fuel' l' a w) (h1 : (∀ a w, I a w → wpG P ops Q S fuel' l' a w) → wpG P ops Q S fuel l a w) : wpG P ops Q S fuel l a w := h1 h2
theorem wp_if {c : Operand} {x y : Code} {p : Prop} [Decidable p] (hc : a.eval c = .bool (decide p)) (ht : p → x.wp P Q a w) (hf : ¬ p → y.wp P Q a w) : (Code.cond c x y).wp P Q a w :=
 wp_cond_split hc (fun h => ht (of_decide_eq_true h)) (fun h => hf (of_decide_eq_false h))
theorem wp_ifn {c : Operand} {x y : Code} {p : Prop} [Decidable p] (hc : a.eval c = .bool (!decide p)) (ht : ¬ p → x.wp P Q a w) (hf : p → y.wp P Q a w) : (Code.cond c x y).wp P Q a w :=
 wp_cond_split hc (fun h => ht (by simpa using h)) (fun h => hf (by simpa using h))
theorem rt_ct {fn : Func} {R : Ending → World → Prop} {t t' : Tmp} {ty : TypeId} {m g : Nat} [hT : RowTy P ty m] {cs : List Value} (M : Mem w0 ex w L) (T : Tm a n E) (hr : fn.results = #[.cell t ty, .tmp t'])
  (hx : a.eval (.tmp t) = .pointer (some ⟨g, 0, none⟩)) (hx' : a.eval (.tmp t') = v) (hm : (g, BA.cells cs) ∈ L) (hn : cs.length = m) (h : R (.returned (.tuple #[.agg cs.toArray, v])) w) : bodyPost P fn R .ret a w :=
 ret_M1 M hr T.defers hx hx' hm hn h
theorem nm_then {K : Act → World → Prop} (h : K a w) : Exit.then K Q .normal a w := h
theorem Zrt {K : Act → World → Prop} (h : Q .ret a w) : Exit.then K Q .ret a w := h
theorem Zrb {id : Nat} (h : Q .ret a w) : Exit.inBlock id Q .ret a w := h
theorem Znb {id : Nat} (h : Q .normal a w) : Exit.inBlock id Q .normal a w := h
theorem Zso {p : Prop} (h : Shut p) : p := h
def numE : Nat → List Value → List (Nat × Value)
 | _, [] => []
 | k, v :: r => (k, v) :: numE (k + 1) r
theorem numE_get : ∀ (l : List Value) (k : Nat) (p : Nat × Value), p ∈ numE k l → ∃ i, p.1 = k + i ∧ l[i]? = some p.2
 | [], _, p, h => by cases h
 | v :: r, k, p, h => by
  rcases List.mem_cons.1 h with rfl | h
  ·exact ⟨0, rfl, rfl⟩
  ·obtain ⟨i, h1, h2⟩ := numE_get r (k + 1) p h
   exact ⟨i + 1, by omega, by simpa using h2⟩
theorem Zpx {f : FuncId} {fn : Func} {c : Code} {args : Array Value} {R : Ending → World → Prop} (ex : Nat → Prop) (hf : P.funcs[f]? = some fn) (hb : fn.body = some c) (n : Nat) (hn : fn.ntmps = n) (vs : List Value) (ha : args = vs.toArray) (hle : Nat.ble vs.length n = true)
  {L : List (Nat × BA)} (M : Mem w ex w L)
  (h : ∀ a w', Tm a n (numE 0 vs) → Mem w ex w' L → c.wp P (bodyPost P fn R) a w') : Calls P f args w R := by
 subst ha
 have hle := Nat.le_of_ble_eq_true hle
 refine calls_of_wp hf hb (h _ _ ⟨rfl, ?_, fun p hp => ?_⟩ M)
 ·simp [hn]; omega
 ·obtain ⟨i, h1, h2⟩ := numE_get vs 0 p hp
  have hi : i < vs.length := (List.getElem?_eq_some_iff.1 h2).1
  have e : p.1 = i := by omega
  rw [e]
  have h3 : (vs.toArray ++ Array.replicate (fn.ntmps - vs.toArray.size) undef)[i]? = some p.2 := by
   rw [Array.getElem?_append_left (by simpa using hi)]
   simpa using h2
  show (vs.toArray ++ Array.replicate (fn.ntmps - vs.toArray.size) undef).getD i undef = p.2
  simp only [Array.getD_eq_getD_getElem?, h3, Option.getD_some]
structure Sp (w : World) (ex : Nat → Prop) (I : List (Nat × BA)) (A : Option Addr) (n size b o : Nat) (xs : List Value) : Prop where
 at0 : 0 < n → A = some ⟨b, o, none⟩
 len : xs.length = n * size
 lt : ∀ w' L, Mem w ex w' L → I.Sublist L → 0 < n → b < w'.heap.size
 cell : ∀ w' L, Mem w ex w' L → I.Sublist L → ∀ j u, xs[j]? = some u → w'.cell? ⟨b, o + j, none⟩ = some u
theorem Sp.old {w : World} {size n : Nat} {A : Option Addr} {xs : List Value} (h : Rd w w.heap.size size A n xs) : ∃ b o, Sp w noEx [] A n size b o xs := by
 rcases Nat.eq_zero_or_pos n with rfl | hn
 ·refine ⟨0, 0, by omega, h.1, fun _ _ _ _ h => absurd h (by omega), fun _ _ _ _ j u hu => ?_⟩
  have : xs = [] := List.eq_nil_of_length_eq_zero (by have := h.1; omega)
  simp [this] at hu
 ·obtain ⟨b, o, h1, h2, h3⟩ := h.2 hn
  exact ⟨b, o, fun _ => h1, h.1, fun w' L M _ _ => Nat.lt_of_lt_of_le h2 M.size, fun w' L M _ j u hu => (M.below.cell (p := ⟨b, o + j, none⟩) h2).trans (h3 j u hu)⟩
theorem Sp.row {w : World} {ex : Nat → Prop} {e size n g cap : Nat} {xs : List Value} (hl : xs.length = n * size) : Sp w ex [(g, .row e size n xs cap)] (some ⟨g, 0, none⟩) n size g 0 xs :=
 ⟨fun _ => rfl, hl, fun w' L M hI _ => BA.lt (M.blk _ (hI.subset List.mem_cons_self)).2, fun w' L M hI j u hu => by
  have hr := M.rdRow (hI.subset List.mem_cons_self)
  have hn : 0 < n := by
   rcases Nat.eq_zero_or_pos n with h | h
   ·have : xs = [] := List.eq_nil_of_length_eq_zero (by rw [hl, h, Nat.zero_mul])
    simp [this] at hu
   ·exact h
  obtain ⟨b, o, e1, _, h3⟩ := hr.2 hn
  injection e1 with e1
  injection e1 with e1 e2 _
  subst e1
  subst e2
  exact h3 j u hu⟩
theorem Sp.cells {w : World} {ex : Nat → Prop} {size n g : Nat} {xs : List Value} (hl : xs.length = n * size) : Sp w ex [(g, .cells xs)] (some ⟨g, 0, none⟩) n size g 0 xs :=
 ⟨fun _ => rfl, hl, fun w' L M hI _ => BA.lt (M.blk _ (hI.subset List.mem_cons_self)).2, fun w' L M hI j u hu => by
  have hb := M.get (hI.subset List.mem_cons_self)
  rw [hb.cell, Nat.zero_add]
  simpa using hu⟩
theorem Sp.nil {w : World} {ex : Nat → Prop} {size b o : Nat} {A : Option Addr} : Sp w ex [] A 0 size b o [] :=
 ⟨fun h => absurd h (by omega), by simp, fun _ _ _ _ h => absurd h (by omega), fun _ _ _ _ j u hu => by simp at hu⟩
theorem Sp.rd {w w' : World} {ex : Nat → Prop} {I L : List (Nat × BA)} {size n b o : Nat} {A : Option Addr} {xs : List Value} (S : Sp w ex I A n size b o xs) (M : Mem w ex w' L) (hI : I.Sublist L) : Rd w' w'.heap.size size A n xs :=
 ⟨S.len, fun h => ⟨b, o, S.at0 h, S.lt w' L M hI h, S.cell w' L M hI⟩⟩
theorem Mem.swapI {w0 w : World} {ex : Nat → Prop} {I L : List (Nat × BA)} (M : Mem w0 ex w (I ++ L)) : Mem w0 ex w (L ++ I) :=
 ⟨M.os, M.tape, M.output, M.size, M.block, fun p hp => M.blk p (by rcases List.mem_append.1 hp with h | h; exact List.mem_append_right _ h; exact List.mem_append_left _ h), by
  have h := M.nd
  rw [List.map_append] at h ⊢
  obtain ⟨h1, h2, h3⟩ := List.nodup_append.1 h
  exact List.nodup_append.2 ⟨h2, h1, fun a ha b hb e => h3 b hb a ha e.symm⟩⟩
section
variable {w w' : World} {ex : Nat → Prop} {I L : List (Nat × BA)} {n b o k : Nat} {A : Option Addr} {l : List (Int × Int)} {r : List Int} {x y : Int}
theorem Sp.ic0 (S : Sp w ex I A n 1 b o (ic r)) (M : Mem w ex w' L) (hI : I.Sublist L) (h : r[k]? = some x) : w'.cell? ⟨b, o + k * 1, none⟩ = some (.int .i64 x) := by
 rw [Nat.mul_one]; exact S.cell w' L M hI _ _ (ic_get r k _ h)
end
theorem ic_next {l : List Int} {k : Nat} (h : k < l.length) : ∃ x, l[k]? = some x ∧ l.drop k = x :: l.drop (k + 1) := ⟨l[k], List.getElem?_eq_getElem h, List.drop_eq_getElem_cons h⟩
theorem cut_seq {x y : Code} (I : Act → World → Prop) (h1 : x.wp P (Exit.then I Q) a w) (h2 : ∀ a w, I a w → y.wp P Q a w) : (Code.seq x y).wp P Q a w :=
 wp_seq (wp_mono h1 fun e a w q => by cases e <;> first | exact q | exact h2 _ _ q)
theorem Zet {K : Act → World → Prop} {id : Nat} (h : Q (.exit id) a w) : Exit.then K Q (.exit id) a w := h
theorem ex_hit {id : Nat} (h : Q .normal a w) : Exit.inBlock id Q (.exit id) a w := by simp only [Exit.inBlock, if_true]; exact h
theorem ex_miss {id id' : Nat} (hn : Nat.beq id' id = false) (h : Q (.exit id') a w) : Exit.inBlock id Q (.exit id') a w := by
 have : id' ≠ id := fun e => by subst e; simp at hn
 simp only [Exit.inBlock, if_neg this]; exact h
open Classical in
theorem wp_loop_n {c : Code} (I : Nat → Act → World → Prop) (h₀' : ∃ m, I m a w)
  (round : ∀ m a w, I m a w → c.wp P (Exit.then (fun a' w' => ∃ m', m' < m ∧ I m' a' w') Q) a w) : (Code.loop c).wp P Q a w := by
 obtain ⟨m, h₀⟩ := h₀'
 have least : ∀ a w, (∃ m, I m a w) → ∃ m, I m a w ∧ ∀ k, I k a w → m ≤ k := fun a w ⟨m, hm⟩ => by
  induction m using Nat.strongRecOn with
  | _ m ih =>
   by_cases h : ∃ k, k < m ∧ I k a w
   ·obtain ⟨k, hk, hi⟩ := h; exact ih k hk hi
   ·exact ⟨m, hm, fun k hk => Nat.le_of_not_lt fun hl => h ⟨k, hl, hk⟩⟩
 refine wp_loop (fun a w => ∃ m, I m a w) (fun a w => if h : ∃ m, I m a w then Classical.choose (least a w h) else 0) ⟨m, h₀⟩ fun a w h => ?_
 obtain ⟨h1, h2⟩ := Classical.choose_spec (least a w h)
 refine wp_mono (round _ a w h1) fun e a' w' q => ?_
 cases e with
 | normal =>
  obtain ⟨m', hlt, hm'⟩ := q
  refine ⟨⟨m', hm'⟩, ?_⟩
  simp only [dif_pos (show ∃ m, I m a w from h), dif_pos (show ∃ m, I m a' w' from ⟨m', hm'⟩)]
  exact Nat.lt_of_le_of_lt ((Classical.choose_spec (least a' w' ⟨m', hm'⟩)).2 m' hm') hlt
 | _ => exact q
theorem rounds_S {c : Code} {m : Nat} (h : c.wp P (Exit.then (Code.rounds P c Q m) Q) a w) : Code.rounds P c Q (m + 1) a w := h
theorem rt_1 {fn : Func} {R : Ending → World → Prop} {t : Tmp} (T : Tm a n E) (hr : fn.results = #[.tmp t]) (hv : a.eval (.tmp t) = v) (h : R (.returned v) w) : bodyPost P fn R .ret a w :=
 ⟨T.defers, v, by rw [results_tmp hr]; exact congrArg (Result.ok · w) hv, h⟩
theorem rt_2 {fn : Func} {R : Ending → World → Prop} {t t' : Tmp} {v' : Value} (T : Tm a n E) (hr : fn.results = #[.tmp t, .tmp t']) (hv : a.eval (.tmp t) = v) (hv' : a.eval (.tmp t') = v') (h : R (.returned (.tuple #[v, v'])) w) : bodyPost P fn R .ret a w :=
 ⟨T.defers, _, by rw [results_tmp2 hr, show a.tmps.getD t undef = v from hv, show a.tmps.getD t' undef = v' from hv'], h⟩
theorem rt_3 {fn : Func} {R : Ending → World → Prop} {t t' t'' : Tmp} {v' v'' : Value} (T : Tm a n E) (hr : fn.results = #[.tmp t, .tmp t', .tmp t'']) (hv : a.eval (.tmp t) = v) (hv' : a.eval (.tmp t') = v') (hv'' : a.eval (.tmp t'') = v'') (h : R (.returned (.tuple #[v, v', v''])) w) : bodyPost P fn R .ret a w :=
 ⟨T.defers, _, by
  have e : a.tmps.getD t undef = v := hv
  have e' : a.tmps.getD t' undef = v' := hv'
  have e'' : a.tmps.getD t'' undef = v'' := hv''
  unfold results
  simp only [hr]
  simp [Sem.run_bind, ← e, ← e', ← e''], h⟩
theorem rt_c {fn : Func} {R : Ending → World → Prop} {t : Tmp} {ty : TypeId} {m g : Nat} [hT : RowTy P ty m] {cs : List Value} (M : Mem w0 ex w L) (T : Tm a n E) (hr : fn.results = #[.cell t ty])
  (hx : a.eval (.tmp t) = .pointer (some ⟨g, 0, none⟩)) (hm : (g, BA.cells cs) ∈ L) (hn : cs.length = m) (h : R (.returned (.agg cs.toArray)) w) : bodyPost P fn R .ret a w :=
 ret_M M hr T.defers hx hm hn h
end
theorem Z.{u} {α : Sort u} {a : α} : a = a := rfl
section
variable {P : Program} {ops : Array Oper} {Q : Exit → Act → World → Prop} {S : Array Bool → World → Prop} {rest : List Oper} {op : Oper} {a : Act} {w w0 : World} {ex : Nat → Prop} {L : List (Nat × BA)}
theorem Zm1 {ty : TypeId} [OneTy P ty] {x : Operand} {g o : Nat} {cs : List Value} {v : Value} (M : Mem w0 ex w L) (hw : Region.wanted op (yielded ops a.tmps) = true) (ho : op.op = .load ty x) (hx : a.eval x = .pointer (some ⟨g, o, none⟩)) (h : wpList P ops Q rest (a.put op.dst v) w)
  (hm : (g, BA.cells cs) ∈ L := by (repeat' (first | exact List.mem_cons_self | refine List.mem_cons_of_mem _ ?_))) (hv : cs[o]? = some v := by rfl) : wpList P ops Q (op :: rest) a w := m_ld1 M hw ho hx hm hv h
theorem Zm2 {ty : TypeId} {n : Nat} [RowTy P ty n] {x : Operand} {g o : Nat} {cs ds : List Value} (M : Mem w0 ex w L) (hw : Region.wanted op (yielded ops a.tmps) = true) (ho : op.op = .load ty x) (hx : a.eval x = .pointer (some ⟨g, o, none⟩)) (h : wpList P ops Q rest (a.put op.dst (.agg ds.toArray)) w)
  (hm : (g, BA.cells cs) ∈ L := by (repeat' (first | exact List.mem_cons_self | refine List.mem_cons_of_mem _ ?_))) (hd : (cs.drop o).take n = ds := by (try simp only [List.take_succ_cons, List.take_zero, List.take_nil, List.drop_succ_cons, List.drop_zero, List.drop_nil, List.cons_append, List.nil_append, List.append_nil, List.length_cons, List.length_nil, Nat.reduceAdd, Nat.zero_add, Nat.add_zero]); rfl) (hn : Nat.ble (o + n) cs.length = true := by rfl) : wpList P ops Q (op :: rest) a w := m_ldr M hw ho hx hm hd hn h
theorem Zm3 {ty : TypeId} {x y : Operand} {g o : Nat} {v : Value} {cs ds cs' : List Value} {L' : List (Nat × BA)} (M : Mem w0 ex w L) (hw : Region.wanted op (yielded ops a.tmps) = true) (ho : op.op = .store ty x y) (hx : a.eval x = .pointer (some ⟨g, o, none⟩)) (h : ∀ w', Mem w0 ex w' L' → wpList P ops Q rest (a.put op.dst undef) w')
   (hy : a.eval y = v := by first | exact (rfl : _ = Value.agg _) | exact (rfl : _ = Value.int _ _) | exact (rfl : _ = Value.bool _) | exact (rfl : _ = Value.slice _ _ _) | exact (rfl : _ = Value.pointer _) | exact (rfl : _ = Value.map _) | exact (rfl : _ = Value.func _ _ _) | exact (rfl : _ = Value.string _)) (hv : v.cells = ds.toArray := by rfl)
   (hu : Upd L g (.cells cs) (.cells cs') L' := by (repeat (first | exact Upd.head | apply Upd.tail))) (hc : cs.take o ++ ds ++ cs.drop (o + ds.length) = cs' := by (try simp only [List.take_succ_cons, List.take_zero, List.take_nil, List.drop_succ_cons, List.drop_zero, List.drop_nil, List.cons_append, List.nil_append, List.append_nil, List.length_cons, List.length_nil, Nat.reduceAdd, Nat.zero_add, Nat.add_zero]); rfl)
   (hs : o + ds.length ≤ cs.length := by simp) (h1 : ds.all (·.oneCell') = true := by simp [Value.oneCell']) (hi : (P.info? ty).map (·.size) = some ds.length := by kernel_rfl) : wpList P ops Q (op :: rest) a w := m_st M hw ho hx hy hv hu hc hs h1 hi h
theorem Zm4 {ty : TypeId} {x : Operand} {v : Value} {l : List Value} (M : Mem w0 ex w L) (hw : Region.wanted op (yielded ops a.tmps) = true) (ho : op.op = .box ty x) (h : ∀ g w', Mem w0 ex w' ((g, .cells l) :: L) → wpList P ops Q rest (a.put op.dst (.pointer (some ⟨g, 0, none⟩))) w')
  (hx : a.eval x = v := by first | exact (rfl : _ = Value.agg _) | exact (rfl : _ = Value.int _ _) | exact (rfl : _ = Value.bool _) | exact (rfl : _ = Value.slice _ _ _) | exact (rfl : _ = Value.pointer _) | exact (rfl : _ = Value.map _) | exact (rfl : _ = Value.func _ _ _) | exact (rfl : _ = Value.string _)) (hv : v.cells = l.toArray := by rfl) : wpList P ops Q (op :: rest) a w := m_bx M hw ho hx hv h
theorem ZT (i : Nat) {oi : Oper} {v : Value} {fuel : Nat} {listed : Array Bool} (hi : ops[i]? = some oi) (h : wpG P ops Q S fuel (listed.setIfInBounds i true) (a.put oi.dst v) w)
  (hs : (Region.noSelect ops && Region.free .any ops listed i && (Region.ready .any ops listed).contains i) = true := by kernel_rfl) (hw : Region.wanted oi (yielded ops a.tmps) = true := by rfl)
  (hy : ∀ w', (∃ L, DC ops L ∧ L.getD i true = false ∧ S L w') → (execOp a.eval oi).run P w' = .ok (.value v) w' := by intro w' hy; obtain ⟨L, hD, hl, hS⟩ := hy; clear hD hl hS; go_simp; (try with_reducible rfl))
  (hSi : ∀ L w, S (L.setIfInBounds i true) w ↔ S L w := by first | exact fun _ _ => Iff.rfl | (intro L w; simp (decide := true) only [getD_set_ne])) (hQ : ∀ c a w, Q (.panic c) (a.put oi.dst v) w → Q (.panic c) a w := by exact fun _ _ _ h => h) : wpG P ops Q S (fuel + 1) listed a w := wpG_take hi hs hSi hQ (.inl ⟨hw, hy⟩) h
end
section
variable {df : List Deferred} {P : Program} {ops : Array Oper} {rest : List Oper} {op : Oper} {a : Act} {Q : Exit → Act → World → Prop} {w0 w : World} {ex : Nat → Prop} {L : List (Nat × BA)} {K : Act → World → Prop} {n t : Nat} {E : List (Nat × Value)} {v : Value} {S : Array Bool → World → Prop} {fuel : Nat} {oi : Oper}
theorem Zrg (off : Nat) {s : TypeId} {x : Operand} {f g o : Nat} (ho : op.op = .fieldAddr s x f) (hx : a.eval x = .pointer (some ⟨g, o, none⟩))
  (hr : ∀ (g o : Nat) (w : World), (Instr.fieldAt s (.pointer (some ⟨g, o, none⟩)) f).run P w = .ok (.pointer (some ⟨g, o + off, none⟩)) w := by exact fun _ _ _ => by kernel_rfl) : Runs P op a (.pointer (some ⟨g, o + off, none⟩)) w := Zrf ho hx hr
theorem Zot {ty : TypeId} {x y : Operand} {g o : Nat} {cs ds cs' : List Value} {L' : List (Nat × BA)} (M : Mem w0 ex w L) (T : TmD df a n E) (ho : op.op = .store ty x y) (hd : op.dst = none) (hx : a.eval x = .pointer (some ⟨g, o, none⟩)) (hy : a.eval y = v) (hv : v.cells = ds.toArray)
   (hu : Upd L g (.cells cs) (.cells cs') L') (hc : storeO cs o ds = some cs') (h1 : ds.all (·.oneCell') = true)
   (h : ∀ w' a', Mem w0 ex w' L' → TmD df a' n E → K a' w') (hne : ds ≠ [] := by simp) (hi : (P.info? ty).map (·.size) = some ds.length := by kernel_rfl) : op.wp P a w K Q := Zos M T ho hd hx hy hv hu hc hne h1 hi h
theorem Zod {x : Operand} {xs : List Operand} {ts : Array TypeId} {f : FuncId} {vs : List Value} {fn : Func} (T : TmD df a n E) (ho : op.op = .call { callee := .value x, args := xs.toArray, argTypes := ts }) (hd : op.dst = some t) (hf : freshE E t = true) (hn : Nat.blt t n = true)
  (hx : a.eval x = .func (.func f) ([] : List Value).toArray ([] : List Value).toArray) (hv : EvL a xs vs) (hfn : P.funcs[f]? = some fn) (hnm : (fn.name == "runtime.NumGoroutine") = false) (hb : fn.body.isNone = false)
  (h : Calls P f ([] ++ vs ++ []).toArray w (RetK fun v w' => ∀ a', TmD df a' n ((t, v) :: E) → K a' w')) : op.wp P a w K Q := Zoc (first := []) (cap := []) T ho hd hf hn hx hv hfn hnm hb h
theorem Zgq (T : TmD df a n E) (i b' : Nat) {m b : Nat} (hi : ops[i]? = some oi) (hr : ∀ w', Runs P oi a v w') (h : ∀ a', TmD df a' n ((t, v) :: E) → wpG P ops Q S fuel (Zpb m b') a' w)
  (hs : (Region.noSelect ops && Region.free .any ops (Zpb m b) i && (Region.ready .any ops (Zpb m b)).contains i) = true := by kernel_rfl) (hl : (Zpb m b).setIfInBounds i true = Zpb m b' := by kernel_rfl)
  (hSi : ∀ L w, S (L.setIfInBounds i true) w ↔ S L w := by repeat' (first | exact si_U | exact si_G rfl | refine si_and ?_ ?_)) (hQ : ∀ c a w, Q (.panic c) (a.put oi.dst v) w → Q (.panic c) a w := by exact fun _ _ _ h => h)
  (hw : Region.wanted oi (yielded ops a.tmps) = true := by rfl) (hd : oi.dst = some t := by rfl) (hf : freshE E t = true := by rfl) (hn : Nat.blt t n = true := by rfl) : wpG P ops Q S (fuel + 1) (Zpb m b) a w :=
 gq T i b' hi (fun _ w' _ _ _ => hr w') h hs hl hSi hQ hw hd hf hn
end
abbrev Zi (x : Int) : Value := .int .i64 x
abbrev Zj (g : Nat) : Value := .pointer (some ⟨g, 0, none⟩)
section
variable {df : List Deferred} {P : Program} {ops : Array Oper} {rest : List Oper} {a : Act} {Q Q2 : Exit → Act → World → Prop} {w : World} {K : Act → World → Prop} {n t : Nat} {E : List (Nat × Value)} {v : Value} {x y : Code}
theorem TmD.e (T : TmD df a n E) (i : Nat) {t : Nat} {v : Value} (h : nthE E i = some (t, v)) : a.eval (.tmp t) = v := T.ev i h
theorem Zsr {id : Nat} {l : List Oper} (h : wpList P l.toArray (Exit.then (y.wp P Q) Q) l a w) : (Code.seq (Code.region id l.toArray false) y).wp P Q a w := wp_seq (wp_region_lit h)
theorem Zln (h : K a w) : wpList P ops (Exit.then K Q) [] a w := wpList_nil (nm_then h)
theorem Znr (h : Q2 .ret a w) : Exit.then (Code.wp P .ret Q2) Q .normal a w := nm_then (wp_ret h)
theorem Zns (h : x.wp P (Exit.then (y.wp P Q2) Q2) a w) : Exit.then (Code.wp P (.seq x y) Q2) Q .normal a w := nm_then (wp_seq h)
theorem Zsk (h : K a w) : Code.wp P .skip (Exit.then K Q) a w := wp_skip (nm_then h)
theorem Zdf {p : Prop} [h9 : Decidable p] (h : ¬p) : decide p = false := decide_eq_false h
theorem Zdt {p : Prop} [h9 : Decidable p] (h : p) : decide p = true := decide_eq_true h
theorem Zsl {α : Type} (a b : List α) : a.Sublist (a ++ b) := List.sublist_append_left a b
theorem Zsq {α : Type} (a b : List α) : b.Sublist (a ++ b) := List.sublist_append_right a b
theorem Zb1 {a b : Bool} : ((a && b) = true) = (a = true ∧ b = true) := Bool.and_eq_true a b
theorem Zb2 {a b : Bool} : ((a || b) = true) = (a = true ∨ b = true) := Bool.or_eq_true a b
theorem Zb3 {b : Bool} : ((!b) = true) = (b = false) := Bool.not_eq_true' b
theorem Zb4 {a b : Bool} : ((a && b) = false) ↔ (a = true → b = false) := Bool.and_eq_false_imp
theorem Zb5 {a b : Bool} : ((a || b) = false) ↔ (a = false ∧ b = false) := Bool.or_eq_false_iff
theorem Zb6 {p : Prop} [Decidable p] : (decide p = true) = p := decide_eq_true_eq
theorem Zb7 {p : Prop} [Decidable p] : (decide p = false) ↔ ¬ p := decide_eq_false_iff_not
theorem Zz1 {α : Type _} {a b : α} {l : List α} (h : a ∈ l) : a ∈ b :: l := List.mem_cons_of_mem b h
theorem Zz2 {α : Type _} {a : α} {l : List α} : a ∈ a :: l := List.mem_cons_self
theorem Zz3 {α : Type _} {xs : List α} {i : Nat} (h : i < xs.toArray.size) : xs.toArray[i]'h = xs[i]'(by simpa using h) := List.getElem_toArray h
theorem Zz4 {α : Type _} (a : α) (r : List α) (i : Nat) (h : i + 1 < (a :: r).length) : (a :: r)[i + 1]'h = r[i]'(Nat.lt_of_succ_lt_succ h) := rfl
theorem Zz5 {α : Type _} (a : α) (r : List α) (h : 0 < (a :: r).length) : (a :: r)[0]'h = a := rfl
theorem Zz6 {α : Type _} (l : List α) (i : Nat) (a : α) : l.toArray.setIfInBounds i a = (l.set i a).toArray := List.setIfInBounds_toArray ..
theorem Zz7 {α : Type _} {a b : α} {l : List α} : (a :: l).set 0 b = b :: l := rfl
theorem Zz8 {α : Type _} {a b : α} {l : List α} {i : Nat} : (a :: l).set (i + 1) b = a :: l.set i b := rfl
theorem Zz9 {α : Type _} (l : List α) : [].Sublist l := List.nil_sublist l
theorem Zy1 {α : Type _} {a : α} {l : List α} {i : Nat} : (a :: l).drop (i + 1) = l.drop i := List.drop_succ_cons
theorem Zy2 {α : Type _} {a : α} {l : List α} {i : Nat} : (a :: l).take (i + 1) = a :: l.take i := List.take_succ_cons
def ZSt (P : Program) (ops : Array Oper) (o : Oper) (a : Act) (w : World) (v : Value) : Prop := (Region.wanted o (yielded ops a.tmps) = true ∧ Runs P o a v w) ∨ (Region.wanted o (yielded ops a.tmps) = false ∧ v = undef)
theorem Zq {o : Oper} (r : Runs P o a v w) (hw : Region.wanted o (yielded ops a.tmps) = true := by rfl) : ZSt P ops o a w v := .inl ⟨hw, r⟩
theorem Zw {o : Oper} (hw : Region.wanted o (yielded ops a.tmps) = true) (r : Runs P o a v w) : ZSt P ops o a w v := .inl ⟨hw, r⟩
theorem Zp {o : Oper} (hw : Region.wanted o (yielded ops a.tmps) = false) : ZSt P ops o a w undef := .inr ⟨hw, rfl⟩
theorem Zg1 {o : Oper} (T : TmD df a n E) (s : ZSt P ops o a w v) (d : o.dst = some t) (h : ∀ a', TmD df a' n ((t, v) :: E) → wpList P ops Q rest a' w) (f : freshE E t = true := by rfl) (m : Nat.blt t n = true := by rfl) : wpList P ops Q (o :: rest) a w := by
 rcases s with ⟨hw, r⟩ | ⟨hw, rfl⟩
 · exact lq T r h hw d f m
 · exact lp T hw h d f m
theorem Zl2 {o : Oper} (h : o.wp P a w (fun a w => wpList P ops Q rest a w) Q) (hw : Region.wanted o (yielded ops a.tmps) = true := by rfl) : wpList P ops Q (o :: rest) a w := wpList_wanted hw fun _ hK => Oper.wp_mono hK h
theorem Zm {o : Oper} (i : Nat) (h : nthE E i = some (t, v)) (ho : o.op = .move (.tmp t)) (hw : ∀ a : Act, Region.wanted o (yielded ops a.tmps) = true := by intro _; rfl) : ∀ a', TmD df a' n E → ZSt P ops o a' w v := fun a' T => Zq (Zrm ho (T.ev i h)) (hw a')
theorem Za {o : Oper} (i : Nat) (h : nthE E i = some (t, v)) (ho : o.op = .assign (.tmp t)) (hw : ∀ a : Act, Region.wanted o (yielded ops a.tmps) = true := by intro _; rfl) : ∀ a', TmD df a' n E → ZSt P ops o a' w v := fun a' T => Zq (Zra ho (T.ev i h)) (hw a')
theorem Zc {o : Oper} (ho : o.op = .assign (.const v)) (hw : ∀ a : Act, Region.wanted o (yielded ops a.tmps) = true := by intro _; rfl) : ∀ a', TmD df a' n E → ZSt P ops o a' w v := fun a' _ => Zq (Zra ho rfl) (hw a')
theorem Zo {o : Oper} {w0 : World} {ex : Nat → Prop} {L : List (Nat × BA)} {g k : Nat} {cs : List Value} {ty : TypeId} [OneTy P ty] (M : Mem w0 ex w L) (j i : Nat) (hB : nthE L j = some (g, .cells cs)) (h : nthE E i = some (t, .pointer (some ⟨g, k, none⟩))) (ho : o.op = .load ty (.tmp t)) (hv : cs[k]? = some v) (hw : ∀ a : Act, Region.wanted o (yielded ops a.tmps) = true := by intro _; rfl) : ∀ a', TmD df a' n E → ZSt P ops o a' w v := fun a' T => Zq (Zro (M.nth j hB) ho (T.ev i h) hv) (hw a')
theorem Zr {o : Oper} {w0 : World} {ex : Nat → Prop} {L : List (Nat × BA)} {g k m : Nat} {cs ds : List Value} {ty : TypeId} [RowTy P ty (m + 1)] (M : Mem w0 ex w L) (j i : Nat) (hB : nthE L j = some (g, .cells cs)) (h : nthE E i = some (t, .pointer (some ⟨g, k, none⟩))) (ho : o.op = .load ty (.tmp t)) (hd : sliceO k (m + 1) cs = some ds) (hw : ∀ a : Act, Region.wanted o (yielded ops a.tmps) = true := by intro _; rfl) : ∀ a', TmD df a' n E → ZSt P ops o a' w (.agg ds.toArray) := fun a' T => Zq (Zrr (M.nth j hB) ho (T.ev i h) hd) (hw a')
theorem Zf {o : Oper} {s : TypeId} {f g k : Nat} (off i : Nat) (h : nthE E i = some (t, .pointer (some ⟨g, k, none⟩))) (ho : o.op = .fieldAddr s (.tmp t) f) (hr : ∀ (g o : Nat) (w : World), (Instr.fieldAt s (.pointer (some ⟨g, o, none⟩)) f).run P w = .ok (.pointer (some ⟨g, o + off, none⟩)) w := by intro _ _ _; kernel_rfl) (hw : ∀ a : Act, Region.wanted o (yielded ops a.tmps) = true := by intro _; rfl) : ∀ a', TmD df a' n E → ZSt P ops o a' w (.pointer (some ⟨g, k + off, none⟩)) := fun a' T => Zq (Zrf ho (T.ev i h) hr) (hw a')
theorem Ze {o : Oper} {i' : Nat} {vs : List Value} (i : Nat) (h : nthE E i = some (t, .tuple vs.toArray)) (ho : o.op = .extract (.tmp t) i') (hv : nthE vs i' = some v) (hw : ∀ a : Act, Region.wanted o (yielded ops a.tmps) = true := by intro _; rfl) : ∀ a', TmD df a' n E → ZSt P ops o a' w v := fun a' T => Zq (Zre ho (T.ev i h) hv) (hw a')
theorem Zl {o : Oper} {A : Option Addr} {m c : Nat} {ty e : TypeId} (hu : P.underlying ty = some (.slice e)) (i : Nat) (h : nthE E i = some (t, .slice A m c)) (ho : o.op = .call { callee := .builtin .len, args := #[.tmp t], argTypes := #[ty] }) (hw : ∀ a : Act, Region.wanted o (yielded ops a.tmps) = true := by intro _; rfl) : ∀ a', TmD df a' n E → ZSt P ops o a' w (.int .i64 (m : Int)) := fun a' T => Zq (Zrl ho hu (T.ev i h)) (hw a')
theorem Zg2 {o1 o2 : Oper} {t1 t2 : Nat} {v1 v2 : Value} (T : TmD df a n E) (s1 : ZSt P ops o1 a w v1) (d1 : o1.dst = some t1) (s2 : ∀ a', TmD df a' n ((t1, v1) :: E) → ZSt P ops o2 a' w v2) (d2 : o2.dst = some t2) (h : ∀ a', TmD df a' n ((t2, v2) :: (t1, v1) :: E) → wpList P ops Q rest a' w) (f1 : freshE (E) t1 = true := by rfl) (m1 : Nat.blt t1 n = true := by rfl) (f2 : freshE ((t1, v1) :: E) t2 = true := by rfl) (m2 : Nat.blt t2 n = true := by rfl) : wpList P ops Q (o1 :: o2 :: rest) a w :=
 Zg1 T s1 d1 (fun a1 T1 => Zg1 T1 (s2 a1 T1) d2 h f2 m2) f1 m1
theorem Zg3 {o1 o2 o3 : Oper} {t1 t2 t3 : Nat} {v1 v2 v3 : Value} (T : TmD df a n E) (s1 : ZSt P ops o1 a w v1) (d1 : o1.dst = some t1) (s2 : ∀ a', TmD df a' n ((t1, v1) :: E) → ZSt P ops o2 a' w v2) (d2 : o2.dst = some t2) (s3 : ∀ a', TmD df a' n ((t2, v2) :: (t1, v1) :: E) → ZSt P ops o3 a' w v3) (d3 : o3.dst = some t3) (h : ∀ a', TmD df a' n ((t3, v3) :: (t2, v2) :: (t1, v1) :: E) → wpList P ops Q rest a' w) (f1 : freshE (E) t1 = true := by rfl) (m1 : Nat.blt t1 n = true := by rfl) (f2 : freshE ((t1, v1) :: E) t2 = true := by rfl) (m2 : Nat.blt t2 n = true := by rfl) (f3 : freshE ((t2, v2) :: (t1, v1) :: E) t3 = true := by rfl) (m3 : Nat.blt t3 n = true := by rfl) : wpList P ops Q (o1 :: o2 :: o3 :: rest) a w :=
 Zg1 T s1 d1 (fun a1 T1 => Zg2 T1 (s2 a1 T1) d2 s3 d3 h f2 m2 f3 m3) f1 m1
theorem Zg4 {o1 o2 o3 o4 : Oper} {t1 t2 t3 t4 : Nat} {v1 v2 v3 v4 : Value} (T : TmD df a n E) (s1 : ZSt P ops o1 a w v1) (d1 : o1.dst = some t1) (s2 : ∀ a', TmD df a' n ((t1, v1) :: E) → ZSt P ops o2 a' w v2) (d2 : o2.dst = some t2) (s3 : ∀ a', TmD df a' n ((t2, v2) :: (t1, v1) :: E) → ZSt P ops o3 a' w v3) (d3 : o3.dst = some t3) (s4 : ∀ a', TmD df a' n ((t3, v3) :: (t2, v2) :: (t1, v1) :: E) → ZSt P ops o4 a' w v4) (d4 : o4.dst = some t4) (h : ∀ a', TmD df a' n ((t4, v4) :: (t3, v3) :: (t2, v2) :: (t1, v1) :: E) → wpList P ops Q rest a' w) (f1 : freshE (E) t1 = true := by rfl) (m1 : Nat.blt t1 n = true := by rfl) (f2 : freshE ((t1, v1) :: E) t2 = true := by rfl) (m2 : Nat.blt t2 n = true := by rfl) (f3 : freshE ((t2, v2) :: (t1, v1) :: E) t3 = true := by rfl) (m3 : Nat.blt t3 n = true := by rfl) (f4 : freshE ((t3, v3) :: (t2, v2) :: (t1, v1) :: E) t4 = true := by rfl) (m4 : Nat.blt t4 n = true := by rfl) : wpList P ops Q (o1 :: o2 :: o3 :: o4 :: rest) a w :=
 Zg1 T s1 d1 (fun a1 T1 => Zg3 T1 (s2 a1 T1) d2 s3 d3 s4 d4 h f2 m2 f3 m3 f4 m4) f1 m1
theorem Zg5 {o1 o2 o3 o4 o5 : Oper} {t1 t2 t3 t4 t5 : Nat} {v1 v2 v3 v4 v5 : Value} (T : TmD df a n E) (s1 : ZSt P ops o1 a w v1) (d1 : o1.dst = some t1) (s2 : ∀ a', TmD df a' n ((t1, v1) :: E) → ZSt P ops o2 a' w v2) (d2 : o2.dst = some t2) (s3 : ∀ a', TmD df a' n ((t2, v2) :: (t1, v1) :: E) → ZSt P ops o3 a' w v3) (d3 : o3.dst = some t3) (s4 : ∀ a', TmD df a' n ((t3, v3) :: (t2, v2) :: (t1, v1) :: E) → ZSt P ops o4 a' w v4) (d4 : o4.dst = some t4) (s5 : ∀ a', TmD df a' n ((t4, v4) :: (t3, v3) :: (t2, v2) :: (t1, v1) :: E) → ZSt P ops o5 a' w v5) (d5 : o5.dst = some t5) (h : ∀ a', TmD df a' n ((t5, v5) :: (t4, v4) :: (t3, v3) :: (t2, v2) :: (t1, v1) :: E) → wpList P ops Q rest a' w) (f1 : freshE (E) t1 = true := by rfl) (m1 : Nat.blt t1 n = true := by rfl) (f2 : freshE ((t1, v1) :: E) t2 = true := by rfl) (m2 : Nat.blt t2 n = true := by rfl) (f3 : freshE ((t2, v2) :: (t1, v1) :: E) t3 = true := by rfl) (m3 : Nat.blt t3 n = true := by rfl) (f4 : freshE ((t3, v3) :: (t2, v2) :: (t1, v1) :: E) t4 = true := by rfl) (m4 : Nat.blt t4 n = true := by rfl) (f5 : freshE ((t4, v4) :: (t3, v3) :: (t2, v2) :: (t1, v1) :: E) t5 = true := by rfl) (m5 : Nat.blt t5 n = true := by rfl) : wpList P ops Q (o1 :: o2 :: o3 :: o4 :: o5 :: rest) a w :=
 Zg1 T s1 d1 (fun a1 T1 => Zg4 T1 (s2 a1 T1) d2 s3 d3 s4 d4 s5 d5 h f2 m2 f3 m3 f4 m4 f5 m5) f1 m1
theorem Zg6 {o1 o2 o3 o4 o5 o6 : Oper} {t1 t2 t3 t4 t5 t6 : Nat} {v1 v2 v3 v4 v5 v6 : Value} (T : TmD df a n E) (s1 : ZSt P ops o1 a w v1) (d1 : o1.dst = some t1) (s2 : ∀ a', TmD df a' n ((t1, v1) :: E) → ZSt P ops o2 a' w v2) (d2 : o2.dst = some t2) (s3 : ∀ a', TmD df a' n ((t2, v2) :: (t1, v1) :: E) → ZSt P ops o3 a' w v3) (d3 : o3.dst = some t3) (s4 : ∀ a', TmD df a' n ((t3, v3) :: (t2, v2) :: (t1, v1) :: E) → ZSt P ops o4 a' w v4) (d4 : o4.dst = some t4) (s5 : ∀ a', TmD df a' n ((t4, v4) :: (t3, v3) :: (t2, v2) :: (t1, v1) :: E) → ZSt P ops o5 a' w v5) (d5 : o5.dst = some t5) (s6 : ∀ a', TmD df a' n ((t5, v5) :: (t4, v4) :: (t3, v3) :: (t2, v2) :: (t1, v1) :: E) → ZSt P ops o6 a' w v6) (d6 : o6.dst = some t6) (h : ∀ a', TmD df a' n ((t6, v6) :: (t5, v5) :: (t4, v4) :: (t3, v3) :: (t2, v2) :: (t1, v1) :: E) → wpList P ops Q rest a' w) (f1 : freshE (E) t1 = true := by rfl) (m1 : Nat.blt t1 n = true := by rfl) (f2 : freshE ((t1, v1) :: E) t2 = true := by rfl) (m2 : Nat.blt t2 n = true := by rfl) (f3 : freshE ((t2, v2) :: (t1, v1) :: E) t3 = true := by rfl) (m3 : Nat.blt t3 n = true := by rfl) (f4 : freshE ((t3, v3) :: (t2, v2) :: (t1, v1) :: E) t4 = true := by rfl) (m4 : Nat.blt t4 n = true := by rfl) (f5 : freshE ((t4, v4) :: (t3, v3) :: (t2, v2) :: (t1, v1) :: E) t5 = true := by rfl) (m5 : Nat.blt t5 n = true := by rfl) (f6 : freshE ((t5, v5) :: (t4, v4) :: (t3, v3) :: (t2, v2) :: (t1, v1) :: E) t6 = true := by rfl) (m6 : Nat.blt t6 n = true := by rfl) : wpList P ops Q (o1 :: o2 :: o3 :: o4 :: o5 :: o6 :: rest) a w :=
 Zg1 T s1 d1 (fun a1 T1 => Zg5 T1 (s2 a1 T1) d2 s3 d3 s4 d4 s5 d5 s6 d6 h f2 m2 f3 m3 f4 m4 f5 m5 f6 m6) f1 m1
theorem Zg7 {o1 o2 o3 o4 o5 o6 o7 : Oper} {t1 t2 t3 t4 t5 t6 t7 : Nat} {v1 v2 v3 v4 v5 v6 v7 : Value} (T : TmD df a n E) (s1 : ZSt P ops o1 a w v1) (d1 : o1.dst = some t1) (s2 : ∀ a', TmD df a' n ((t1, v1) :: E) → ZSt P ops o2 a' w v2) (d2 : o2.dst = some t2) (s3 : ∀ a', TmD df a' n ((t2, v2) :: (t1, v1) :: E) → ZSt P ops o3 a' w v3) (d3 : o3.dst = some t3) (s4 : ∀ a', TmD df a' n ((t3, v3) :: (t2, v2) :: (t1, v1) :: E) → ZSt P ops o4 a' w v4) (d4 : o4.dst = some t4) (s5 : ∀ a', TmD df a' n ((t4, v4) :: (t3, v3) :: (t2, v2) :: (t1, v1) :: E) → ZSt P ops o5 a' w v5) (d5 : o5.dst = some t5) (s6 : ∀ a', TmD df a' n ((t5, v5) :: (t4, v4) :: (t3, v3) :: (t2, v2) :: (t1, v1) :: E) → ZSt P ops o6 a' w v6) (d6 : o6.dst = some t6) (s7 : ∀ a', TmD df a' n ((t6, v6) :: (t5, v5) :: (t4, v4) :: (t3, v3) :: (t2, v2) :: (t1, v1) :: E) → ZSt P ops o7 a' w v7) (d7 : o7.dst = some t7) (h : ∀ a', TmD df a' n ((t7, v7) :: (t6, v6) :: (t5, v5) :: (t4, v4) :: (t3, v3) :: (t2, v2) :: (t1, v1) :: E) → wpList P ops Q rest a' w) (f1 : freshE (E) t1 = true := by rfl) (m1 : Nat.blt t1 n = true := by rfl) (f2 : freshE ((t1, v1) :: E) t2 = true := by rfl) (m2 : Nat.blt t2 n = true := by rfl) (f3 : freshE ((t2, v2) :: (t1, v1) :: E) t3 = true := by rfl) (m3 : Nat.blt t3 n = true := by rfl) (f4 : freshE ((t3, v3) :: (t2, v2) :: (t1, v1) :: E) t4 = true := by rfl) (m4 : Nat.blt t4 n = true := by rfl) (f5 : freshE ((t4, v4) :: (t3, v3) :: (t2, v2) :: (t1, v1) :: E) t5 = true := by rfl) (m5 : Nat.blt t5 n = true := by rfl) (f6 : freshE ((t5, v5) :: (t4, v4) :: (t3, v3) :: (t2, v2) :: (t1, v1) :: E) t6 = true := by rfl) (m6 : Nat.blt t6 n = true := by rfl) (f7 : freshE ((t6, v6) :: (t5, v5) :: (t4, v4) :: (t3, v3) :: (t2, v2) :: (t1, v1) :: E) t7 = true := by rfl) (m7 : Nat.blt t7 n = true := by rfl) : wpList P ops Q (o1 :: o2 :: o3 :: o4 :: o5 :: o6 :: o7 :: rest) a w :=
 Zg1 T s1 d1 (fun a1 T1 => Zg6 T1 (s2 a1 T1) d2 s3 d3 s4 d4 s5 d5 s6 d6 s7 d7 h f2 m2 f3 m3 f4 m4 f5 m5 f6 m6 f7 m7) f1 m1
theorem Zg8 {o1 o2 o3 o4 o5 o6 o7 o8 : Oper} {t1 t2 t3 t4 t5 t6 t7 t8 : Nat} {v1 v2 v3 v4 v5 v6 v7 v8 : Value} (T : TmD df a n E) (s1 : ZSt P ops o1 a w v1) (d1 : o1.dst = some t1) (s2 : ∀ a', TmD df a' n ((t1, v1) :: E) → ZSt P ops o2 a' w v2) (d2 : o2.dst = some t2) (s3 : ∀ a', TmD df a' n ((t2, v2) :: (t1, v1) :: E) → ZSt P ops o3 a' w v3) (d3 : o3.dst = some t3) (s4 : ∀ a', TmD df a' n ((t3, v3) :: (t2, v2) :: (t1, v1) :: E) → ZSt P ops o4 a' w v4) (d4 : o4.dst = some t4) (s5 : ∀ a', TmD df a' n ((t4, v4) :: (t3, v3) :: (t2, v2) :: (t1, v1) :: E) → ZSt P ops o5 a' w v5) (d5 : o5.dst = some t5) (s6 : ∀ a', TmD df a' n ((t5, v5) :: (t4, v4) :: (t3, v3) :: (t2, v2) :: (t1, v1) :: E) → ZSt P ops o6 a' w v6) (d6 : o6.dst = some t6) (s7 : ∀ a', TmD df a' n ((t6, v6) :: (t5, v5) :: (t4, v4) :: (t3, v3) :: (t2, v2) :: (t1, v1) :: E) → ZSt P ops o7 a' w v7) (d7 : o7.dst = some t7) (s8 : ∀ a', TmD df a' n ((t7, v7) :: (t6, v6) :: (t5, v5) :: (t4, v4) :: (t3, v3) :: (t2, v2) :: (t1, v1) :: E) → ZSt P ops o8 a' w v8) (d8 : o8.dst = some t8) (h : ∀ a', TmD df a' n ((t8, v8) :: (t7, v7) :: (t6, v6) :: (t5, v5) :: (t4, v4) :: (t3, v3) :: (t2, v2) :: (t1, v1) :: E) → wpList P ops Q rest a' w) (f1 : freshE (E) t1 = true := by rfl) (m1 : Nat.blt t1 n = true := by rfl) (f2 : freshE ((t1, v1) :: E) t2 = true := by rfl) (m2 : Nat.blt t2 n = true := by rfl) (f3 : freshE ((t2, v2) :: (t1, v1) :: E) t3 = true := by rfl) (m3 : Nat.blt t3 n = true := by rfl) (f4 : freshE ((t3, v3) :: (t2, v2) :: (t1, v1) :: E) t4 = true := by rfl) (m4 : Nat.blt t4 n = true := by rfl) (f5 : freshE ((t4, v4) :: (t3, v3) :: (t2, v2) :: (t1, v1) :: E) t5 = true := by rfl) (m5 : Nat.blt t5 n = true := by rfl) (f6 : freshE ((t5, v5) :: (t4, v4) :: (t3, v3) :: (t2, v2) :: (t1, v1) :: E) t6 = true := by rfl) (m6 : Nat.blt t6 n = true := by rfl) (f7 : freshE ((t6, v6) :: (t5, v5) :: (t4, v4) :: (t3, v3) :: (t2, v2) :: (t1, v1) :: E) t7 = true := by rfl) (m7 : Nat.blt t7 n = true := by rfl) (f8 : freshE ((t7, v7) :: (t6, v6) :: (t5, v5) :: (t4, v4) :: (t3, v3) :: (t2, v2) :: (t1, v1) :: E) t8 = true := by rfl) (m8 : Nat.blt t8 n = true := by rfl) : wpList P ops Q (o1 :: o2 :: o3 :: o4 :: o5 :: o6 :: o7 :: o8 :: rest) a w :=
 Zg1 T s1 d1 (fun a1 T1 => Zg7 T1 (s2 a1 T1) d2 s3 d3 s4 d4 s5 d5 s6 d6 s7 d7 s8 d8 h f2 m2 f3 m3 f4 m4 f5 m5 f6 m6 f7 m7 f8 m8) f1 m1
end
section
variable {df : List Deferred} {P : Program} {ops : Array Oper} {rest : List Oper} {op : Oper} {a : Act} {Q : Exit → Act → World → Prop} {w0 w : World} {ex : Nat → Prop} {L : List (Nat × BA)} {K : Act → World → Prop} {n t : Nat} {E : List (Nat × Value)} {v : Value}
theorem rn_nil {x : Operand} {p : Addr} (ho : op.op = .nilCheck x) (hx : a.eval x = .pointer (some p)) : Runs P op a (.pointer (some p)) w := by
 unfold Runs execOp
 simp only [ho, hx, Sem.run_pure]
theorem rt_0 {fn : Func} {R : Ending → World → Prop} (T : Tm a n E) (hr : fn.results = #[]) (h : R (.returned (.tuple #[])) w) : bodyPost P fn R .ret a w := ⟨T.defers, _, results_none hr _ _ _, h⟩
theorem nm_0 {fn : Func} {R : Ending → World → Prop} (T : Tm a n E) (hr : fn.results = #[]) (h : R (.returned (.tuple #[])) w) : bodyPost P fn R .normal a w := ⟨T.defers, _, results_none hr _ _ _, h⟩
def Bd (a : Act) (y : Option Operand) (d l : Nat) : Prop := match y with
 | none => l = d
 | some y => a.eval y = .int .i64 (l : Int)
theorem rn_slice {ty e : TypeId} {size : Nat} {x : Operand} {A : Option Addr} {m c : Nat} {lo hi : Option Operand} {l h : Nat} (ho : op.op = .slice ty x lo hi none) (hu : P.underlying ty = some (.slice e)) (hs : (P.info? e).map (·.size) = some size)
   (hx : a.eval x = .slice A m c) (hl : Bd a lo 0 l) (hh : Bd a hi m h) (h1 : l ≤ h) (h2 : h ≤ c) : Runs P op a (.slice (if c = l then A else A.map (·.add (l * size))) (h - l) (c - l)) w := by
 cases hi' : P.info? e with
 | none => rw [hi'] at hs; simp at hs
 | some inf =>
   rw [hi'] at hs
   simp at hs
   have q1 : (l : Int) ≤ (h : Int) := by omega
   have q2 : (h : Int) ≤ (c : Int) := by omega
   unfold Runs execOp
   cases lo with
   | none =>
     have hl : l = 0 := hl
     subst hl
     cases hi with
     | none =>
       have hh : h = m := hh
       subst hh
       simp [ho, hx, Instr.sliceAt, Instr.slice, Instr.sliceBounds, Sem.run_bind, run_underlying, hu, sizeOf, typeInfo, hi', hs]
     | some y =>
       have hh : a.eval y = .int .i64 (h : Int) := hh
       simp [ho, hx, hh, Instr.sliceAt, Instr.slice, Instr.sliceBounds, Instr.sliceBound, asIntOf, Sem.run_bind, run_underlying, hu, sizeOf, typeInfo, hi', hs, h2]
   | some z =>
     have hl : a.eval z = .int .i64 (l : Int) := hl
     cases hi with
     | none =>
       have hh : h = m := hh
       subst hh
       simp [ho, hx, hl, Instr.sliceAt, Instr.slice, Instr.sliceBounds, Instr.sliceBound, asIntOf, Sem.run_bind, run_underlying, hu, sizeOf, typeInfo, hi', hs, h1]
     | some y =>
       have hh : a.eval y = .int .i64 (h : Int) := hh
       simp [ho, hx, hh, hl, Instr.sliceAt, Instr.slice, Instr.sliceBounds, Instr.sliceBound, asIntOf, Sem.run_bind, run_underlying, hu, sizeOf, typeInfo, hi', hs, h1, h2]
end
theorem Sp.sub {w : World} {ex : Nat → Prop} {I : List (Nat × BA)} {A : Option Addr} {n size b o : Nat} {xs : List Value} (S : Sp w ex I A n size b o xs) {l h c : Nat} (h1 : l ≤ h) (h2 : h ≤ n) (h3 : n ≤ c) :
   Sp w ex I (if c = l then A else A.map (·.add (l * size))) (h - l) size b (o + l * size) ((xs.drop (l * size)).take ((h - l) * size)) := by
 have hlen : (h - l) * size ≤ n * size - l * size := by
   rw [← Nat.sub_mul]
   exact Nat.mul_le_mul_right _ (by omega)
 refine ⟨fun hp => ?_, ?_, fun w' L M hI hp => S.lt w' L M hI (by omega), fun w' L M hI j u hu => ?_⟩
 · rw [if_neg (by omega), S.at0 (by omega), Option.map_some, Addr.add_mid]
 · rw [List.length_take, List.length_drop, S.len]
   omega
 · rw [List.getElem?_take] at hu
   split at hu
   · rw [List.getElem?_drop] at hu
     have := S.cell w' L M hI _ u hu
     rw [← Nat.add_assoc] at this
     exact this
   · cases hu
theorem ic_part (l : List Int) (k h : Nat) : ((ic l).drop (k * 1)).take ((h - k) * 1) = ic ((l.drop k).take (h - k)) := by
 rw [Nat.mul_one, Nat.mul_one]
 unfold ic
 rw [List.map_take, List.map_drop]
section
open Go.RowKit
open Go.Maps (Keyed)
section
variable {P : Program} {k : TypeId} {ok : Value → Value → Prop} {w w' : World} {b : Nat}
def Memo (P : Program) (k : TypeId) (ok : Value → Value → Prop) (w : World) (b : Nat) : Prop :=
 ∃ es clock, w.heap[b]? = some (.map es clock) ∧ ∀ e ∈ es.toList, (∃ l, keyOf P k e.key = some l) ∧ ok e.key e.val
def memoQ (P : Program) (k : TypeId) (ok : Value → Value → Prop) (o : Obj) : Prop := ∃ es clock, o = .map es clock ∧ ∀ e ∈ es.toList, (∃ l, keyOf P k e.key = some l) ∧ ok e.key e.val
theorem Memo.iff : Memo P k ok w b ↔ BA.holds w b (.any (memoQ P k ok)) := by
 constructor
 · rintro ⟨es, c, h1, h2⟩; exact ⟨_, h1, es, c, rfl, h2⟩
 · rintro ⟨o, h1, es, c, rfl, h2⟩; exact ⟨es, c, h1, h2⟩
theorem Memo.lookup (h : Memo P k ok w b) (K : Keyed P k) {t e : TypeId} (ht : P.underlying t = some (.map k e)) {z : Value} (hz : (zeroValue e).run P w = .ok z w) {key : Value} {kl : Lit} (hkey : keyOf P k key = some kl) :
  (∃ v, (Instr.lookup t (.map (some b)) key true).run P w = .ok (.tuple #[v, .bool true]) w ∧ ok key v) ∨ (Instr.lookup t (.map (some b)) key true).run P w = .ok (.tuple #[z, .bool false]) w := by
 obtain ⟨es, clock, hb, hes⟩ := h
 have hc := K.check w es.isEmpty hkey
 rcases K.find w hkey es.toList (fun e he => (hes e he).1) with ⟨hf, _⟩ | ⟨j, e0, hf, hj, rfl⟩
 ·refine .inr ?_
  unfold Instr.lookup
  simp [run_underlying ht, MapKept.run_getObj_map hb, hc, hf, hz, Result.andThen]
 ·refine .inl ⟨e0.val, ?_, (hes e0 (List.mem_of_getElem? hj)).2⟩
  unfold Instr.lookup
  simp [run_underlying ht, MapKept.run_getObj_map hb, hc, hf, Result.andThen]
theorem Memo.update (h : Memo P k ok w b) (K : Keyed P k) {t e : TypeId} (ht : P.underlying t = some (.map k e)) {key val : Value} {kl : Lit} (hkey : keyOf P k key = some kl) (hok : ok key val) :
  ∃ w', (Instr.mapUpdate t (.map (some b)) key val).run P w = .ok () w' ∧ Memo P k ok w' b ∧ w.grownBy w' (some b) := by
 obtain ⟨es, clock, hb, hes⟩ := h
 have hlt := (Array.getElem?_eq_some_iff.1 hb).1
 have hc := K.check w false hkey
 have fin : ∀ es' clock', (∀ e ∈ es'.toList, (∃ l, keyOf P k e.key = some l) ∧ ok e.key e.val) →
   Memo P k ok (ChangeMaps.setBlock w b (.map es' clock')) b ∧ w.grownBy (ChangeMaps.setBlock w b (.map es' clock')) (some b) := fun es' clock' he =>
  ⟨⟨es', clock', ChangeMaps.heap_setBlock_same hb _, he⟩, ⟨rfl, rfl, rfl, by simp [ChangeMaps.setBlock], fun i _ hi => ChangeMaps.heap_setBlock_other hb _ (fun e => hi (by rw [e]))⟩⟩
 rcases K.find w hkey es.toList (fun e he => (hes e he).1) with ⟨hf, _⟩ | ⟨j, e0, hf, hj, rfl⟩
 ·refine ⟨ChangeMaps.setBlock w b (.map (es.push { key, val, born := clock }) (clock + 1)), ?_, fin _ _ (fun e he => ?_)⟩
  ·unfold Instr.mapUpdate
   simp [run_underlying ht, MapKept.run_getObj_map hb, hc, hf, Result.andThen, MapKept.run_setObj_map _ hb, ChangeMaps.setBlock]
  ·simp only [Array.toList_push, List.mem_append, List.mem_singleton] at he
   rcases he with he | rfl
   ·exact hes e he
   ·exact ⟨⟨_, hkey⟩, hok⟩
 ·refine ⟨ChangeMaps.setBlock w b (.map (es.modify j fun e => { e with key := e0.key, val := val }) clock), ?_, fin _ _ (fun e he => ?_)⟩
  ·unfold Instr.mapUpdate
   have hs := K.stays w hkey
   have hj' : es[j]? = some e0 := by simpa using hj
   simp [run_underlying ht, MapKept.run_getObj_map hb, hc, hf, Result.andThen, MapKept.run_setObj_map _ hb, ChangeMaps.setBlock, hj', hs]
  ·obtain ⟨i, hi⟩ := List.getElem?_of_mem he
   rw [Array.getElem?_toList, Array.getElem?_modify] at hi
   split at hi
   ·obtain ⟨e1, _, rfl⟩ := Option.map_eq_some_iff.1 hi
    exact ⟨⟨_, hkey⟩, hok⟩
   ·exact hes e (by rw [← Array.getElem?_toList] at hi; exact List.mem_of_getElem? hi)
end
section
variable {P : Program} {ops : Array Oper} {rest : List Oper} {op : Oper} {a : Act} {Q : Exit → Act → World → Prop} {w0 w : World} {ex : Nat → Prop} {L L' : List (Nat × BA)} {k e t : TypeId} {ok : Value → Value → Prop}
end
theorem wf64 {a : Int} (h : -100000 ≤ a ∧ a ≤ 100000) : (Lit.int .i64 a).wf = true := by
 have h1 := h.1
 have h2 := h.2
 simp [Lit.wf, IntKind.min, IntKind.max, IntKind.bits, IntKind.signed]
 omega
theorem Tryz.laidOut : laidOutB Tryz.prog = true := by kernel_rfl
theorem Tryz.zeroBool (w : World) : (zeroValue 4).run Tryz.prog w = .ok (.bool false) w := by kernel_rfl
theorem Tryz.cellsInt : Tryz.prog.cellsOf 3 = 1 := by kernel_rfl
theorem Tryz.typesLe : (2 : Nat) ≤ Tryz.prog.types.size := of_decide_eq_true (by kernel_rfl)
theorem Tryz.typesSome : Tryz.prog.types.size = (Tryz.prog.types.size - 2) + 1 + 1 := by have := Tryz.typesLe; omega
end
section
open Go.RowKit
open Go.Maps (Keyed)
section
variable {P : Program} {k : TypeId} {n : Nat} {S : Int × Int → Prop} {es : Array MapEntry} {clock : Nat}
end
section
variable {P : Program} {ops : Array Oper} {rest : List Oper} {op : Oper} {a : Act} {Q : Exit → Act → World → Prop} {df : List Deferred} {w0 w : World} {ex : Nat → Prop} {L L' : List (Nat × BA)} {k e ty : TypeId} {n nn t : Nat} {E : List (Nat × Value)} {K : Act → World → Prop}
theorem rn_indexA {s e : TypeId} {x y : Operand} {g o size m : Nat} (k : Nat) (ho : op.op = .indexAddr s x y) (hx : a.eval x = .pointer (some ⟨g, o, none⟩)) (hy : a.eval y = .int .i64 (k : Int))
   (hu : P.underlying s = some (.array m e)) (he : (P.info? e).map (·.size) = some size) (hk : Nat.blt k m = true) : Runs P op a (.pointer (some ⟨g, o + k * size, none⟩)) w := by
 have hk2 : k < m := by simpa using hk
 unfold Runs execOp
 simp only [ho, hx, hy]
 cases hi : P.info? e with
 | none => rw [hi] at he; simp at he
 | some inf =>
   rw [hi] at he
   simp at he
   have hm' : (k : Int) < (m : Int) := by omega
   simp [Instr.indexAt, asIntOf, Sem.run_bind, run_underlying, hu, sizeOf, typeInfo, hi, he, Addr.add, hk2, Instr.sureAddr, Result.andThen]
end
end
section
open Go.RowKit Go.Shelf
section
variable {F : Fence} {nF : Nat} {P : Program} {ops : Array Oper} {rest : List Oper} {op : Oper} {a : Act} {Q : Exit → Act → World → Prop} {w0 w : World} {ex : Nat → Prop} {L : List (Nat × BA)}
end
end
abbrev FW (l : Nat) : Fence := Fence.wide.inRound l
section
variable {df : List Deferred} {P : Program} {ops : Array Oper} {rest : List Oper} {op : Oper} {a : Act} {Q : Exit → Act → World → Prop} {w0 w : World} {ex : Nat → Prop} {L : List (Nat × BA)} {K : Act → World → Prop} {n t l nn : Nat} {E : List (Nat × Value)} {v : Value}
theorem opIn (hd : ∀ c, op.op ≠ .defer c) (h : op.wp P a w K Q) : op.wpIn (FW l) nn P a w K Q := by
 refine ⟨fun _ _ => trivial, ?_⟩
 rw [Oper.semAt_plain (FW l) _ _ hd]
 unfold Oper.wp at h
 cases hr : (execOp a.eval op).run P w with
 | ok nx w' =>
  rw [hr] at h
  cases nx with
  | value v => exact h
  | skip => exact h
  | defer d => exact h
  | enter f args => exact ⟨fun h9 => by simp [Fence.wide] at h9, CallsIn.inRound l (callsIn_wide.2 h)⟩
  | row r args => exact ⟨fun h9 => by simp [Fence.wide] at h9, fun c cs _ => let ⟨v, w2, r2, s2⟩ := h c cs; ⟨v, w2, r2, stepsIn_wide.2 s2⟩⟩
  | _ => exact h.elim
 | halt hh w' =>
  rw [hr] at h
  cases hh with
  | panic v => exact h
  | _ => exact h.elim
end
def noDefer (l : List Oper) : Bool := l.all fun o => match o.op with | .defer _ => false | _ => true
theorem noDefer_at {l : List Oper} (h : noDefer l = true) {o : Oper} (ho : o ∈ l) (c : Call) : o.op ≠ .defer c := fun e => by
 have h2 := List.all_eq_true.1 h o ho
 rw [e] at h2
 cases h2
section
variable {P : Program} {ops : Array Oper} {a : Act} {Q : Exit → Act → World → Prop} {w0 w : World} {ex : Nat → Prop} {L : List (Nat × BA)} {l nn : Nat}
theorem wpListIn_of (hL : ∀ a w, Q .outgrown a w → False) : ∀ (rest : List Oper), noDefer rest = true → ∀ (a : Act) (w : World), wpList P ops Q rest a w → wpListIn (FW l) nn P ops Q rest a w
 | [], _, _, _, h => h
 | o :: rest, hd, a, w, h => wpListIn_step fun K hK => by
  have hd2 : noDefer rest = true := by
   unfold noDefer at hd ⊢
   rw [List.all_cons, Bool.and_eq_true] at hd
   exact hd.2
  unfold wpList at h
  split
  ·rename_i hw
   rw [if_pos hw] at h
   rcases h with h | ⟨_, a', w', h'⟩
   ·exact opIn (noDefer_at hd Zz2) (Oper.wp_mono (fun a w h => hK a w (wpListIn_of hL rest hd2 a w h)) h)
   ·exact (hL _ _ h').elim
  ·rename_i hw
   rw [if_neg hw] at h
   exact ⟨fun _ _ => trivial, hK _ _ (wpListIn_of hL rest hd2 _ _ h)⟩
theorem ri_lit {id : Nat} {os : List Oper} (hL : ∀ a w, Q .outgrown a w → False) (hd : noDefer os = true) (h : wpList P os.toArray Q os a w) : (Code.region id os.toArray false).wpIn (FW l) nn P Q a w :=
 wpIn_region_lit (wpListIn_of hL os hd a w h)
theorem ci_seq {F : Fence} {x y : Code} (I : Act → World → Prop) (h1 : x.wpIn F nn P (Exit.then I Q) a w) (h2 : ∀ a w, I a w → y.wpIn F nn P Q a w) : (Code.seq x y).wpIn F nn P Q a w :=
 wpIn_seq (wpIn_mono h1 fun e a w h => by cases e <;> first | exact h2 _ _ h | exact h)
open Classical in
end
section
open Go.RowKit Go.Shelf
def BA.isC : BA → Bool
 | .cells (_ :: _) => true
 | .row .. => true
 | _ => false
def farOk (n0 : Nat) (L : List (Nat × BA)) : Prop := ∀ p ∈ L, p.1 < n0 ∨ p.2.isC = true
theorem BA.isC_cells {W : World} {g : Nat} {p : BA} (h : p.holds W g) (hc : p.isC = true) {o : Obj} (ho : W.heap[g]? = some o) : o.isCells = true := by
 cases p with
 | cells l =>
  cases l with
  | nil => simp [BA.isC] at hc
  | cons x l =>
   have h1 := (show Bk W g (x :: l).toArray from h).cell 0
   simp only [World.cell?, ho] at h1
   cases o <;> simp_all [Obj.isCells]
 | row e size n xs cap =>
  obtain ⟨h1, h2⟩ := h
  obtain ⟨-, h3⟩ := h1
  rcases h3 with ⟨h3, -⟩ | ⟨g', c', cur, h3, -, hb, -⟩
  ·cases h3
  ·injection h3 with h3 _ _
   injection h3 with h3
   injection h3 with h3 _ _
   subst h3
   rw [ho] at hb
   injection hb with hb
   subst hb
   rfl
 | any Q => simp [BA.isC] at hc
theorem Mem.far2 {w0 w w' : World} {ex : Nat → Prop} {L : List (Nat × BA)} {n0 : Nat} {row : Option Nat} (M : Mem w0 ex w L) (hg : w.grownBy w' row)
  (hr : ∀ r, row = some r → n0 ≤ r ∧ ∃ o : Obj, w.heap[r]? = some o ∧ o.isCells = false) (h0 : w0.heap.size ≤ n0) (hL : farOk n0 L) : Mem w0 ex w' L :=
 ⟨hg.os.trans M.os, hg.tape.trans M.tape, hg.output.trans M.output, Nat.le_trans M.size hg.size,
  fun b hb hx => (hg.block b (Nat.lt_of_lt_of_le hb M.size) (fun e => by have := (hr b e.symm).1; omega)).trans (M.block b hb hx),
  fun p hp => ⟨(M.blk p hp).1, BA.same (M.blk p hp).2 hg.size (hg.block _ (BA.lt (M.blk p hp).2) (fun e => by
   obtain ⟨h1, o, ho, hc⟩ := hr _ e.symm
   rcases hL p hp with h | h
   ·omega
   ·have := BA.isC_cells (M.blk p hp).2 h ho
    rw [hc] at this
    cases this))⟩, M.nd⟩
def inL (L : List (Nat × BA)) (b : Nat) : Prop := b ∈ L.map (·.1)
theorem Mem.rebase {w0 w : World} {ex : Nat → Prop} {L : List (Nat × BA)} (M : Mem w0 ex w L) : Mem w (inL L) w L :=
 ⟨rfl, rfl, rfl, Nat.le_refl _, fun _ _ _ => rfl, fun p hp => ⟨.inr (List.mem_map.2 ⟨p, hp, rfl⟩), (M.blk p hp).2⟩, M.nd⟩
theorem Mem.back {w0 w w' : World} {ex : Nat → Prop} {L L' : List (Nat × BA)} (M : Mem w0 ex w L) (M' : Mem w (inL L) w' L') : Mem w0 ex w' L' :=
 ⟨M'.os.trans M.os, M'.tape.trans M.tape, M'.output.trans M.output, Nat.le_trans M.size M'.size,
  fun b hb hx => (M'.block b (Nat.lt_of_lt_of_le hb M.size) (fun h => by
   obtain ⟨p, hp, rfl⟩ := List.mem_map.1 h
   rcases (M.blk p hp).1 with h | h
   ·omega
   ·exact hx h)).trans (M.block b hb hx),
  fun p hp => ⟨by
   rcases (M'.blk p hp).1 with h | h
   ·exact .inl (Nat.le_trans M.size h)
   ·obtain ⟨q, hq, e⟩ := List.mem_map.1 h
    rw [← e]
    exact (M.blk q hq).1, (M'.blk p hp).2⟩, M'.nd⟩
theorem Mem.lt {w0 w : World} {ex : Nat → Prop} {L : List (Nat × BA)} (M : Mem w0 ex w L) {g : Nat} {p : BA} (h : (g, p) ∈ L) : g < w.heap.size := BA.lt (M.blk _ h).2
def KpE (n0 : Nat) (eb : Nat → Prop) (W W' : World) : Prop := W.heap.size ≤ W'.heap.size ∧ ∀ b, b < n0 → ¬ eb b → W'.heap[b]? = W.heap[b]?
theorem KpE.t {n0 : Nat} {eb : Nat → Prop} {A B C : World} (h : KpE n0 eb A B) (k : KpE n0 eb B C) : KpE n0 eb A C := ⟨Nat.le_trans h.1 k.1, fun b hb hx => (k.2 b hb hx).trans (h.2 b hb hx)⟩
def rPost {α : Type} (W : World) (exb : Nat → Prop) (J : List α → List (Nat × BA) → Prop) (Jx : Code → List α → List (Nat × BA) → Prop) (xs : List α) : Exit → Act → World → Prop
 | .normal, _, W' => ∃ L, J xs L ∧ Mem W exb W' L
 | .ret, _, W' => ∃ L, Jx .ret xs L ∧ Mem W exb W' L
 | .exit id, _, W' => ∃ L, Jx (.exit id) xs L ∧ Mem W exb W' L
 | _, _, _ => False
def dfA : BA := .any fun o => o = .deferred (some [])
abbrev dfD (D : Nat) : Deferred := { target := .collected D, args := #[] }
section
variable {P : Program} {df : List Deferred} {a : Act} {w0 w : World} {ex : Nat → Prop} {n : Nat} {E : List (Nat × Value)}
theorem TmD.marks (T : TmD df a n E) (D : Nat) : TmD (dfD D :: df) { a with defers := dfD D :: a.defers } n E := ⟨by simp only [T.defers], T.size, fun p hp => T.get p hp⟩
theorem px_range {α γ : Type} {g : Operand} {ps : Array Tmp} {assign body : Code} {Q : Exit → Act → World → Prop} (T : TmD df a n E)
  {gf : Nat} {lb : Array Value} (hg : a.eval g = .func (.func gf) #[] lb) (eg : ∀ args w, (callFunc gf args).run P w = .ok (.enter gf args) w)
  {encs : α → Array Value} {S Sp : List α → Prop} {N : Nat} (eb : Nat → Prop) (hseq : SeqStopsK Fence.wide 7 P gf lb encs (KpE w.heap.size eb) S Sp N w) (hps : ∀ x, (encs x).size = ps.size)
  (J : List α → List (Nat × BA) → Prop) (Jx : Code → List α → List (Nat × BA) → Prop)
  (EP : α → List (Nat × Value)) (EA : α → γ → List (Nat × Value)) (LB : α → γ → List (Nat × BA))
  (hf : ∀ pre L, J pre L → farOk w.heap.size L) (hfx : ∀ c pre L, Jx c pre L → farOk w.heap.size L)
  (heb : ∀ pre L, J pre L → ∀ p ∈ L, p.1 < w.heap.size → eb p.1)
  {L0 : List (Nat × BA)} (M : Mem w0 ex w L0) (hJ0 : J [] L0)
  (hEP : ∀ x, TmD [] { tmps := (ps.zip (encs x)).foldl (fun t (p, v) => t.setIfInBounds p v) a.tmps, defers := [] } n (EP x))
  (hLB : ∀ x c, ∀ p ∈ LB x c, p.2.isC = true)
  (hap : (∀ x c, LB x c = []) ∨ ∀ pre L, J pre L → ∀ p ∈ L, p.1 < w.heap.size)
  (hass : ∀ (l : Nat) (x : α) (W : World) (K : Act → World → Prop) (a1 : Act), TmD [] a1 n (EP x) → (∀ c a' W', TmD [] a' n (EA x c) → Mem W noEx W' (LB x c) → K a' W') → assign.wpIn (FW l) 6 P (Exit.then K (fun _ _ _ => False)) a1 W)
  (hbody : ∀ (l : Nat) (pre : List α) (x : α) (c : γ) (L : List (Nat × BA)) (a' : Act) (W : World), J pre L → w.heap.size ≤ W.heap.size → (∃ r, W.heap[l]? = some (.loop r)) → w.heap.size ≤ l → pre.length < N →
   Mem w0 ex W (LB x c ++ L) → ∀ (exb : Nat → Prop) (Wc : World), exb = inL (LB x c ++ L) → Wc = W → TmD [] a' n (EA x c) → Mem W exb Wc (LB x c ++ L) → body.wpIn (FW l) 6 P (rPost W exb J Jx (pre ++ [x])) a' Wc)
  (hdone : ∀ (D : Nat) (xs : List α) (L : List (Nat × BA)) (a' : Act) (W : World), S xs → J xs L → w.heap.size ≤ W.heap.size → TmD (dfD D :: df) a' n E → Mem w0 ex W ((D, dfA) :: L) → Q .normal a' W)
  (hstop : ∀ (D : Nat) (c : Code) (pre : List α) (L : List (Nat × BA)) (a' : Act) (W : World), Sp pre → Jx c pre L → w.heap.size ≤ W.heap.size → TmD (dfD D :: df) a' n E → Mem w0 ex W ((D, dfA) :: L) → c.wp P Q a' W) :
  (Code.rangeFunc g ps assign body).wp P Q a w := by
 have hz0 := M.size
 have addD : ∀ {D : Nat} {W : World} {L : List (Nat × BA)}, w.heap.size ≤ D → W.heap[D]? = some (.deferred (some [])) → farOk w.heap.size L → Mem w0 ex W L → Mem w0 ex W ((D, dfA) :: L) := fun {D W L} hD hk hL M => by
  refine M.add (by omega) ⟨_, hk, rfl⟩ (fun q hq e => ?_)
  rcases hL q hq with h | h
  ·omega
  ·have h2 := BA.isC_cells (M.blk q hq).2 h (e ▸ hk)
   simp [Obj.isCells] at h2
 have keeps : ∀ {x : α} {c : γ} {L L'' : List (Nat × BA)} {pre : List α} {W W' : World}, J pre L → (∀ p ∈ LB x c, w.heap.size ≤ p.1) → w.heap.size ≤ W.heap.size → Mem w0 ex W (LB x c ++ L) → Mem W (inL (LB x c ++ L)) W' L'' → KeepsFrom w.heap.size W W' ∧ KpE w.heap.size eb W W' := fun {x c L L'' pre W W'} hj hl hz M0 M => by
  refine ⟨⟨M.size, fun k o hk ho hc => (M.block k (Array.getElem?_eq_some_iff.1 ho).1 (fun hi => ?_)).trans ho⟩, M.size, fun b hb hx => M.block b (by omega) (fun hi => ?_)⟩
  ·obtain ⟨p, hp, rfl⟩ := List.mem_map.1 hi
   have h2 : p.2.isC = true := by
    rcases List.mem_append.1 hp with h | h
    ·exact hLB _ _ p h
    ·rcases hf _ _ hj p h with h | h
     ·omega
     ·exact h
   rw [BA.isC_cells (M0.blk p hp).2 h2 ho] at hc
   cases hc
  ·obtain ⟨p, hp, rfl⟩ := List.mem_map.1 hi
   rcases List.mem_append.1 hp with h | h
   ·have := hl p h
    omega
   ·exact hx (heb _ _ hj p h hb)
 refine (wpIn_wide (n := 8)).1 (wpIn_rangeFunc_ownH (α := α) rfl (by omega) hg trivial eg hseq
  (fun h k => KpE.t h k) (fun W l o o' hl h _ _ => ⟨by simp, fun b hb _ => World.putObj_heap_other (by omega)⟩) (Below.refl _ _) hps
  (fun pre W => ∃ L, J pre L ∧ Mem w0 ex W L ∧ w.heap.size ≤ W.heap.size)
  (fun c pre W => ∃ L, Jx c pre L ∧ Mem w0 ex W L ∧ w.heap.size ≤ W.heap.size)
  (fun s W W' row hs hg hr => by
   obtain ⟨L, hj, M1, hz⟩ := hs
   exact ⟨L, hj, M1.far2 hg hr hz0 (hf _ _ hj), Nat.le_trans hz hg.size⟩)
  (fun c s W W' row hs hg hr => by
   obtain ⟨L, hj, M1, hz⟩ := hs
   exact ⟨L, hj, M1.far2 hg hr hz0 (hfx _ _ _ hj), Nat.le_trans hz hg.size⟩)
  ⟨L0, hJ0, M, Nat.le_refl _⟩
  (fun x a' W => ∃ c, TmD [] a' n (EA x c) ∧ Mem w0 ex W (LB x c) ∧ ∀ p ∈ LB x c, w.heap.size ≤ p.1)
  (fun x a' _ W W' row hs hg hr => by
   obtain ⟨c, T', M1, hl⟩ := hs
   exact ⟨c, T', M1.far2 hg hr hz0 (fun p hp => .inr (hLB _ _ p hp)), hl⟩)
  ?assign ?body ?done ?stop)
 case assign =>
  rintro l pre x W K ⟨L, hj, M1, hz⟩ hK
  refine hass l x W K _ (hEP x) fun c a' W' T' N1 => ?_
  have hb := N1.below
  refine hK a' W' ⟨hb.size, fun k o hk ho hc => (hb.block k (Array.getElem?_eq_some_iff.1 ho).1).trans ho⟩ ⟨hb.size, fun b hb2 _ => hb.block b (by omega)⟩ ⟨L, hj, M1.call hb, Nat.le_trans hz hb.size⟩ ⟨c, T', ?_, fun p hp => ?_⟩
  ·have h2 := M1.join N1
   exact h2.sub (Zsl _ _)
  ·rcases (N1.blk p hp).1 with h | h
   ·omega
   ·exact h.elim
 case body =>
  rintro l pre x a' W hl hrec ⟨L, hj, M1, hz⟩ ⟨c, T', M2, hl2⟩ hlt
  have M3 : Mem w0 ex W (LB x c ++ L) := by
   rcases hap with h | h
   ·rw [h]; exact M1
   ·refine ⟨M1.os, M1.tape, M1.output, M1.size, M1.block, fun p hp => ?_, ?_⟩
    ·rcases List.mem_append.1 hp with h2 | h2
     ·exact M2.blk p h2
     ·exact M1.blk p h2
    ·rw [List.map_append]
     refine List.nodup_append.2 ⟨M2.nd, M1.nd, ?_⟩
     intro i hi j hk e
     obtain ⟨p, hp, rfl⟩ := List.mem_map.1 hi
     obtain ⟨q, hq, rfl⟩ := List.mem_map.1 hk
     have := hl2 p hp
     have := h _ _ hj q hq
     omega
  refine wpIn_mono (hbody l pre x c L a' W hj hz hrec hl hlt M3 _ _ rfl rfl T' M3.rebase) fun e a2 W2 h => ?_
  cases e with
  | normal =>
   obtain ⟨L2, hj2, M4⟩ := h
   obtain ⟨k1, k2⟩ := keeps hj hl2 hz M3 M4
   exact ⟨k1, k2, L2, hj2, M3.back M4, Nat.le_trans hz M4.size⟩
  | ret =>
   obtain ⟨L2, hj2, M4⟩ := h
   obtain ⟨k1, k2⟩ := keeps hj hl2 hz M3 M4
   exact ⟨k1, L2, hj2, M3.back M4, Nat.le_trans hz M4.size⟩
  | exit id =>
   obtain ⟨L2, hj2, M4⟩ := h
   obtain ⟨k1, k2⟩ := keeps hj hl2 hz M3 M4
   exact ⟨k1, L2, hj2, M3.back M4, Nat.le_trans hz M4.size⟩
  | _ => exact h.elim
 case done =>
  rintro D xs W hD hS ⟨L, hj, M1, hz⟩ hK
  exact hdone D xs L _ W hS hj hz (T.marks D) (addD hD hK (hf _ _ hj) M1)
 case stop =>
  rintro D c pre W hD hSp ⟨L, hj, M1, hz⟩ hK
  exact wpIn_wide.2 (hstop D c pre L _ W hSp hj hz (T.marks D) (addD hD hK (hfx _ _ _ hj) M1))
end
theorem rn_makeFunc {P : Program} {op : Oper} {a : Act} {w : World} {f : FuncId} {xs ys : List Operand} {vs us : List Value} (ho : op.op = .makeFunc (.func f) xs.toArray ys.toArray) (hx : EvL a xs vs) (hy : EvL a ys us) : Runs P op a (.func (.func f) vs.toArray us.toArray) w := by
 unfold Runs execOp
 simp only [ho, List.map_toArray, hx.map, hy.map, Instr.makeFunc, Sem.run_bind, Sem.run_pure, Result.andThen_ok]
section
variable {P : Program} {F : Fence} {n : Nat} {b : Frame} {a : Act} {k : List Item} {cs : List Frame} {w : World} {Q : Exit → Act → World → Prop}
theorem rt_ng (h : Q .ret a w) : Exit.noGoto Q .ret a w := h
end
section
variable {α : Type} {W : World} {exb : Nat → Prop} {J : List α → List (Nat × BA) → Prop} {Jx : Code → List α → List (Nat × BA) → Prop} {xs : List α} {a : Act} {w : World} {L : List (Nat × BA)}
end
section
variable {df : List Deferred} {a : Act} {n : Nat} {E : List (Nat × Value)}
theorem TmD.round2 (T : TmD df a n E) {p q : Tmp} (v u : Value) (hf : freshE E p = true) (hn : Nat.blt p n = true) (hf2 : freshE ((p, v) :: E) q = true) (hn2 : Nat.blt q n = true) :
  TmD [] { tmps := ((#[p, q] : Array Tmp).zip (#[v, u] : Array Value)).foldl (fun t (p, v) => t.setIfInBounds p v) a.tmps, defers := [] } n ((q, u) :: (p, v) :: E) := by
 have h := (T.put hn hf v).put hn2 hf2 u
 have e : ((#[p, q] : Array Tmp).zip (#[v, u] : Array Value)).foldl (fun t (p, v) => t.setIfInBounds p v) a.tmps = ((a.put (some p) v).put (some q) u).tmps := by simp [Act.put]
 rw [e]
 exact ⟨rfl, h.size, h.get⟩
end
def bpM (P : Program) (fn : Func) (R : Ending → World → Prop) : Exit → Act → World → Prop
 | .normal, a, w => bodyPostM Fence.wide 8 P fn R .normal a w
 | .ret, a, w => bodyPostM Fence.wide 8 P fn R .ret a w
 | _, _, _ => False
def dfT (Ds : List Nat) : List (Nat × BA) := Ds.map fun D => (D, dfA)
section
variable {P : Program} {a : Act} {w0 w : World} {ex : Nat → Prop} {n : Nat} {E : List (Nat × Value)} {L : List (Nat × BA)}
theorem px_enterM {f : FuncId} {fn : Func} {c : Code} {args : Array Value} {R : Ending → World → Prop} (ex : Nat → Prop) (hf : P.funcs[f]? = some fn) (hb : fn.body = some c) (n : Nat) (hn : fn.ntmps = n) (vs : List Value) (ha : args = vs.toArray) (hle : Nat.ble vs.length n = true)
  {L : List (Nat × BA)} (M : Mem w ex w L)
  (h : ∀ a w', TmD [] a n (numE 0 vs) → Mem w ex w' L → c.wp P (bpM P fn R) a w') : Calls P f args w R := by
 subst ha
 have hle := Nat.le_of_ble_eq_true hle
 refine (callsIn_wide (n := 8)).1 (callsIn_of_wp_marks hf hb trivial (wpIn_wide.2 (wp_mono (h _ _ ⟨rfl, ?_, fun p hp => ?_⟩ M) fun e a w h => by cases e <;> first | exact h | exact h.elim)) rfl)
 ·simp [hn]; omega
 ·obtain ⟨i, h1, h2⟩ := numE_get vs 0 p hp
  have hi : i < vs.length := (List.getElem?_eq_some_iff.1 h2).1
  have e : p.1 = i := by omega
  rw [e]
  have h3 : (vs.toArray ++ Array.replicate (fn.ntmps - vs.toArray.size) undef)[i]? = some p.2 := by
   rw [Array.getElem?_append_left (by simpa using hi)]
   simpa using h2
  show (vs.toArray ++ Array.replicate (fn.ntmps - vs.toArray.size) undef).getD i undef = p.2
  simp only [Array.getD_eq_getD_getElem?, h3, Option.getD_some]
theorem leavesM {fn : Func} {R : Ending → World → Prop} {tmps : Array Value} : ∀ (Ds : List Nat) (w : World), Mem w0 ex w (L ++ dfT Ds) → (∀ w', Mem w0 ex w' L → ∃ v, (results fn tmps).run P w' = .ok v w' ∧ R (.returned v) w') → LeavesInM Fence.wide 8 P fn tmps R (Ds.map dfD) .returning w
 | [], w, M, h => h w (by simpa [dfT] using M)
 | D :: Ds, w, M, h => by
  have hm : (D, dfA) ∈ L ++ dfT (D :: Ds) := List.mem_append_right _ Zz2
  obtain ⟨o, hD, ho⟩ := M.at hm
  subst ho
  refine ⟨by simp, .inl ⟨D, _, rfl, run_takeDeferred hD, leavesM Ds _ ?_ h⟩⟩
  have hu : Upd (L ++ dfT (D :: Ds)) D dfA (.any fun _ => True) (L ++ (D, .any fun _ => True) :: dfT Ds) := by
   clear M h hD hm
   induction L with
   | nil => exact .head
   | cons q L ih => exact .tail ih
  have M2 := M.callW hu (grownBy_putObj' w D (.deferred none)) ⟨.deferred none, by
   have h2 := (Array.getElem?_eq_some_iff.1 hD).1
   simp [World.putObj, h2], trivial⟩
  exact M2.sub (List.Sublist.append (List.Sublist.refl L) (List.sublist_cons_self _ _))
theorem rtM {fn : Func} {R : Ending → World → Prop} (Ds : List Nat) (T : TmD (Ds.map dfD) a n E) (M : Mem w0 ex w (L ++ dfT Ds)) (h : ∀ w' a', Tm a' n E → Mem w0 ex w' L → bodyPost P fn R .ret a' w') : bpM P fn R .ret a w := by
 show LeavesInM Fence.wide 8 P fn a.tmps R a.defers .returning w
 rw [T.defers]
 refine leavesM Ds w M fun w' M' => ?_
 obtain ⟨_, v, h1, h2⟩ := h w' { a with defers := [] } ⟨rfl, T.size, T.get⟩ M'
 exact ⟨v, h1, h2⟩
end
end
section
open Go.RowKit Go.Shelf
section
variable {P : Program} {ops : Array Oper} {Q : Exit → Act → World → Prop} {S : Array Bool → World → Prop} {nn : Nat}
end
section
variable {df : List Deferred} {P : Program} {ops : Array Oper} {rest : List Oper} {op oi : Oper} {a : Act} {Q : Exit → Act → World → Prop} {w0 w : World} {ex : Nat → Prop} {L : List (Nat × BA)} {K : Act → World → Prop} {n t i fuel nn : Nat} {E : List (Nat × Value)} {v : Value} {S : Array Bool → World → Prop} {l l' : Array Bool}
theorem ow_yield {x : Operand} {xs : List Operand} {ts : Array TypeId} {lr : Nat} {vs : List Value} {R : Ending → World → Prop} (T : TmD df a n E) (ho : op.op = .call { callee := .value x, args := xs.toArray, argTypes := ts }) (hd : op.dst = some t) (hf : freshE E t = true) (hn : Nat.blt t n = true)
  (hx : a.eval x = .func (.yield lr) #[] #[]) (hv : EvL a xs vs) (hY : YieldAt Fence.wide 6 P lr vs.toArray w R) (h : ∀ e w', R e w' → ∃ v, e = .returned v ∧ ∀ a', TmD df a' n ((t, v) :: E) → K a' w') : op.wpIn Fence.wide 7 P a w K Q := by
 obtain ⟨fn, tmps, assign, body, hy, hR⟩ := hY
 have hrun : (execOp a.eval op).run P w = .ok (.round lr fn tmps assign body) w := by
  unfold execOp
  simp [ho, resolve, invoke, Deferred.ofValue, hx, hv.map, Sem.run_bind]
  exact hy
 refine ⟨fun _ _ => trivial, ?_⟩
 rw [show Fence.wide.round = none from rfl, Oper.semAt_none, hrun]
 refine ⟨fun h9 => by simp [Fence.wide] at h9, hR.mono fun e w' hr => ?_⟩
 obtain ⟨v, rfl, h2⟩ := h e w' hr
 exact (hd ▸ h2 _ (T.put hn hf v) : K (a.put op.dst v) w')
def MT : Array Bool → World → Prop := fun _ _ => True
theorem si_T : ∀ (B : Array Bool) W, MT (B.setIfInBounds i true) W ↔ MT B W := fun _ _ => Iff.rfl
theorem fr_lit {id : Nat} {os : List Oper} (h : wpListIn Fence.wide 7 P os.toArray Q os a w) : (Code.region id os.toArray false).wp P Q a w := (wpIn_wide (n := 7)).1 (wpIn_region_lit h)
theorem fl_q (T : TmD df a n E) (hw : Region.wanted op (yielded ops a.tmps) = true) (hd : op.dst = some t) (hf : freshE E t = true) (hn : Nat.blt t n = true) (hr : Runs P op a v w)
  (h : ∀ a', TmD df a' n ((t, v) :: E) → wpListIn Fence.wide nn P ops Q rest a' w) : wpListIn Fence.wide nn P ops Q (op :: rest) a w :=
 wpListIn_step fun K hK => by
  rw [if_pos hw]
  refine ⟨fun _ _ => trivial, ?_⟩
  unfold Runs at hr
  rw [show Fence.wide.round = none from rfl, Oper.semAt_none, hr, Oper.uponIn_value, hd]
  exact hK _ _ (h _ (T.put hn hf v))
theorem fl_y (hw : Region.wanted op (yielded ops a.tmps) = true) (h : ∀ K : Act → World → Prop, Shut (∀ a w, wpListIn Fence.wide nn P ops Q rest a w → K a w) → op.wpIn Fence.wide nn P a w K Q) : wpListIn Fence.wide nn P ops Q (op :: rest) a w :=
 wpListIn_step fun K hK => by rw [if_pos hw]; exact h K hK
theorem fl_pass (T : TmD df a n E) (hw : Region.wanted op (yielded ops a.tmps) = false) (hd : op.dst = some t) (hf : freshE E t = true) (hn : Nat.blt t n = true) (h : ∀ a', TmD df a' n ((t, undef) :: E) → wpListIn Fence.wide nn P ops Q rest a' w) : wpListIn Fence.wide nn P ops Q (op :: rest) a w :=
 wpListIn_step fun K hK => by
  rw [if_neg (by rw [hw]; simp), hd]
  exact ⟨fun _ _ => trivial, hK _ _ (h _ (T.put hn hf _))⟩
theorem fl_nil (h : Q .normal a w) : wpListIn Fence.wide nn P ops Q [] a w := h
end
end
section
open Go.RowKit Go.Shelf
theorem cell_isC {W : World} {a : Addr} {v : Value} (h : W.cell? a = some v) : ∃ o : Obj, W.heap[a.block]? = some o ∧ o.isCells = true := by
 unfold World.cell? at h
 cases ho : W.heap[a.block]? with
 | none => simp [ho] at h
 | some o => exact ⟨o, rfl, by cases o <;> simp_all [Obj.isCells]⟩
section
variable {P : Program} {df : List Deferred} {a : Act} {w0 w : World} {ex : Nat → Prop} {n : Nat} {E : List (Nat × Value)}
end
end
section
open Go.RowKit Go.Shelf
def KpB (l : Nat) (eb : Nat → Prop) (W W' : World) : Prop := Mem W (fun b => b = l ∨ eb b) W' []
theorem KpB.mem {l : Nat} {eb ex : Nat → Prop} {w0 W W' : World} {L : List (Nat × BA)} (h : KpB l eb W W') (M : Mem w0 ex W L) (hl : ∀ p ∈ L, p.1 ≠ l ∧ ¬ eb p.1) (hx : ∀ b, b = l ∨ eb b → ex b ∨ w0.heap.size ≤ b) : Mem w0 ex W' L :=
 ⟨h.os.trans M.os, h.tape.trans M.tape, h.output.trans M.output, Nat.le_trans M.size h.size,
  fun b hb he => (h.block b (Nat.lt_of_lt_of_le hb M.size) (fun hh => by rcases hx b hh with h | h; exact he h; omega)).trans (M.block b hb he),
  fun p hp => ⟨(M.blk p hp).1, BA.same (M.blk p hp).2 h.size (h.block _ (BA.lt (M.blk p hp).2) (fun hh => by obtain ⟨h1, h2⟩ := hl p hp; rcases hh with h | h; exact h1 h; exact h2 h))⟩, M.nd⟩
def KpN (B : Nat) (W W' : World) : Prop := W'.os = W.os ∧ W'.tape = W.tape ∧ W'.output = W.output ∧ W.heap.size ≤ W'.heap.size ∧ ∀ b o, W.heap[b]? = some o → (b < B ∨ o.isCells = true) → W'.heap[b]? = some o
theorem KpN.of_below {B : Nat} {W W' : World} (h : Below W.heap.size W W') : KpN B W W' := ⟨h.os, h.tape, h.output, h.size, fun b o ho _ => (h.block b (Array.getElem?_eq_some_iff.1 ho).1).trans ho⟩
theorem KpN.put {B l : Nat} {W : World} {o : Obj} (hl : B ≤ l) (h : W.heap[l]? = some o) (hc : o.isCells = false) (o' : Obj) : KpN B W (W.putObj l o') :=
 ⟨rfl, rfl, rfl, by simp, fun b o1 ho1 hc1 => (World.putObj_heap_other (fun e => by
  subst e
  rw [h] at ho1
  injection ho1 with ho1
  subst ho1
  rcases hc1 with h1 | h1
  ·omega
  ·rw [hc] at h1; cases h1)).trans ho1⟩
theorem KpN.t {B : Nat} {X Y Z : World} (h : KpN B X Y) (k : KpN B Y Z) : KpN B X Z :=
 ⟨k.1.trans h.1, k.2.1.trans h.2.1, k.2.2.1.trans h.2.2.1, Nat.le_trans h.2.2.2.1 k.2.2.2.1, fun b o ho hc => k.2.2.2.2 b o (h.2.2.2.2 b o ho hc) hc⟩
theorem KpN.mono {B B' : Nat} {W W' : World} (h : KpN B W W') (hB : B' ≤ B) : KpN B' W W' :=
 ⟨h.1, h.2.1, h.2.2.1, h.2.2.2.1, fun b o ho hc => h.2.2.2.2 b o ho (hc.imp (fun h => Nat.lt_of_lt_of_le h hB) id)⟩
theorem KpN.cell {B : Nat} {W W' : World} (h : KpN B W W') {a : Addr} {v : Value} (hc : W.cell? a = some v) : W'.cell? a = some v := by
 obtain ⟨ob, h1, h2⟩ := cell_isC hc
 rw [World.cell?_of_block (w := W) (a := a) ((h.2.2.2.2 a.block ob h1 (.inr h2)).trans h1.symm)]
 exact hc
theorem KpN.bk {B : Nat} {W W' : World} (h : KpN B W W') {g : Nat} {c : Value} {cs : List Value} (hB : Bk W g (c :: cs).toArray) : Bk W' g (c :: cs).toArray := by
 have hc := hB.cell 0
 obtain ⟨ob, h1, h2⟩ := cell_isC (a := ⟨g, 0, none⟩) (v := c) (by simpa using hc)
 have e := (h.2.2.2.2 g ob h1 (.inr h2)).trans h1.symm
 exact ⟨Nat.lt_of_lt_of_le hB.lt h.2.2.2.1, fun o => (World.cell?_of_block (w := W) (a := ⟨g, o, none⟩) e).trans (hB.cell o), fun o => (World.frozen?_of_block (w := W) (a := ⟨g, o, none⟩) e).trans (hB.frozen o)⟩
theorem KpN.rd {B n size k : Nat} {W W' : World} {A : Option Addr} {xs : List Value} (h : KpN B W W') (hr : Rd W n size A k xs) : Rd W' n size A k xs :=
 ⟨hr.1, fun hn => by
  obtain ⟨b, o, h1, h2, h3⟩ := hr.2 hn
  exact ⟨b, o, h1, h2, fun j u hu => h.cell (h3 j u hu)⟩⟩
theorem KpN.rdS {B size k : Nat} {W W' : World} {A : Option Addr} {xs : List Value} (h : KpN B W W') (hr : Rd W W.heap.size size A k xs) : Rd W' W'.heap.size size A k xs := (h.rd hr).more h.2.2.2.1
theorem Mem.kpN {B : Nat} {w0 W W' : World} {ex : Nat → Prop} {L : List (Nat × BA)} (M : Mem w0 ex W L) (h : KpN B W W') (hw : w0.heap.size ≤ B) (hL : farOk B L) : Mem w0 ex W' L := by
 have same : ∀ b o, W.heap[b]? = some o → (b < B ∨ o.isCells = true) → W'.heap[b]? = W.heap[b]? := fun b o ho hc => (h.2.2.2.2 b o ho hc).trans ho.symm
 refine ⟨h.1.trans M.os, h.2.1.trans M.tape, h.2.2.1.trans M.output, Nat.le_trans M.size h.2.2.2.1, fun b hb he => ?_, fun p hp => ⟨(M.blk p hp).1, ?_⟩, M.nd⟩
 ·have hlt : b < W.heap.size := Nat.lt_of_lt_of_le hb M.size
  exact (same b _ (Array.getElem?_eq_getElem hlt) (.inl (by omega))).trans (M.block b hb he)
 ·have hp2 := (M.blk p hp).2
  have hlt := BA.lt hp2
  have ho : W.heap[p.1]? = some W.heap[p.1] := Array.getElem?_eq_getElem hlt
  exact BA.same hp2 h.2.2.2.1 (same _ _ ho ((hL p hp).imp id fun hc => BA.isC_cells hp2 hc ho))
def Calm {β : Type} (B : Nat) (J : β → World → Prop) : Prop := ∀ s W W', J s W → KpN B W W' → J s W'
def SeqB {α : Type} (P : Program) (gf : Nat) (lb : Array Value) (encs : α → Array Value) (eb : Nat → Prop) (Ox : α → World → Prop) (S Sp : List α → Prop) (w : World) : Prop :=
 ∀ (l : Nat) (J Jx : List α → World → Prop) (W : World), Below w.heap.size w W → w.heap.size ≤ l → l < W.heap.size → Calm W.heap.size J → Calm W.heap.size Jx →
  (∀ pre x W1, J pre W1 → Ox x W1 → YieldAt Fence.wide 6 P l (encs x) W1 fun e W' =>
   (e = .returned (.bool true) ∧ J (pre ++ [x]) W' ∧ KpB l eb W1 W') ∨ (e = .returned (.bool false) ∧ Jx (pre ++ [x]) W' ∧ KpB l eb W1 W')) →
  J [] W →
  Calls P gf (#[.func (.yield l) #[] #[]] ++ lb) W fun e W' => (∃ v, e = .returned v) ∧ ((∃ xs, S xs ∧ J xs W') ∨ (∃ pre, Sp pre ∧ Jx pre W'))
def rPostB {α : Type} (W : World) (exb : Nat → Prop) (J : List α → List (Nat × BA) → World → Prop) (Jx : Code → List α → List (Nat × BA) → World → Prop) (xs : List α) : Exit → Act → World → Prop
 | .normal, _, W' => ∃ L, J xs L W' ∧ Mem W exb W' L
 | .ret, _, W' => ∃ L, Jx .ret xs L W' ∧ Mem W exb W' L
 | .exit id, _, W' => ∃ L, Jx (.exit id) xs L W' ∧ Mem W exb W' L
 | _, _, _ => False
section
variable {α : Type} {W : World} {exb : Nat → Prop} {J : List α → List (Nat × BA) → World → Prop} {Jx : Code → List α → List (Nat × BA) → World → Prop} {xs : List α} {a : Act} {w : World} {L : List (Nat × BA)}
theorem rb_nm (h : J xs L w) (M : Mem W exb w L) : rPostB W exb J Jx xs .normal a w := ⟨L, h, M⟩
theorem rb_ret (h : Jx .ret xs L w) (M : Mem W exb w L) : rPostB W exb J Jx xs .ret a w := ⟨L, h, M⟩
theorem rb_exit {id : Nat} (h : Jx (.exit id) xs L w) (M : Mem W exb w L) : rPostB W exb J Jx xs (.exit id) a w := ⟨L, h, M⟩
end
theorem Mem.backE {w0 w : World} {ex eb : Nat → Prop} {L L' : List (Nat × BA)} {w' : World} (M : Mem w0 ex w L) (M' : Mem w eb w' L') (he : ∀ b, eb b → ex b ∨ w0.heap.size ≤ b) : Mem w0 ex w' L' :=
 ⟨M'.os.trans M.os, M'.tape.trans M.tape, M'.output.trans M.output, Nat.le_trans M.size M'.size,
  fun b hb hx => (M'.block b (Nat.lt_of_lt_of_le hb M.size) (fun h => by rcases he b h with h | h; exact hx h; omega)).trans (M.block b hb hx),
  fun p hp => ⟨by
   rcases (M'.blk p hp).1 with h | h
   ·exact .inl (Nat.le_trans M.size h)
   ·exact (he _ h).symm, (M'.blk p hp).2⟩, M'.nd⟩
section
variable {P : Program} {df : List Deferred} {a : Act} {w0 w : World} {ex : Nat → Prop} {n : Nat} {E : List (Nat × Value)}
theorem px_rangeB {α γ : Type} {g : Operand} {ps : Array Tmp} {assign body : Code} {Q : Exit → Act → World → Prop} (T : TmD df a n E)
  {gf : Nat} {lb : Array Value} (hg : a.eval g = .func (.func gf) #[] lb) (eg : ∀ args w, (callFunc gf args).run P w = .ok (.enter gf args) w)
  {encs : α → Array Value} {Ox : α → World → Prop} {S Sp : List α → Prop} (eb : Nat → Prop) (hseq : SeqB P gf lb encs eb Ox S Sp w) (hps : ∀ x, (encs x).size = ps.size)
  (J : List α → List (Nat × BA) → World → Prop) (Jx : Code → List α → List (Nat × BA) → World → Prop)
  (EP : α → List (Nat × Value)) (EA : α → γ → List (Nat × Value)) (LB : α → γ → List (Nat × BA))
  (hf : ∀ pre L W, J pre L W → ∀ p ∈ L, p.1 < w.heap.size) (hfx : ∀ c pre L W, Jx c pre L W → ∀ p ∈ L, p.1 < w.heap.size)
  (heb : ∀ pre L W, J pre L W → ∀ p ∈ L, eb p.1)
  (hebl : ∀ b, eb b → b < w.heap.size) (hebx : ∀ b, eb b → ex b ∨ w0.heap.size ≤ b) (hOx : Calm w.heap.size Ox)
  (hJ : ∀ pre L W W', J pre L W → KpN w.heap.size W W' → J pre L W') (hJx : ∀ c pre L W W', Jx c pre L W → KpN w.heap.size W W' → Jx c pre L W')
  {L0 : List (Nat × BA)} (M : Mem w0 ex w L0) (hJ0 : J [] L0 w)
  (hEP : ∀ x, TmD [] { tmps := (ps.zip (encs x)).foldl (fun t (p, v) => t.setIfInBounds p v) a.tmps, defers := [] } n (EP x))
  (hLB : ∀ x c, ∀ p ∈ LB x c, p.2.isC = true)
  (hass : ∀ (l : Nat) (x : α) (W : World) (K : Act → World → Prop) (a1 : Act), TmD [] a1 n (EP x) → (∀ c a' W', TmD [] a' n (EA x c) → Mem W noEx W' (LB x c) → K a' W') → assign.wpIn (FW l) 6 P (Exit.then K (fun _ _ _ => False)) a1 W)
  (hbody : ∀ (l : Nat) (pre : List α) (x : α) (c : γ) (L : List (Nat × BA)) (a' : Act) (W : World), J pre L W → Ox x W → w.heap.size ≤ W.heap.size → w.heap.size ≤ l →
   Mem w0 ex W (LB x c ++ L) → (∀ p ∈ LB x c, ¬ eb p.1) → ∀ (exb : Nat → Prop) (Wc : World), exb = eb → Wc = W → TmD [] a' n (EA x c) → Mem W exb Wc L → body.wpIn (FW l) 6 P (rPostB W exb J Jx (pre ++ [x])) a' Wc)
  (hdone : ∀ (D : Nat) (xs : List α) (L : List (Nat × BA)) (a' : Act) (W : World), w.heap.size ≤ D → S xs → J xs L W → w.heap.size ≤ W.heap.size → TmD (dfD D :: df) a' n E → Mem w0 ex W ((D, dfA) :: L) → Q .normal a' W)
  (hstop : ∀ (D : Nat) (c : Code) (pre : List α) (L : List (Nat × BA)) (a' : Act) (W : World), w.heap.size ≤ D → Sp pre → Jx c pre L W → w.heap.size ≤ W.heap.size → TmD (dfD D :: df) a' n E → Mem w0 ex W ((D, dfA) :: L) → c.wp P Q a' W) :
  (Code.rangeFunc g ps assign body).wp P Q a w := by
 have hz0 := M.size
 refine (wpIn_wide (n := 8)).1 (wpIn_rangeFunc ?_)
 intro fn hfn
 obtain ⟨rc, hrc⟩ : ∃ rc : LoopState → Option Code → Loop, rc = fun st pe => { state := st, pending := pe, fn, tmps := a.tmps, params := ps, assign, body, defers := w.heap.size } := ⟨_, rfl⟩
 obtain ⟨W1, hW1⟩ : ∃ W1, (w.alloc (.deferred (some []))).alloc (.loop (rc .ready none)) = W1 := ⟨_, rfl⟩
 have hb1 : Below w.heap.size w W1 := by
  rw [← hW1]
  exact (((Below.refl _ w).alloc (Nat.le_refl _) _).alloc (by simp) _)
 have hs1 : W1.heap.size = w.heap.size + 2 := by rw [← hW1]; simp
 have hL1 : W1.heap[w.heap.size + 1]? = some (.loop (rc .ready none)) := by
  rw [← hW1]
  have := World.alloc_heap_new (w.alloc (.deferred (some []))) (.loop (rc .ready none))
  rwa [World.size_alloc] at this
 have hK1 : W1.heap[w.heap.size]? = some (.deferred (some [])) := by
  rw [← hW1]
  exact (Below.heap_alloc _ _ _ (by simp)).trans (World.alloc_heap_new w _)
 have put : ∀ {W : World} {o : Obj} (o' : Obj), W.heap[w.heap.size + 1]? = some o → o.isCells = false → KpN w.heap.size W (W.putObj (w.heap.size + 1) o') := fun o' h hc => KpN.put (by omega) h hc o'
 have otherD : ∀ {W : World} (o' : Obj), (W.putObj (w.heap.size + 1) o').heap[w.heap.size]? = W.heap[w.heap.size]? := fun o' => World.putObj_heap_other (by omega)
 refine ⟨w.heap.size + 1, [{ target := .collected w.heap.size, args := #[] }], W1, { target := .fn (.func gf) lb, args := #[.func (.yield (w.heap.size + 1)) #[] #[]] }, W1, gf,
  #[.func (.yield (w.heap.size + 1)) #[] #[]] ++ lb, W1, ?_, ?_, ?_, ?_, fun _ => by omega, ?_⟩
 ·rw [← hW1, hrc]; exact run_enterLoop_outer _ _ _ _ _
 ·simp only [resolve, hg]
  simp [go_sem]
 ·intro f' hf'; simp [Target.leads] at hf'; subst hf'; trivial
 ·simp [invoke, go_sem, eg]
 ·refine callsIn_wide.2 (Calls.mono (hseq (w.heap.size + 1)
   (fun pre W => ∃ L, J pre L W ∧ Mem w0 ex W L ∧ w.heap.size ≤ W.heap.size ∧ W.heap[w.heap.size + 1]? = some (.loop (rc .ready none)) ∧ W.heap[w.heap.size]? = some (.deferred (some [])))
   (fun pre W => ∃ c L, Jx c pre L W ∧ Mem w0 ex W L ∧ w.heap.size ≤ W.heap.size ∧ W.heap[w.heap.size + 1]? = some (.loop (rc .done (some c))) ∧ W.heap[w.heap.size]? = some (.deferred (some [])))
   W1 hb1 (by omega) (by omega) ?_ ?_ ?_ ⟨L0, hJ _ _ _ _ hJ0 (.of_below hb1), M.call hb1, hb1.size, hL1, hK1⟩) ?_)
  ·rintro pre W W' ⟨L, hj, M1, hz, hl, hk⟩ hK
   have hK2 := hK.mono (B' := w.heap.size) (by omega)
   exact ⟨L, hJ _ _ _ _ hj hK2, M1.kpN hK2 hz0 (fun p hp => .inl (hf _ _ _ hj p hp)), Nat.le_trans hz hK.2.2.2.1, hK.2.2.2.2 _ _ hl (.inl (by omega)), hK.2.2.2.2 _ _ hk (.inl (by omega))⟩
  ·rintro pre W W' ⟨c, L, hj, M1, hz, hl, hk⟩ hK
   have hK2 := hK.mono (B' := w.heap.size) (by omega)
   exact ⟨c, L, hJx _ _ _ _ _ hj hK2, M1.kpN hK2 hz0 (fun p hp => .inl (hfx _ _ _ _ hj p hp)), Nat.le_trans hz hK.2.2.2.1, hK.2.2.2.2 _ _ hl (.inl (by omega)), hK.2.2.2.2 _ _ hk (.inl (by omega))⟩
  ·-- one round
   rintro pre x W ⟨L, hj, M1, hz, hl, hk⟩ hox
   have hy := run_yield (P := P) (args := encs x) hl (by rw [hrc]; exact hps x)
   rw [hrc] at hy
   refine ⟨fn, _, assign, body, hy, roundIn_of_wpIn hfn (hass _ x W _ _ (hEP x) ?_)⟩
   clear hy
   intro c a' Wa T' N1
   have hba := N1.below
   have hla : Wa.heap[w.heap.size + 1]? = some (.loop (rc .ready none)) := (hba.block _ (Array.getElem?_eq_some_iff.1 hl).1).trans hl
   have hka : Wa.heap[w.heap.size]? = some (.deferred (some [])) := (hba.block _ (Array.getElem?_eq_some_iff.1 hk).1).trans hk
   have hlta := (Array.getElem?_eq_some_iff.1 hla).1
   obtain ⟨bz, hbz⟩ : ∃ bz : Obj, bz = .loop { rc .ready none with state := .busy } := ⟨_, rfl⟩
   have hbzc : bz.isCells = false := by rw [hbz]; rfl
   obtain ⟨Wb, hWb⟩ : ∃ Wb, Wb = Wa.putObj (w.heap.size + 1) bz := ⟨_, rfl⟩
   have hsb : Wb.heap.size = Wa.heap.size := by rw [hWb]; simp
   have hkp : KpN w.heap.size W Wb := by rw [hWb]; exact (KpN.of_below hba).t (put _ hla rfl)
   have hlb : Wb.heap[w.heap.size + 1]? = some bz := by rw [hWb]; exact World.putObj_heap_same hlta
   have hkb : Wb.heap[w.heap.size]? = some (.deferred (some [])) := by rw [hWb]; exact (otherD _).trans hka
   refine ⟨Wb, by rw [hWb, hbz]; exact run_beginRound hla (by rw [hrc]), ?_⟩
   have hjb := hJ _ _ _ _ hj hkp
   have hoxb := hOx _ _ _ hox hkp
   have hfr : ∀ p ∈ LB x c, W.heap.size ≤ p.1 := fun p hp => by
    rcases (N1.blk p hp).1 with h | h
    ·exact h
    ·exact h.elim
   have M3 : Mem w0 ex Wb (LB x c ++ L) := by
    rw [hWb]
    refine (M1.join N1).kpN (put _ hla rfl) hz0 fun p hp => ?_
    rcases List.mem_append.1 hp with h | h
    ·exact .inr (hLB _ _ p h)
    ·exact .inl (hf _ _ _ hj p h)
   have M3L : Mem w0 ex Wb L := M3.sub (Zsq _ _)
   have hnl : ∀ p ∈ LB x c, ¬ eb p.1 := fun p hp he => by
    have := hfr p hp
    have := hebl _ he
    omega
   have M5 : Mem Wb eb Wb L := ⟨rfl, rfl, rfl, Nat.le_refl _, fun _ _ _ => rfl, fun p hp => ⟨.inr (heb _ _ _ hj p hp), (M3L.blk p hp).2⟩, M3L.nd⟩
   have hne : ¬ eb (w.heap.size + 1) := fun he => by have := hebl _ he; omega
   have hnd : ¬ eb w.heap.size := fun he => by have := hebl _ he; omega
   have hzb : w.heap.size ≤ Wb.heap.size := by rw [hsb]; exact Nat.le_trans hz hba.size
   -- what holds behind the round
   have fin : ∀ (jump : Option Code) (L2 : List (Nat × BA)) (W3 : World), Mem Wb eb W3 L2 →
     (Instr.endRound (w.heap.size + 1) jump).run P W3 = .ok (.bool jump.isNone) (W3.putObj (w.heap.size + 1) (.loop (rc (if jump.isNone then .ready else .done) jump))) ∧
     W3.heap[w.heap.size + 1]? = some bz ∧ KpB (w.heap.size + 1) eb W (W3.putObj (w.heap.size + 1) (.loop (rc (if jump.isNone then .ready else .done) jump))) ∧
     w.heap.size ≤ (W3.putObj (w.heap.size + 1) (.loop (rc (if jump.isNone then .ready else .done) jump))).heap.size ∧
     (W3.putObj (w.heap.size + 1) (.loop (rc (if jump.isNone then .ready else .done) jump))).heap[w.heap.size + 1]? = some (.loop (rc (if jump.isNone then .ready else .done) jump)) ∧
     (W3.putObj (w.heap.size + 1) (.loop (rc (if jump.isNone then .ready else .done) jump))).heap[w.heap.size]? = some (.deferred (some [])) := fun jump L2 W3 M4 => by
    have hl3 := (M4.block _ (Array.getElem?_eq_some_iff.1 hlb).1 hne).trans hlb
    have hk3 := (M4.block _ (Array.getElem?_eq_some_iff.1 hkb).1 hnd).trans hkb
    have hr := run_endRound (P := P) jump (by rw [hbz] at hl3; exact hl3)
    rw [hrc] at hr ⊢
    refine ⟨hr, hl3, ⟨?_, ?_, ?_, ?_, fun b hb he => ?_, fun p hp => (by cases hp), by simp⟩, ?_, World.putObj_heap_same (Array.getElem?_eq_some_iff.1 hl3).1, (otherD _).trans hk3⟩
    ·exact M4.os.trans (by rw [hWb]; exact hba.os)
    ·exact M4.tape.trans (by rw [hWb]; exact hba.tape)
    ·exact M4.output.trans (by rw [hWb]; exact hba.output)
    ·have h1 := M4.size
     have h2 := hba.size
     simp only [World.putObj_size]
     omega
    ·have h1 := hba.size
     have hbl : b ≠ w.heap.size + 1 := fun e => he (.inl e)
     rw [World.putObj_heap_other hbl, M4.block b (by omega) (fun h => he (.inr h)), hWb, World.putObj_heap_other hbl]
     exact hba.block b hb
    ·have h1 := M4.size
     simp only [World.putObj_size]
     omega
   refine wpIn_mono (hbody _ pre x c L a' Wb hjb hoxb hzb (by omega) M3 hnl eb Wb rfl rfl T' M5) ?_
   rintro e a3 W3 hp
   cases e with
   | normal =>
    obtain ⟨L2, hj3, M4⟩ := hp
    obtain ⟨hr, hl3, hkb3, hz3, hl4, hk4⟩ := fin none L2 W3 M4
    exact ⟨_, _, hr, .inl ⟨rfl, ⟨L2, hJ _ _ _ _ hj3 (put _ hl3 hbzc), (M3L.backE M4 hebx).kpN (put _ hl3 hbzc) hz0 (fun p hp => .inl (hf _ _ _ hj3 p hp)), hz3, hl4, hk4⟩, hkb3⟩⟩
   | ret =>
    obtain ⟨L2, hj3, M4⟩ := hp
    obtain ⟨hr, hl3, hkb3, hz3, hl4, hk4⟩ := fin (some .ret) L2 W3 M4
    exact ⟨_, _, hr, .inr ⟨rfl, ⟨.ret, L2, hJx _ _ _ _ _ hj3 (put _ hl3 hbzc), (M3L.backE M4 hebx).kpN (put _ hl3 hbzc) hz0 (fun p hp => .inl (hfx _ _ _ _ hj3 p hp)), hz3, hl4, hk4⟩, hkb3⟩⟩
   | exit id =>
    obtain ⟨L2, hj3, M4⟩ := hp
    obtain ⟨hr, hl3, hkb3, hz3, hl4, hk4⟩ := fin (some (.exit id)) L2 W3 M4
    exact ⟨_, _, hr, .inr ⟨rfl, ⟨.exit id, L2, hJx _ _ _ _ _ hj3 (put _ hl3 hbzc), (M3L.backE M4 hebx).kpN (put _ hl3 hbzc) hz0 (fun p hp => .inl (hfx _ _ _ _ hj3 p hp)), hz3, hl4, hk4⟩, hkb3⟩⟩
   | _ => exact hp.elim
  ·-- behind the iterator
   have addD : ∀ {W : World} {L : List (Nat × BA)}, W.heap[w.heap.size]? = some (.deferred (some [])) → (∀ p ∈ L, p.1 < w.heap.size) → Mem w0 ex W L → Mem w0 ex W ((w.heap.size, dfA) :: L) := fun {W L} hk hL M =>
    M.add hz0 ⟨_, hk, rfl⟩ (fun q hq e => by have := hL q hq; omega)
   rintro e W2 ⟨⟨v, rfl⟩, (⟨xs, hS, L, hj, M1, hz, hl, hk⟩ | ⟨pre, hSp, c, L, hj, M1, hz, hl, hk⟩)⟩
   ·have hend := run_endLoop (P := P) hl (by rw [hrc]; simp)
    rw [hrc] at hend
    refine ⟨none, _, hend, ?_⟩
    have hkp := put (W := W2) (.loop { rc .ready none with state := .done }) hl rfl
    refine hdone w.heap.size xs L _ _ (Nat.le_refl _) hS (hJ _ _ _ _ hj (put _ hl rfl)) (by simpa using hz) (T.marks w.heap.size) (addD ((otherD _).trans hk) (hf _ _ _ hj) (M1.kpN (put _ hl rfl) hz0 (fun p hp => .inl (hf _ _ _ hj p hp))))
   ·have hend := run_endLoop (P := P) hl (by rw [hrc]; simp)
    rw [hrc] at hend
    refine ⟨some c, _, hend, wpIn_wide.2 ?_⟩
    refine hstop w.heap.size c pre L _ _ (Nat.le_refl _) hSp (hJx _ _ _ _ _ hj (put _ hl rfl)) (by simpa using hz) (T.marks w.heap.size) (addD ((otherD _).trans hk) (hfx _ _ _ _ hj) (M1.kpN (put _ hl rfl) hz0 (fun p hp => .inl (hfx _ _ _ _ hj p hp))))
end
end
section
open Go.RowKit Go.Shelf
section
variable {P : Program} {ops : Array Oper} {op : Oper} {a : Act} {Q : Exit → Act → World → Prop} {K : Act → World → Prop} {w0 w : World} {ex : Nat → Prop} {L : List (Nat × BA)} {l : Nat}
theorem opFW (hd : ∀ c, op.op ≠ .defer c) (h : op.wpIn Fence.wide 7 P a w K Q) : op.wpIn (FW l) 6 P a w K Q := by
 obtain ⟨-, h⟩ := h
 refine ⟨fun _ _ => trivial, ?_⟩
 rw [Oper.semAt_eq _ _ _ hd] at h ⊢
 cases hr : (execOp a.eval op).run P w with
 | ok nx w' =>
  rw [hr] at h
  cases nx with
  | value v => exact h
  | skip => exact h
  | defer d => exact h
  | enter f args => exact ⟨fun h9 => by simp [Fence.wide] at h9, CallsIn.inRound l (callsIn_wide.2 (callsIn_wide.1 h.2))⟩
  | row r args => exact ⟨fun h9 => by simp [Fence.wide] at h9, fun c cs _ => h.2 c cs (room_wide _)⟩
  | round l2 f tmps assign body => exact ⟨fun h9 => by simp [Fence.wide] at h9, trivial, fun c cs _ => h.2.2 c cs (room_wide _)⟩
  | _ => exact h.elim
 | halt hh w' =>
  rw [hr] at h
  cases hh with
  | panic v => exact h
  | _ => exact h.elim
theorem wpListFW : ∀ (rest : List Oper), noDefer rest = true → ∀ (a : Act) (w : World), wpListIn Fence.wide 7 P ops Q rest a w → wpListIn (FW l) 6 P ops Q rest a w
 | [], _, _, _, h => h
 | o :: rest, hd, a, w, h => by
  have hd2 : noDefer rest = true := by
   unfold noDefer at hd ⊢
   rw [List.all_cons, Bool.and_eq_true] at hd
   exact hd.2
  unfold wpListIn at h ⊢
  split
  ·rename_i hw
   rw [if_pos hw] at h
   exact opFW (noDefer_at hd Zz2) (Oper.wpIn_mono (fun a w h => wpListFW rest hd2 a w h) h)
  ·rename_i hw
   rw [if_neg hw] at h
   exact ⟨fun _ _ => trivial, wpListFW rest hd2 _ _ h.2⟩
theorem fri_lit {id : Nat} {os : List Oper} (hD : noDefer os = true) (h : wpListIn Fence.wide 7 P os.toArray Q os a w) : (Code.region id os.toArray false).wpIn (FW l) 6 P Q a w := wpIn_region_lit (wpListFW _ hD _ _ h)
end
def DsOk (B n : Nat) (Ds : List Nat) (w : World) : Prop := Ds.Nodup ∧ ∀ D ∈ Ds, B ≤ D ∧ D < n ∧ w.heap[D]? = some (.deferred (some []))
theorem DsOk.nil (B n : Nat) (w : World) : DsOk B n [] w := ⟨List.nodup_nil, fun D h => by cases h⟩
theorem DsOk.below {B n n' : Nat} {Ds : List Nat} {w w' : World} (h : DsOk B n Ds w) (hb : Below w.heap.size w w') (hn : n ≤ n') : DsOk B n' Ds w' :=
 ⟨h.1, fun D hD => let ⟨h1, h2, h3⟩ := h.2 D hD; ⟨h1, Nat.lt_of_lt_of_le h2 hn, (hb.block D (Array.getElem?_eq_some_iff.1 h3).1).trans h3⟩⟩
theorem DsOk.kpN {B n m : Nat} {Ds : List Nat} {w w' : World} (h : DsOk B n Ds w) (hk : KpN m w w') (hn : n ≤ m) : DsOk B n Ds w' :=
 ⟨h.1, fun D hD => let ⟨h1, h2, h3⟩ := h.2 D hD; ⟨h1, h2, hk.2.2.2.2 D _ h3 (.inl (by omega))⟩⟩
theorem DsOk.mem {B n : Nat} {Ds : List Nat} {w w' : World} {ex : Nat → Prop} {L : List (Nat × BA)} (h : DsOk B n Ds w) (M : Mem w ex w' L) (hx : ∀ b, ex b → b < B) : DsOk B n Ds w' :=
 ⟨h.1, fun D hD => let ⟨h1, h2, h3⟩ := h.2 D hD; ⟨h1, h2, (M.block D (Array.getElem?_eq_some_iff.1 h3).1 (fun he => by have := hx D he; omega)).trans h3⟩⟩
theorem DsOk.cons {B n m D : Nat} {Ds : List Nat} {w' w0 : World} {ex : Nat → Prop} {L : List (Nat × BA)} (h : DsOk B n Ds w') (M : Mem w0 ex w' L) (hm : (D, dfA) ∈ L) (hD : n ≤ D) (hB : B ≤ D) (hm2 : w'.heap.size ≤ m) (hn : n ≤ m) : DsOk B m (D :: Ds) w' := by
 obtain ⟨o, ho, h2⟩ := M.at hm
 subst h2
 refine ⟨List.nodup_cons.2 ⟨fun hd => by have := (h.2 D hd).2.1; omega, h.1⟩, fun D' h' => ?_⟩
 rcases List.mem_cons.1 h' with rfl | h'
 ·exact ⟨hB, by have := (Array.getElem?_eq_some_iff.1 ho).1; omega, ho⟩
 ·obtain ⟨h1, h2, h3⟩ := h.2 D' h'
  exact ⟨h1, by omega, h3⟩
section
variable {P : Program} {a : Act} {w0 w : World} {ex : Nat → Prop} {n B m : Nat} {E : List (Nat × Value)} {L : List (Nat × BA)}
theorem leavesB {fn : Func} {R : Ending → World → Prop} {tmps : Array Value} : ∀ (Ds : List Nat) (w : World), DsOk B m Ds w → (∀ w', KpN B w w' → ∃ v, (results fn tmps).run P w' = .ok v w' ∧ R (.returned v) w') → LeavesInM Fence.wide 8 P fn tmps R (Ds.map dfD) .returning w
 | [], w, _, h => h w (.of_below (Below.refl _ _))
 | D :: Ds, w, hD, h => by
  obtain ⟨h1, h2, h3⟩ := hD.2 D Zz2
  refine ⟨by simp, .inl ⟨D, _, rfl, run_takeDeferred h3, leavesB Ds _ ⟨(List.nodup_cons.1 hD.1).2, fun D' h' => ?_⟩ fun w' hk => h w' (KpN.t ?_ hk)⟩⟩
  ·obtain ⟨k1, k2, k3⟩ := hD.2 D' (Zz1 h')
   refine ⟨k1, k2, ?_⟩
   have hne : D' ≠ D := fun e => (List.nodup_cons.1 hD.1).1 (e ▸ h')
   exact (World.putObj_heap_other hne).trans k3
  ·exact KpN.put h1 h3 rfl _
theorem rtB {fn : Func} {R : Ending → World → Prop} (Ds : List Nat) (T : TmD (Ds.map dfD) a n E) (hD : DsOk B m Ds w) (h : ∀ w' a', KpN B w w' → Tm a' n E → bodyPost P fn R .ret a' w') : bpM P fn R .ret a w := by
 show LeavesInM Fence.wide 8 P fn a.tmps R a.defers .returning w
 rw [T.defers]
 refine leavesB Ds w hD fun w' hk => ?_
 obtain ⟨_, v, h1, h2⟩ := h w' { a with defers := [] } hk ⟨rfl, T.size, T.get⟩
 exact ⟨v, h1, h2⟩
theorem nmB {fn : Func} {R : Ending → World → Prop} (Ds : List Nat) (T : TmD (Ds.map dfD) a n E) (hD : DsOk B m Ds w) (h : ∀ w' a', KpN B w w' → Tm a' n E → bodyPost P fn R .ret a' w') : bpM P fn R .normal a w := rtB Ds T hD h
end
theorem Mem.ge {w0 w : World} {L : List (Nat × BA)} {g : Nat} {p : BA} (M : Mem w0 noEx w L) (h : (g, p) ∈ L) : w0.heap.size ≤ g := by
 rcases (M.blk _ h).1 with h | h
 · exact h
 · exact h.elim
theorem g_startT {P : Program} {ops : Array Oper} {a : Act} {Q : Exit → Act → World → Prop} {w0 w : World} {ex : Nat → Prop} {L : List (Nat × BA)} (M : Mem w0 ex w L) (m : Nat) {id : Nat} (hm : P.follows .mixedOrders = true) (hn : ops.size = m) (hz : Array.replicate m false = Zpb m 0)
  (h : ∀ w', Mem w0 ex w' L → wpG P ops Q MT m (Zpb m 0) a w') : (Code.region id ops true).wp P Q a w := g_start MT m hm hn hz trivial (h _ M.drew)
end
section
open Go.RowKit
open Go.Maps (Keyed)
def uaddI (x y : Int) : Int := IntKind.u64.wrap (x + y)
def usubI (x y : Int) : Int := IntKind.u64.wrap (x - y)
def umulI (x y : Int) : Int := IntKind.u64.wrap (x * y)
def unegI (x : Int) : Int := IntKind.u64.wrap (0 - x)
def uandI (x y : Int) : Int := IntKind.u64.wrap ((BitVec.ofInt 64 x &&& BitVec.ofInt 64 y).toNat)
def uorI (x y : Int) : Int := IntKind.u64.wrap ((BitVec.ofInt 64 x ||| BitVec.ofInt 64 y).toNat)
def uanI (x y : Int) : Int := IntKind.u64.wrap ((BitVec.ofInt 64 x &&& ~~~(BitVec.ofInt 64 y)).toNat)
def ushlI (x n : Int) : Int := IntKind.u64.wrap (x * 2 ^ min n.toNat 64)
def ushrI (x n : Int) : Int := x.fdiv (2 ^ min n.toNat 64)
section
variable {P : Program} {op : Oper} {a : Act} {w : World} {t t' : TypeId} {x y : Operand} {p q : Int}
theorem rn_addU (ho : op.op = .binOp .add t x y t') (hx : a.eval x = .int .u64 p) (hy : a.eval y = .int .u64 q) : Runs P op a (.int .u64 (uaddI p q)) w := rn_bin ho hx hy rfl
theorem rn_subU (ho : op.op = .binOp .sub t x y t') (hx : a.eval x = .int .u64 p) (hy : a.eval y = .int .u64 q) : Runs P op a (.int .u64 (usubI p q)) w := rn_bin ho hx hy rfl
theorem rn_mulU (ho : op.op = .binOp .mul t x y t') (hx : a.eval x = .int .u64 p) (hy : a.eval y = .int .u64 q) : Runs P op a (.int .u64 (umulI p q)) w := rn_bin ho hx hy rfl
theorem rn_andU (ho : op.op = .binOp .and t x y t') (hx : a.eval x = .int .u64 p) (hy : a.eval y = .int .u64 q) : Runs P op a (.int .u64 (uandI p q)) w := rn_bin ho hx hy rfl
theorem rn_orU (ho : op.op = .binOp .or t x y t') (hx : a.eval x = .int .u64 p) (hy : a.eval y = .int .u64 q) : Runs P op a (.int .u64 (uorI p q)) w := rn_bin ho hx hy rfl
theorem rn_anU (ho : op.op = .binOp .andNot t x y t') (hx : a.eval x = .int .u64 p) (hy : a.eval y = .int .u64 q) : Runs P op a (.int .u64 (uanI p q)) w := rn_bin ho hx hy rfl
theorem rn_shrU {k : IntKind} (ho : op.op = .binOp .shr t x y t') (hx : a.eval x = .int .u64 p) (hy : a.eval y = .int k q) (hq : 0 ≤ q) : Runs P op a (.int .u64 (ushrI p q)) w :=
 rn_bin ho hx hy (by
  show (Op.shift .shr .u64 p k q).run P w = _
  unfold Op.shift
  rw [if_neg (by omega)]
  rfl)
theorem rn_shlU {k : IntKind} (ho : op.op = .binOp .shl t x y t') (hx : a.eval x = .int .u64 p) (hy : a.eval y = .int k q) (hq : 0 ≤ q) : Runs P op a (.int .u64 (ushlI p q)) w :=
 rn_bin ho hx hy (by
  show (Op.shift .shl .u64 p k q).run P w = _
  unfold Op.shift
  rw [if_neg (by omega)]
  rfl)
theorem rn_negU (ho : op.op = .unOp .neg t x) (hx : a.eval x = .int .u64 p) : Runs P op a (.int .u64 (unegI p)) w := by
 unfold Runs execOp
 simp only [ho, hx]
 rfl
theorem rn_cvt {s d : TypeId} {k k' : IntKind} {ds : TypeDesc} (ho : op.op = .convert s d x) (hs : P.underlying s = some ds) (hd : P.underlying d = some (.int k')) (hx : a.eval x = .int k p) : Runs P op a (.int k' (k'.wrap p)) w := by
 unfold Runs execOp
 simp only [ho, hx, convert, Sem.run_bind, run_underlying hs, run_underlying hd, Result.andThen_ok, Conv.intToInt, Sem.run_pure]
theorem rn_indexG {s e : TypeId} {size m : Nat} {g : Addr} {i : Int} (k : Nat) (ho : op.op = .indexAddr s x y) (hx : a.eval x = .pointer (some g)) {kk : IntKind} (hy : a.eval y = .int kk i) (hi : i = (k : Int))
   (hu : P.underlying s = some (.array m e)) (he : (P.info? e).map (·.size) = some size) (hk : k < m) : Runs P op a (.pointer (some (g.add (k * size)))) w := by
 subst hi
 unfold Runs execOp
 simp only [ho, hx, hy]
 cases hi : P.info? e with
 | none => rw [hi] at he; simp at he
 | some inf =>
   rw [hi] at he
   simp at he
   have hm' : (k : Int) < (m : Int) := by omega
   simp [Instr.indexAt, asIntOf, Sem.run_bind, run_underlying, hu, sizeOf, typeInfo, hi, he, Addr.add, hk, Instr.sureAddr, Result.andThen]
end
section
variable {P : Program} {ops : Array Oper} {op : Oper} {a : Act} {Q : Exit → Act → World → Prop} {df : List Deferred} {w0 w : World} {ex : Nat → Prop} {L L' : List (Nat × BA)} {k e ty : TypeId} {nn t : Nat} {E : List (Nat × Value)} {K : Act → World → Prop} {okv : Value → Value → Prop}
theorem ow_mmM (okv : Value → Value → Prop) (M : Mem w0 ex w L) (T : TmD df a nn E) (ho : op.op = .makeMap ty none) (ht : P.underlying ty = some (.map k e)) (hd : op.dst = some t) (hf : freshE E t = true) (hn : Nat.blt t nn = true)
  (h : ∀ g w' a', Mem w0 ex w' ((g, .any (memoQ P k okv)) :: L) → TmD df a' nn ((t, .map (some g)) :: E) → K a' w') : op.wp P a w K Q := by
 unfold Oper.wp execOp
 simp only [ho, Option.map_none, run_makeMap, Sem.run_bind, Result.andThen_ok, Sem.run_pure]
 rw [Oper.upon_value, hd]
 exact h _ _ _ (M.newAny _ _ ⟨#[], 0, rfl, fun e he => by simp at he⟩) (T.put hn hf _)
theorem ow_lk {x y : Operand} {g : Nat} {key z : Value} {kl : Lit} (Kd : Keyed P k) (ht : P.underlying ty = some (.map k e)) (hz : ∀ w, (zeroValue e).run P w = .ok z w) (M : Mem w0 ex w L) (T : TmD df a nn E) (hm : (g, BA.any (memoQ P k okv)) ∈ L) (ho : op.op = .lookup ty x y true) (hd : op.dst = some t) (hf : freshE E t = true) (hn : Nat.blt t nn = true) (hx : a.eval x = .map (some g)) (hy : a.eval y = key)
  (hkey : keyOf P k key = some kl)
  (h : ∀ (v : Value) (b : Bool), (b = true → okv key v) → (b = false → v = z) → ∀ a', TmD df a' nn ((t, .tuple #[v, .bool b]) :: E) → K a' w) : op.wp P a w K Q := by
 have hM : Memo P k okv w g := Memo.iff.2 (M.at hm)
 unfold Oper.wp execOp
 rcases hM.lookup Kd ht (hz w) hkey with ⟨v, hr, hv⟩ | hr
 ·simp only [ho, hx, hy, hr, Sem.run_bind, Result.andThen_ok, Sem.run_pure]
  rw [Oper.upon_value, hd]
  exact h _ true (fun _ => hv) (fun h => by cases h) _ (T.put hn hf _)
 ·simp only [ho, hx, hy, hr, Sem.run_bind, Result.andThen_ok, Sem.run_pure]
  rw [Oper.upon_value, hd]
  exact h _ false (fun h => by cases h) (fun _ => rfl) _ (T.put hn hf _)
theorem ow_muM {x y z : Operand} {g : Nat} {key val : Value} {kl : Lit} (Kd : Keyed P k) (ht : P.underlying ty = some (.map k e)) (M : Mem w0 ex w L) (T : TmD df a nn E) (ho : op.op = .mapUpdate ty x y z) (hd : op.dst = none) (hx : a.eval x = .map (some g)) (hy : a.eval y = key) (hz : a.eval z = val)
  (hu : Upd L g (.any (memoQ P k okv)) (.any (memoQ P k okv)) L') (hkey : keyOf P k key = some kl) (hok : okv key val) (h : ∀ w' a', Mem w0 ex w' L' → TmD df a' nn E → K a' w') : op.wp P a w K Q := by
 have hM : Memo P k okv w g := Memo.iff.2 (M.at hu.mem)
 obtain ⟨w', hr, hm', hg⟩ := hM.update Kd ht hkey hok
 unfold Oper.wp execOp
 simp only [ho, hx, hy, hz, hr, Sem.run_bind, Result.andThen_ok, Sem.run_pure]
 show K (a.put op.dst undef) w'
 rw [hd]
 exact h _ _ (M.callW hu hg (Memo.iff.1 hm')) (T.put0 _)
end
end
abbrev sv (l : List UInt8) : Value := .string ⟨l.toArray⟩
theorem sv_size (l : List UInt8) : (⟨l.toArray⟩ : ByteArray).size = l.length := by simp [ByteArray.size]
theorem sv_data (l : List UInt8) : (⟨l.toArray⟩ : ByteArray).data.toList = l := by simp
theorem sv_app (l r : List UInt8) : (⟨l.toArray⟩ : ByteArray) ++ ⟨r.toArray⟩ = ⟨(l ++ r).toArray⟩ := by
 apply ByteArray.ext
 simp
section
variable {P : Program} {op : Oper} {a : Act} {w : World} {t t' ty : TypeId} {x y : Operand} {l r : List UInt8}
theorem rn_sadd (ho : op.op = .binOp .add t x y t') (hx : a.eval x = sv l) (hy : a.eval y = sv r) (hb : l.length + r.length ≤ 9223372036854775807) : Runs P op a (sv (l ++ r)) w :=
 rn_bin ho hx hy (by
  rw [eqGuard_add, binOp_string_add]
  show (Op.stringOp .add _ _).run P w = _
  unfold Op.stringOp
  simp only
  rw [if_neg (by rw [sv_size, sv_size, show IntKind.i64.max = 9223372036854775807 from rfl]; omega), sv_app]
  rfl)
theorem rn_seql (ho : op.op = .binOp .eql t x y t') (hx : a.eval x = sv l) (hy : a.eval y = sv r) : Runs P op a (.bool (decide (l = r))) w :=
 rn_bin ho hx hy (by
  rw [eqGuard_at_string, binOp_string_eql, ByteArray.toList_mk, ByteArray.toList_mk]
  show Result.ok (Value.bool (l == r)) w = _
  rw [show (l == r) = decide (l = r) by by_cases h : l = r <;> simp [h]])
theorem rn_sneq (ho : op.op = .binOp .neq t x y t') (hx : a.eval x = sv l) (hy : a.eval y = sv r) : Runs P op a (.bool (!decide (l = r))) w :=
 rn_bin ho hx hy (by
  rw [eqGuard_at_string, binOp_string_neq, ByteArray.toList_mk, ByteArray.toList_mk]
  show Result.ok (Value.bool !(l == r)) w = _
  rw [show (l == r) = decide (l = r) by by_cases h : l = r <;> simp [h]])
theorem rn_slen (ho : op.op = .call { callee := .builtin .len, args := #[x], argTypes := #[ty] }) (hu : P.underlying ty = some .string) (hx : a.eval x = sv l) : Runs P op a (.int .i64 (l.length : Int)) w := by
 have h := rn_lenT (P := P) (w := w) ho hu hx
 rwa [sv_size] at h
theorem rn_sidx {i : Int} (k : Nat) {b : UInt8} (ho : op.op = .index t x y) (hu : P.underlying t = some .string) (hx : a.eval x = sv l) (hy : a.eval y = .int .i64 i) (hi : i = (k : Int)) (hb : l[k]? = some b) : Runs P op a (.int .u8 (b.toNat : Int)) w := by
 subst hi
 have hk := (List.getElem?_eq_some_iff.1 hb).1
 have hr : (Instr.index t (sv l) (.int .i64 (k : Int))).run P w = .ok (.int .u8 (b.toNat : Int)) w := by
  rw [run_index_string w t _ .i64 _ hu, dif_pos ⟨by omega, by rw [sv_size]; omega⟩]
  have he : (⟨l.toArray⟩ : ByteArray)[((k : Int)).toNat]'(by rw [sv_size]; omega) = b := by
   have h1 : (⟨l.toArray⟩ : ByteArray)[((k : Int)).toNat]'(by rw [sv_size]; omega) = l[k] := rfl
   rw [h1]
   exact (List.getElem?_eq_some_iff.1 hb).2
  rw [he]
 unfold Runs execOp
 simp only [ho, hx, hy, hr, Sem.run_bind, Result.andThen_ok, Sem.run_pure]
theorem rn_sub8 {p q : Int} (ho : op.op = .binOp .sub t x y t') (hx : a.eval x = .int .u8 p) (hy : a.eval y = .int .u8 q) (hb : 0 ≤ p - q ∧ p - q ≤ 255) : Runs P op a (.int .u8 (p - q)) w :=
 rn_bin ho hx hy (by
  show Result.ok (Value.int .u8 (IntKind.u8.wrap (p - q))) w = _
  have e : IntKind.u8.wrap (p - q) = p - q := by show (p - q) % 256 = _; omega
  rw [e])
theorem rn_cvt8 {s d : TypeId} {p : Int} (ho : op.op = .convert s d x) (hs : P.underlying s = some (.int .u8)) (hd : P.underlying d = some (.int .i64)) (hx : a.eval x = .int .u8 p) (hb : 0 ≤ p ∧ p ≤ 255) : Runs P op a (.int .i64 p) w := by
 have h := rn_cvt (P := P) (w := w) ho hs hd hx
 rwa [IntWalk.i64_in _ (by omega)] at h
def cutS (l : List UInt8) (a b : Nat) : List UInt8 := (l.drop a).take (b - a)
theorem rn_sslice {lo hi : Option Operand} {p q : Nat} (ho : op.op = .slice ty x lo hi none) (hu : P.underlying ty = some .string) (hx : a.eval x = sv l) (hl : Bd a lo 0 p) (hh : Bd a hi l.length q) (h1 : p ≤ q) (h2 : q ≤ l.length) : Runs P op a (sv (cutS l p q)) w := by
 have q1 : (p : Int) ≤ (q : Int) := by omega
 have q2 : (q : Int) ≤ (l.length : Int) := by omega
 have hz : (⟨l.toArray⟩ : ByteArray).size = l.length := sv_size l
 have he : (⟨l.toArray⟩ : ByteArray).extract p q = ⟨(cutS l p q).toArray⟩ := ByteArray.extract_mk l p q
 unfold Runs execOp
 cases lo with
 | none =>
  have hl : p = 0 := hl
  subst hl
  cases hi with
  | none =>
   have hh : q = l.length := hh
   subst hh
   simp [ho, hx, Instr.sliceAt, Instr.slice, Instr.sliceBounds, Sem.run_bind, run_underlying, hu, hz, he, cutS]
  | some y =>
   have hh : a.eval y = .int .i64 (q : Int) := hh
   simp [ho, hx, hh, Instr.sliceAt, Instr.slice, Instr.sliceBounds, Instr.sliceBound, asIntOf, Sem.run_bind, run_underlying, hu, hz, he, h2, q2]
 | some x =>
  have hl : a.eval x = .int .i64 (p : Int) := hl
  cases hi with
  | none =>
   have hh : q = l.length := hh
   subst hh
   simp [ho, hx, hl, Instr.sliceAt, Instr.slice, Instr.sliceBounds, Instr.sliceBound, asIntOf, Sem.run_bind, run_underlying, hu, hz, he, h1, q1]
  | some y =>
   have hh : a.eval y = .int .i64 (q : Int) := hh
   simp [ho, hx, hl, hh, Instr.sliceAt, Instr.slice, Instr.sliceBounds, Instr.sliceBound, asIntOf, Sem.run_bind, run_underlying, hu, hz, he, h1, h2, q1, q2]
end
def Sl (e size : Nat) (v : Value) (n : Nat) (xs : List Value) (I : List (Nat × BA)) : Prop :=
 (v = .slice none 0 0 ∧ n = 0 ∧ xs = [] ∧ I = []) ∨ ∃ g cap, v = .slice (some ⟨g, 0, none⟩) n cap ∧ I = [(g, .row e size n xs cap)]
theorem Sl.nil (e size : Nat) : Sl e size (.slice none 0 0) 0 [] [] := .inl ⟨rfl, rfl, rfl, rfl⟩
section
variable {w0 w w' : World} {ex : Nat → Prop} {L I : List (Nat × BA)} {e size n : Nat} {v : Value} {xs : List Value}
theorem own_rebase {base g cap : Nat} (h : w.ownsRow base e size (.slice (some ⟨g, 0, none⟩) n cap) n xs) (hn : 0 < n) : BA.holds w g (.row e size n xs cap) := by
 refine ⟨⟨h.1, ?_⟩, hn⟩
 rcases h.2 with ⟨h2, _⟩ | ⟨g', c', cur, h2, _, hg, hr⟩
 ·cases h2
 ·injection h2 with h2 _ hc
  injection h2 with h2
  injection h2 with h2 _ _
  subst h2
  exact .inr ⟨g, c', cur, by rw [hc], Nat.le_refl _, hg, hr⟩
theorem Sl.row (e size g n : Nat) (xs : List Value) (cap : Nat) : Sl e size (.slice (some ⟨g, 0, none⟩) n cap) n xs [(g, .row e size n xs cap)] := .inr ⟨g, cap, rfl, rfl⟩
theorem app_wp {P : Program} {o : Oper} {a : Act} {K : Act → World → Prop} {Q : Exit → Act → World → Prop} {s x : Operand} {t : TypeId} {z : Value} {bytes b c : Nat} {cs : List Value}
   (ht : P.underlying t = some (.slice e)) (hinfo : (P.info? e).map (fun i => (i.zero, i.size, i.bytes)) = some (some z, size, bytes)) (hzs : z.cells.size = size) (hsz : 0 < size) (hby : bytes ≤ 1000)
   (M : Mem w0 ex w (I ++ L)) (hS : Sl e size v n xs I) (hn : n ≤ 1000000)
   (ho : o.op = .call { callee := .builtin .append, args := #[s, x], argTypes := #[t, t] }) (hs : a.eval s = v) (hx : a.eval x = .slice (some ⟨b, 0, none⟩) 1 c) (hm : (b, BA.cells cs) ∈ L) (hl : cs.length = size) (h1 : cs.all (·.oneCell') = true)
   (h : ∀ g cap w', Mem w0 ex w' ((g, .row e size (n + 1) (xs ++ cs) cap) :: L) → K (a.put o.dst (.slice (some ⟨g, 0, none⟩) (n + 1) cap)) w') : o.wp P a w K Q := by
 obtain ⟨i, hi, hz0, hz1, hz2⟩ := info_parts hinfo
 have hb : Bk w b cs.toArray := M.get (List.mem_append_right _ hm)
 have hnews : ∀ j u, cs[j]? = some u → w.cell? ((⟨b, 0, none⟩ : Addr).add j) = some u := fun j u hu => by
   rw [Addr.add_mid, hb.cell, Nat.zero_add]; simpa using hu
 have h1' : ∀ u ∈ cs, u.oneCell' = true := fun u hu => List.all_eq_true.1 h1 u hu
 have hbb : (n + 1) * bytes ≤ 140737488355328 := by
   have : (n + 1) * bytes ≤ 1000001 * 1000 := Nat.mul_le_mul (by omega) hby
   omega
 rcases hS with ⟨rfl, rfl, rfl, rfl⟩ | ⟨g0, cap0, rfl, rfl⟩
 · refine wp_append_lies w s x t ho w.heap.size e i z size bytes ht hi hz0 hz1 hz2 hzs hsz (.slice none 0 0) 0 [] hs ⟨by simp, .inl ⟨rfl, rfl⟩⟩ ⟨b, 0, none⟩ 1 c cs hx (by omega) hnews h1' (by omega) (by unfold maxLen; omega) (by simpa using hbb) (Nat.le_refl _) w.heap.size rfl ?_
   intro g cap w' hown hgr hat hlt
   have hg : g = w.heap.size := by
     rcases hat with h | h
     · cases h
     · exact h
   have M1 : Mem w0 ex w' L := M.call ⟨hgr.os, hgr.tape, hgr.output, hgr.size, fun k hk => hgr.block k hk (fun e => by cases e)⟩
   exact h g cap w' (M1.add (by rw [hg]; exact M.size) (own_rebase hown (by omega)) (fun q hq e => by have := BA.lt (M.blk q hq).2; omega))
 · have hrow := (M.blk (g0, .row e size n xs cap0) (by simp)).2
   have hnp : 0 < n := hrow.2
   refine wp_append_lies w s x t ho g0 e i z size bytes ht hi hz0 hz1 hz2 hzs hsz _ n xs hs hrow.1 ⟨b, 0, none⟩ 1 c cs hx (by omega) hnews h1' (by omega) (by unfold maxLen; omega) hbb (Nat.le_of_lt (BA.lt hrow)) w.heap.size rfl ?_
   intro g cap w' hown hgr hat hlt
   have hgr : w.grownBy w' (some g0) := hgr
   rcases hat with h2 | h2
   · have h2 : some g0 = some g := h2
     injection h2 with h2
     subst h2
     exact h g0 cap w' (M.callW (L' := (g0, .row e size (n + 1) (xs ++ cs) cap) :: L) .head hgr (own_rebase hown (by omega)))
   · have M1 := M.callW (L' := (g0, .any (fun _ => True)) :: L) .head hgr (by
       have hl0 : g0 < w'.heap.size := Nat.lt_of_lt_of_le (BA.lt hrow) hgr.size
       exact ⟨w'.heap[g0], Array.getElem?_eq_getElem hl0, trivial⟩)
     exact h g cap w' (M1.forget.add (by rw [h2]; exact M.size) (own_rebase hown (by omega)) (fun q hq e => by have := BA.lt (M.blk q (List.mem_append_right _ hq)).2; omega))
end
open Go.RowKit
open Go.RowKit
theorem take_eq_succ {k l : List Int} {p : Nat} {x y : Int} (h1 : k.drop p = x :: k.drop (p + 1)) (h2 : l.drop p = y :: l.drop (p + 1)) : decide (k.take (p + 1) = l.take (p + 1)) = (decide (k.take p = l.take p) && decide (x = y)) := by
 have a : ∀ {m : List Int} {z : Int}, m.drop p = z :: m.drop (p + 1) → m.take (p + 1) = m.take p ++ [z] := by
  intro m z h
  have hk : p < m.length := by
   rcases Nat.lt_or_ge p m.length with h' | h'
   ·exact h'
   ·rw [List.drop_of_length_le h'] at h; cases h
  rw [List.drop_eq_getElem_cons hk] at h
  injection h with h _
  rw [List.take_succ_eq_append_getElem hk, h]
 rw [a h1, a h2]
 rw [Bool.eq_iff_iff]
 simp only [Bool.and_eq_true, decide_eq_true_eq]
 constructor
 ·intro h
  have := List.append_inj' h rfl
  exact ⟨this.1, by simpa using this.2⟩
 ·rintro ⟨h, rfl⟩; rw [h]
theorem sameInts_any (A B : Option Addr) (n m c d : Nat) (k l : List Int) (w : World) (ha : Rd w w.heap.size 1 A n (ic k)) (hb : Rd w w.heap.size 1 B m (ic l)) (hn : n ≤ 9223372036854775807) (hm : m ≤ 9223372036854775807) :
   Calls Tryz.prog 33 #[.slice A n c, .slice B m d] w fun e w' => e = .returned (.bool (decide (k = l))) ∧ Below w.heap.size w w' := by
 have HA := Lib.hid ha
 have HB := Lib.hid hb
 have HK := Lib.hid ha.len1
 have HL := Lib.hid hb.len1
 clear ha hb
 by_cases hnm : n = m
 · subst hnm
   have e0 : ((n : Int) == (n : Int)) = true := by simp
   have e1 : (n == n) = true := by simp
   go_enter Tryz.func33, Tryz.ntmps33
   go_wp2
   go_loopw [5, 6] (fun s i wr => ∃ (p : Nat) (b : Bool), p ≤ n ∧ i = .int .i64 p ∧ s = .bool b ∧ Hid (b = decide (k.take p = l.take p)) ∧ Below w.heap.size w wr) (fun _ i _ => n - (intOf i).toNat)
   case atStart => exact ⟨0, true, by omega, rfl, rfl, by show _ = _; simp, Below.refl _ _⟩
   case round =>
     obtain ⟨p, b, hp, rfl, rfl, he, hbw⟩ := hrel
     cases b with
     | false =>
       go_wp2
       go_ret
       have h := he.out
       exact ⟨ret_bool (by symm; simp; rintro rfl; simp at h), hbw⟩
     | true =>
       by_cases hlt : p < n
       · obtain ⟨b1, o1, x, rfl, hb1, hd1, d1⟩ := (HA.out.below hbw).at1 hlt
         obtain ⟨b2, o2, y, rfl, hb2, hd2, d2⟩ := (HB.out.below hbw).at1 hlt
         have HD1 := Lib.hid hd1
         have HD2 := Lib.hid hd2
         clear hd1 hd2
         have i0 : (0 : Int) ≤ (p : Int) := by omega
         have i1 : (p : Int) < (n : Int) := by omega
         go_wp2
         refine wp_region_G (fun _ W => W.cell? ⟨b1, o1 + p, none⟩ = some (.int .i64 x) ∧ W.cell? ⟨b2, o2 + p, none⟩ = some (.int .i64 y) ∧ Below w.heap.size w W) 10 (by kernel_rfl) (by kernel_rfl) ?s0 ?r0
         case s0 => (exact ⟨d1, d2, hbw.drew⟩)
         intro W0
         refine wpG_take (i := 0) (v := ?v1) rfl (by kernel_rfl) (by exact fun _ _ => Iff.rfl) (fun _ _ _ h => h) (Or.inl ⟨by rfl, ?y1⟩) ?r1
         case y1 => (intro w' hy; obtain ⟨L, hD, hl, hS⟩ := hy; clear hD hl hS; go_simp; (try with_reducible rfl))
         (try simp only [Act.put, Zz3, Zz4, Zz5, Zz6, Zz7, Zz8])
         refine wpG_take (i := 1) (v := ?v2) rfl (by kernel_rfl) (by exact fun _ _ => Iff.rfl) (fun _ _ _ h => h) (Or.inl ⟨by rfl, ?y2⟩) ?r2
         case y2 => (intro w' hy; obtain ⟨L, hD, hl, hS⟩ := hy; clear hD hl hS; go_simp; (try with_reducible rfl))
         (try simp only [Act.put, Zz3, Zz4, Zz5, Zz6, Zz7, Zz8])
         refine wpG_take (i := 2) (v := ?v3) rfl (by kernel_rfl) (by exact fun _ _ => Iff.rfl) (fun _ _ _ h => h) (Or.inl ⟨by rfl, ?y3⟩) ?r3
         case y3 => (intro w' hy; obtain ⟨L, hD, hl, hS⟩ := hy; clear hD hl hS; go_simp; (try with_reducible rfl))
         (try simp only [Act.put, Zz3, Zz4, Zz5, Zz6, Zz7, Zz8])
         refine wpG_take (i := 3) (v := ?v4) rfl (by kernel_rfl) (by exact fun _ _ => Iff.rfl) (fun _ _ _ h => h) (Or.inl ⟨by rfl, ?y4⟩) ?r4
         case y4 => (intro w' hy; obtain ⟨L, hD, hl, hS⟩ := hy; obtain ⟨s1, s2, _⟩ := hS; clear hD hl; go_simp; (try with_reducible rfl))
         (try simp only [Act.put, Zz3, Zz4, Zz5, Zz6, Zz7, Zz8])
         refine wpG_take (i := 4) (v := ?v5) rfl (by kernel_rfl) (by exact fun _ _ => Iff.rfl) (fun _ _ _ h => h) (Or.inl ⟨by rfl, ?y5⟩) ?r5
         case y5 => (intro w' hy; obtain ⟨L, hD, hl, hS⟩ := hy; clear hD hl hS; go_simp; (try with_reducible rfl))
         (try simp only [Act.put, Zz3, Zz4, Zz5, Zz6, Zz7, Zz8])
         refine wpG_take (i := 5) (v := ?v6) rfl (by kernel_rfl) (by exact fun _ _ => Iff.rfl) (fun _ _ _ h => h) (Or.inl ⟨by rfl, ?y6⟩) ?r6
         case y6 => (intro w' hy; obtain ⟨L, hD, hl, hS⟩ := hy; clear hD hl hS; go_simp; (try with_reducible rfl))
         (try simp only [Act.put, Zz3, Zz4, Zz5, Zz6, Zz7, Zz8])
         refine wpG_take (i := 6) (v := ?v7) rfl (by kernel_rfl) (by exact fun _ _ => Iff.rfl) (fun _ _ _ h => h) (Or.inl ⟨by rfl, ?y7⟩) ?r7
         case y7 => (intro w' hy; obtain ⟨L, hD, hl, hS⟩ := hy; clear hD hl hS; go_simp; (try with_reducible rfl))
         (try simp only [Act.put, Zz3, Zz4, Zz5, Zz6, Zz7, Zz8])
         refine wpG_take (i := 7) (v := ?v8) rfl (by kernel_rfl) (by exact fun _ _ => Iff.rfl) (fun _ _ _ h => h) (Or.inl ⟨by rfl, ?y8⟩) ?r8
         case y8 => (intro w' hy; obtain ⟨L, hD, hl, hS⟩ := hy; obtain ⟨s1, s2, _⟩ := hS; clear hD hl; go_simp; (try with_reducible rfl))
         (try simp only [Act.put, Zz3, Zz4, Zz5, Zz6, Zz7, Zz8])
         refine wpG_take (i := 8) (v := ?v9) rfl (by kernel_rfl) (by exact fun _ _ => Iff.rfl) (fun _ _ _ h => h) (Or.inl ⟨by rfl, ?y9⟩) ?r9
         case y9 => (intro w' hy; obtain ⟨L, hD, hl, hS⟩ := hy; clear hD hl hS; go_simp; (try with_reducible rfl))
         (try simp only [Act.put, Zz3, Zz4, Zz5, Zz6, Zz7, Zz8])
         refine wpG_take (i := 9) (v := ?v10) rfl (by kernel_rfl) (by exact fun _ _ => Iff.rfl) (fun _ _ _ h => h) (Or.inl ⟨by rfl, ?y10⟩) ?r10
         case y10 => (intro w' hy; obtain ⟨L, hD, hl, hS⟩ := hy; clear hD hl hS; go_simp; (try with_reducible rfl))
         (try simp only [Act.put, Zz3, Zz4, Zz5, Zz6, Zz7, Zz8])
         refine wpG_end (by kernel_rfl) ?_
         intro W
          hS
         have hbz := hS.2.2
         clear hS
         go_wp2
         go_roundw
         case rel => exact ⟨p + 1, (x == y), by omega, by go_num, rfl, by (show _ = _; rw [take_eq_succ HD1.out HD2.out, ← he.out]; rw [Bool.eq_iff_iff]; simp), hbz⟩
         case measure => simp [intOf]; omega
       · go_wp2
         go_ret
         have e1 : k.take p = k := List.take_of_length_le (by have := HK.out; omega)
         have e2 : l.take p = l := List.take_of_length_le (by have := HL.out; omega)
         have h := he.out
         rw [e1, e2] at h
         exact ⟨ret_bool h, hbw⟩
 · have e0 : ((n : Int) == (m : Int)) = false := by simp; omega
   have e1 : (n == m) = false := by simp; omega
   have HE : Hid (decide (k = l) = false) := by show _ = _; simp; intro h; have h1 := HK.out; have h2 := HL.out; rw [h] at h1; omega
   generalize decide (k = l) = dk at *
   go_enter Tryz.func33, Tryz.ntmps33
   go_wp2
   go_loopw [5, 6] (fun s i wr => s = .bool false ∧ Below w.heap.size w wr) (fun _ _ _ => 0)
   case atStart => exact ⟨rfl, Below.refl _ _⟩
   case round =>
     obtain ⟨rfl, hbw⟩ := hrel
     go_wp2
     go_ret
     exact ⟨ret_bool HE.out.symm, hbw⟩
def u64ok (s : Int) : Prop := 0 ≤ s ∧ s < 18446744073709551616
theorem u64_wrap (n : Int) : u64ok (IntKind.u64.wrap n) := by
 unfold u64ok IntKind.wrap
 simp [IntKind.signed, IntKind.bits]
 omega
theorem u64_bits (a b : Int) : u64ok (bits .xor .u64 a b) := by unfold bits; exact u64_wrap _
theorem Mem.callC {w0 w w' : World} {ex : Nat → Prop} {L L' : List (Nat × BA)} {g : Nat} {cs cs' : List Value} (M : Mem w0 ex w L) (hu : Upd L g (.cells cs) (.cells cs') L') (h : w.grownBy w' (some g)) (hp : Bk w' g cs'.toArray) : Mem w0 ex w' L' := M.callW hu h hp
def PotPost (bp : Nat) (R : Int → Prop) (k : IntKind) (w : World) (e : Ending) (w' : World) : Prop :=
 ∃ n s : Int, R n ∧ u64ok s ∧ e = .returned (.int k n) ∧ w.grownBy w' (some bp) ∧ Bk w' bp #[.int .u64 s]
theorem step_any (s : Int) (bp : Nat) (w : World) (hp : Bk w bp #[.int .u64 s]) :
  Calls Tryz.prog 96 #[.pointer (some ⟨bp, 0, none⟩)] w (PotPost bp u64ok .u64 w) := by
 have M := Mem.initEx (p := .cells [.int .u64 s]) hp
 clear hp
 go_enter Tryz.func96, Tryz.ntmps96
 refine m_start M ?_
 clear M
 intro wc M
 go_wp2_with (first | (refine m_ld1 M rfl rfl rfl (by (repeat' (first | exact Zz2 | refine Zz1 ?_))) (by rfl) ?_) | (refine m_ldr M rfl rfl rfl (by (repeat' (first | exact Zz2 | refine Zz1 ?_))) (by (try simp only [Zy2, List.take_zero, List.take_nil, Zy1, List.drop_zero, List.drop_nil, List.cons_append, List.nil_append, List.append_nil, List.length_cons, List.length_nil, Nat.reduceAdd, Nat.zero_add, Nat.add_zero]); rfl) (by rfl) ?_) | (refine m_st M rfl rfl rfl (by first | exact (rfl : _ = Value.agg _) | exact (rfl : _ = Value.int _ _) | exact (rfl : _ = Value.bool _) | exact (rfl : _ = Value.slice _ _ _) | exact (rfl : _ = Value.pointer _) | exact (rfl : _ = Value.map _) | exact (rfl : _ = Value.func _ _ _) | exact (rfl : _ = Value.string _)) (by rfl) (by (repeat (first | exact Upd.head | apply Upd.tail))) (by (try simp only [Zy2, List.take_zero, List.take_nil, Zy1, List.drop_zero, List.drop_nil, List.cons_append, List.nil_append, List.append_nil, List.length_cons, List.length_nil, Nat.reduceAdd, Nat.zero_add, Nat.add_zero]); rfl) (by simp) (by simp [Value.oneCell']) (by kernel_rfl) ?_; clear M; (try clear wc); intro wc M) | (refine m_al M rfl rfl ?_; clear M; (try clear wc); intro g wc M) | (refine m_bx M rfl rfl (by first | exact (rfl : _ = Value.agg _) | exact (rfl : _ = Value.int _ _) | exact (rfl : _ = Value.bool _) | exact (rfl : _ = Value.slice _ _ _) | exact (rfl : _ = Value.pointer _) | exact (rfl : _ = Value.map _) | exact (rfl : _ = Value.func _ _ _) | exact (rfl : _ = Value.string _)) (by rfl) ?_; clear M; (try clear wc); intro g wc M))
 go_ret
 exact ⟨_, _, u64_bits _ _, u64_wrap _, rfl, M.grown, M.get (by (repeat' (first | exact Zz2 | refine Zz1 ?_)))⟩
theorem upto_any (s : Int) (bp : Nat) (most : Int) (w : World) (hm : most ≤ 1000000) (hm0 : 0 ≤ most) (hp : Bk w bp #[.int .u64 s]) (hs : u64ok s) :
  Calls Tryz.prog 35 #[.pointer (some ⟨bp, 0, none⟩), .int .i64 most] w (PotPost bp (fun n => 0 ≤ n ∧ n ≤ most) .i64 w) := by
 have M := Mem.initEx (p := .cells [.int .u64 s]) hp
 have HS := Lib.hid hs
 clear hp hs
 by_cases h1 : most < 1
 ·go_enter Tryz.func35, Tryz.ntmps35
  refine m_start M ?_
  clear M
  intro wc M
  go_wp2_with (first | (refine m_ld1 M rfl rfl rfl (by (repeat' (first | exact Zz2 | refine Zz1 ?_))) (by rfl) ?_) | (refine m_ldr M rfl rfl rfl (by (repeat' (first | exact Zz2 | refine Zz1 ?_))) (by (try simp only [Zy2, List.take_zero, List.take_nil, Zy1, List.drop_zero, List.drop_nil, List.cons_append, List.nil_append, List.append_nil, List.length_cons, List.length_nil, Nat.reduceAdd, Nat.zero_add, Nat.add_zero]); rfl) (by rfl) ?_) | (refine m_st M rfl rfl rfl (by first | exact (rfl : _ = Value.agg _) | exact (rfl : _ = Value.int _ _) | exact (rfl : _ = Value.bool _) | exact (rfl : _ = Value.slice _ _ _) | exact (rfl : _ = Value.pointer _) | exact (rfl : _ = Value.map _) | exact (rfl : _ = Value.func _ _ _) | exact (rfl : _ = Value.string _)) (by rfl) (by (repeat (first | exact Upd.head | apply Upd.tail))) (by (try simp only [Zy2, List.take_zero, List.take_nil, Zy1, List.drop_zero, List.drop_nil, List.cons_append, List.nil_append, List.append_nil, List.length_cons, List.length_nil, Nat.reduceAdd, Nat.zero_add, Nat.add_zero]); rfl) (by simp) (by simp [Value.oneCell']) (by kernel_rfl) ?_; clear M; (try clear wc); intro wc M) | (refine m_al M rfl rfl ?_; clear M; (try clear wc); intro g wc M) | (refine m_bx M rfl rfl (by first | exact (rfl : _ = Value.agg _) | exact (rfl : _ = Value.int _ _) | exact (rfl : _ = Value.bool _) | exact (rfl : _ = Value.slice _ _ _) | exact (rfl : _ = Value.pointer _) | exact (rfl : _ = Value.map _) | exact (rfl : _ = Value.func _ _ _) | exact (rfl : _ = Value.string _)) (by rfl) ?_; clear M; (try clear wc); intro g wc M))
  go_ret
  exact ⟨0, s, ⟨by omega, by omega⟩, HS.out, rfl, M.grown, M.get (by (repeat' (first | exact Zz2 | refine Zz1 ?_)))⟩
 ·go_enter Tryz.func35, Tryz.ntmps35
  refine m_start M ?_
  clear M
  intro wc M
  go_wp2_with (first | (refine m_ld1 M rfl rfl rfl (by (repeat' (first | exact Zz2 | refine Zz1 ?_))) (by rfl) ?_) | (refine m_ldr M rfl rfl rfl (by (repeat' (first | exact Zz2 | refine Zz1 ?_))) (by (try simp only [Zy2, List.take_zero, List.take_nil, Zy1, List.drop_zero, List.drop_nil, List.cons_append, List.nil_append, List.append_nil, List.length_cons, List.length_nil, Nat.reduceAdd, Nat.zero_add, Nat.add_zero]); rfl) (by rfl) ?_) | (refine m_st M rfl rfl rfl (by first | exact (rfl : _ = Value.agg _) | exact (rfl : _ = Value.int _ _) | exact (rfl : _ = Value.bool _) | exact (rfl : _ = Value.slice _ _ _) | exact (rfl : _ = Value.pointer _) | exact (rfl : _ = Value.map _) | exact (rfl : _ = Value.func _ _ _) | exact (rfl : _ = Value.string _)) (by rfl) (by (repeat (first | exact Upd.head | apply Upd.tail))) (by (try simp only [Zy2, List.take_zero, List.take_nil, Zy1, List.drop_zero, List.drop_nil, List.cons_append, List.nil_append, List.append_nil, List.length_cons, List.length_nil, Nat.reduceAdd, Nat.zero_add, Nat.add_zero]); rfl) (by simp) (by simp [Value.oneCell']) (by kernel_rfl) ?_; clear M; (try clear wc); intro wc M) | (refine m_al M rfl rfl ?_; clear M; (try clear wc); intro g wc M) | (refine m_bx M rfl rfl (by first | exact (rfl : _ = Value.agg _) | exact (rfl : _ = Value.int _ _) | exact (rfl : _ = Value.bool _) | exact (rfl : _ = Value.slice _ _ _) | exact (rfl : _ = Value.pointer _) | exact (rfl : _ = Value.map _) | exact (rfl : _ = Value.func _ _ _) | exact (rfl : _ = Value.string _)) (by rfl) ?_; clear M; (try clear wc); intro g wc M) | (go_at_call 96; refine (step_any s bp _ (M.get (by (repeat' (first | exact Zz2 | refine Zz1 ?_))))).mono ?_; rintro e wc ⟨v, s', hv, hs', rfl, hgr, hb⟩; have HV := Lib.hid hv; have HS' := Lib.hid hs'; have v0 : 0 ≤ v := hv.1; clear hv hs'; replace M := M.callC (cs' := [.int .u64 s']) (by (repeat (first | exact Upd.head | apply Upd.tail))) hgr hb; clear hgr hb))
  go_ret
  have r0 : 0 ≤ v / 2048 % (most + 1) := Int.emod_nonneg _ (by omega)
  have r1 : v / 2048 % (most + 1) < most + 1 := Int.emod_lt_of_pos _ (by omega)
  generalize v / 2048 % (most + 1) = rr at *
  have e : wrap64 rr = rr := IntWalk.wrap64_in rr (by omega)
  rw [e]
  exact ⟨rr, s', ⟨r0, by omega⟩, HS'.out, rfl, M.grown, M.get (by (repeat' (first | exact Zz2 | refine Zz1 ?_)))⟩
theorem within_pot (s : Int) (bp : Nat) (lo hi : Int) (w : World) (hl : -1000 ≤ lo) (hh : hi ≤ 1000) (hlh : lo ≤ hi) (hp : Bk w bp #[.int .u64 s]) (hs : u64ok s) :
  Calls Tryz.prog 36 #[.pointer (some ⟨bp, 0, none⟩), .int .i64 lo, .int .i64 hi] w (PotPost bp (fun n => lo ≤ n ∧ n ≤ hi) .i64 w) := by
 have M := Mem.initEx (p := .cells [.int .u64 s]) hp
 have HS := Lib.hid hs
 clear hp hs
 go_enter Tryz.func36, Tryz.ntmps36
 refine m_start M ?_
 clear M
 intro wc M
 go_wp2_with (first | (refine m_ld1 M rfl rfl rfl (by (repeat' (first | exact Zz2 | refine Zz1 ?_))) (by rfl) ?_) | (refine m_ldr M rfl rfl rfl (by (repeat' (first | exact Zz2 | refine Zz1 ?_))) (by (try simp only [Zy2, List.take_zero, List.take_nil, Zy1, List.drop_zero, List.drop_nil, List.cons_append, List.nil_append, List.append_nil, List.length_cons, List.length_nil, Nat.reduceAdd, Nat.zero_add, Nat.add_zero]); rfl) (by rfl) ?_) | (refine m_st M rfl rfl rfl (by first | exact (rfl : _ = Value.agg _) | exact (rfl : _ = Value.int _ _) | exact (rfl : _ = Value.bool _) | exact (rfl : _ = Value.slice _ _ _) | exact (rfl : _ = Value.pointer _) | exact (rfl : _ = Value.map _) | exact (rfl : _ = Value.func _ _ _) | exact (rfl : _ = Value.string _)) (by rfl) (by (repeat (first | exact Upd.head | apply Upd.tail))) (by (try simp only [Zy2, List.take_zero, List.take_nil, Zy1, List.drop_zero, List.drop_nil, List.cons_append, List.nil_append, List.append_nil, List.length_cons, List.length_nil, Nat.reduceAdd, Nat.zero_add, Nat.add_zero]); rfl) (by simp) (by simp [Value.oneCell']) (by kernel_rfl) ?_; clear M; (try clear wc); intro wc M) | (refine m_al M rfl rfl ?_; clear M; (try clear wc); intro g wc M) | (refine m_bx M rfl rfl (by first | exact (rfl : _ = Value.agg _) | exact (rfl : _ = Value.int _ _) | exact (rfl : _ = Value.bool _) | exact (rfl : _ = Value.slice _ _ _) | exact (rfl : _ = Value.pointer _) | exact (rfl : _ = Value.map _) | exact (rfl : _ = Value.func _ _ _) | exact (rfl : _ = Value.string _)) (by rfl) ?_; clear M; (try clear wc); intro g wc M) | (go_at_call 35; refine (upto_any s bp (hi - lo) _ (by omega) (by omega) (M.get (by (repeat' (first | exact Zz2 | refine Zz1 ?_)))) HS.out).mono ?_; rintro e wc ⟨v, s, hv, hs, rfl, hgr, hb⟩; have HS := Lib.hid hs; clear hs; replace M := M.callC (cs' := [.int .u64 s]) (by (repeat (first | exact Upd.head | apply Upd.tail))) hgr hb; clear hgr hb; skip))
 go_ret
 exact ⟨_, _, ⟨by omega, by omega⟩, HS.out, rfl, M.grown, M.get (by (repeat' (first | exact Zz2 | refine Zz1 ?_)))⟩
theorem three {v : Int} (h : 0 ≤ v ∧ v ≤ 2) : v = 0 ∨ v = 1 ∨ v = 2 := by omega
theorem of_pot (s : Int) (bp g : Nat) (a b c : Int) (w : World) (hg : g ≠ bp) (hl : Bk w g #[.int .i64 a, .int .i64 b, .int .i64 c]) (hp : Bk w bp #[.int .u64 s]) (hs : u64ok s) :
  Calls Tryz.prog 97 #[.pointer (some ⟨bp, 0, none⟩), .slice (some ⟨g, 0, none⟩) 3 3] w (PotPost bp (fun n => n = a ∨ n = b ∨ n = c) .i64 w) := by
 have M := Mem.initEx (p := .cells [.int .u64 s]) hp
 have HS := Lib.hid hs
 have HL := Lib.hid hl
 clear hp hs hl
 go_enter Tryz.func97, Tryz.ntmps97
 refine m_start M ?_
 clear M
 intro wc M
 go_wp2_with (first | (refine m_ld1 M rfl rfl rfl (by (repeat' (first | exact Zz2 | refine Zz1 ?_))) (by rfl) ?_) | (refine m_ldr M rfl rfl rfl (by (repeat' (first | exact Zz2 | refine Zz1 ?_))) (by (try simp only [Zy2, List.take_zero, List.take_nil, Zy1, List.drop_zero, List.drop_nil, List.cons_append, List.nil_append, List.append_nil, List.length_cons, List.length_nil, Nat.reduceAdd, Nat.zero_add, Nat.add_zero]); rfl) (by rfl) ?_) | (refine m_st M rfl rfl rfl (by first | exact (rfl : _ = Value.agg _) | exact (rfl : _ = Value.int _ _) | exact (rfl : _ = Value.bool _) | exact (rfl : _ = Value.slice _ _ _) | exact (rfl : _ = Value.pointer _) | exact (rfl : _ = Value.map _) | exact (rfl : _ = Value.func _ _ _) | exact (rfl : _ = Value.string _)) (by rfl) (by (repeat (first | exact Upd.head | apply Upd.tail))) (by (try simp only [Zy2, List.take_zero, List.take_nil, Zy1, List.drop_zero, List.drop_nil, List.cons_append, List.nil_append, List.append_nil, List.length_cons, List.length_nil, Nat.reduceAdd, Nat.zero_add, Nat.add_zero]); rfl) (by simp) (by simp [Value.oneCell']) (by kernel_rfl) ?_; clear M; (try clear wc); intro wc M) | (refine m_al M rfl rfl ?_; clear M; (try clear wc); intro g wc M) | (refine m_bx M rfl rfl (by first | exact (rfl : _ = Value.agg _) | exact (rfl : _ = Value.int _ _) | exact (rfl : _ = Value.bool _) | exact (rfl : _ = Value.slice _ _ _) | exact (rfl : _ = Value.pointer _) | exact (rfl : _ = Value.map _) | exact (rfl : _ = Value.func _ _ _) | exact (rfl : _ = Value.string _)) (by rfl) ?_; clear M; (try clear wc); intro g wc M) | (refine lo_one (M.old HL.out hg) rfl rfl rfl (by rfl) ?_) | (go_at_call 35; refine (upto_any s bp 2 _ (by omega) (by omega) (M.get (by (repeat' (first | exact Zz2 | refine Zz1 ?_)))) HS.out).mono ?_; rintro e wc ⟨v, s, hv, hs, rfl, hgr, hb⟩; have HS := Lib.hid hs; clear hs; replace M := M.callC (cs' := [.int .u64 s]) (by (repeat (first | exact Upd.head | apply Upd.tail))) hgr hb; clear hgr hb; rcases three hv with rfl | rfl | rfl))
 all_goals
  go_ret
  exact ⟨_, _, by simp, HS.out, rfl, M.grown, M.get (by (repeat' (first | exact Zz2 | refine Zz1 ?_)))⟩
def NearPost (bp : Nat) (n lo hi wd : Int) (w : World) (e : Ending) (w' : World) : Prop := ∃ x y s' : Int, (lo ≤ x ∧ n - wd ≤ x ∧ x ≤ n ∧ n ≤ y ∧ y ≤ n + wd ∧ y ≤ hi) ∧ u64ok s' ∧ e = .returned (R2 x y) ∧ w.grownBy w' (some bp) ∧ Bk w' bp #[.int .u64 s']
theorem near_pot (s : Int) (bp : Nat) (n lo hi wd : Int) (w : World) (hl : -1000 ≤ lo) (hh : hi ≤ 1000) (h1 : lo ≤ n) (h2 : n ≤ hi) (hw0 : 0 ≤ wd) (hw1 : wd ≤ 1000) (hp : Bk w bp #[.int .u64 s]) (hs : u64ok s) :
  Calls Tryz.prog 64 #[.pointer (some ⟨bp, 0, none⟩), .int .i64 n, .int .i64 lo, .int .i64 hi, .int .i64 wd] w (NearPost bp n lo hi wd w) := by
 have M := Mem.initEx (p := .cells [.int .u64 s]) hp
 have HS := Lib.hid hs
 clear hp hs
 go_enter Tryz.func64, Tryz.ntmps64
 refine m_start M ?_
 clear M
 intro wc M
 go_wp2_with (first | (refine m_ld1 M rfl rfl rfl (by (repeat' (first | exact Zz2 | refine Zz1 ?_))) (by rfl) ?_) | (refine m_ldr M rfl rfl rfl (by (repeat' (first | exact Zz2 | refine Zz1 ?_))) (by (try simp only [Zy2, List.take_zero, List.take_nil, Zy1, List.drop_zero, List.drop_nil, List.cons_append, List.nil_append, List.append_nil, List.length_cons, List.length_nil, Nat.reduceAdd, Nat.zero_add, Nat.add_zero]); rfl) (by rfl) ?_) | (refine m_st M rfl rfl rfl (by first | exact (rfl : _ = Value.agg _) | exact (rfl : _ = Value.int _ _) | exact (rfl : _ = Value.bool _) | exact (rfl : _ = Value.slice _ _ _) | exact (rfl : _ = Value.pointer _) | exact (rfl : _ = Value.map _) | exact (rfl : _ = Value.func _ _ _) | exact (rfl : _ = Value.string _)) (by rfl) (by (repeat (first | exact Upd.head | apply Upd.tail))) (by (try simp only [Zy2, List.take_zero, List.take_nil, Zy1, List.drop_zero, List.drop_nil, List.cons_append, List.nil_append, List.append_nil, List.length_cons, List.length_nil, Nat.reduceAdd, Nat.zero_add, Nat.add_zero]); rfl) (by simp) (by simp [Value.oneCell']) (by kernel_rfl) ?_; clear M; (try clear wc); intro wc M) | (refine m_al M rfl rfl ?_; clear M; (try clear wc); intro g wc M) | (refine m_bx M rfl rfl (by first | exact (rfl : _ = Value.agg _) | exact (rfl : _ = Value.int _ _) | exact (rfl : _ = Value.bool _) | exact (rfl : _ = Value.slice _ _ _) | exact (rfl : _ = Value.pointer _) | exact (rfl : _ = Value.map _) | exact (rfl : _ = Value.func _ _ _) | exact (rfl : _ = Value.string _)) (by rfl) ?_; clear M; (try clear wc); intro g wc M) | (refine absorb M ?_; intro M'; clear M; (obtain ⟨M, -⟩ : _ ∧ True := ⟨M', trivial⟩); clear M'; revert M; generalize World.alloc _ _ = wn; generalize wc.heap.size = g; (try clear wc); intro M; (obtain ⟨wc, rfl⟩ : ∃ x : World, x = wn := ⟨_, rfl⟩)) | (go_at_call 35; refine (upto_any _ bp _ _ (by omega) (by omega) (M.get (by (repeat' (first | exact Zz2 | refine Zz1 ?_)))) HS.out).mono ?_; rintro e wc ⟨v, s, hv, hs, rfl, hgr, hb⟩; have HS := Lib.hid hs; clear hs; replace M := M.callC (cs' := [.int .u64 s]) (by (repeat (first | exact Upd.head | apply Upd.tail))) hgr hb; clear hgr hb; skip) | (go_at_call 36; refine (within_pot _ bp _ _ _ (by omega) (by omega) (by omega) (M.get (by (repeat' (first | exact Zz2 | refine Zz1 ?_)))) HS.out).mono ?_; rintro e wc ⟨v, s, hv, hs, rfl, hgr, hb⟩; have HS := Lib.hid hs; clear hs; replace M := M.callC (cs' := [.int .u64 s]) (by (repeat (first | exact Upd.head | apply Upd.tail))) hgr hb; clear hgr hb; skip) | (go_at_call 97; refine (of_pot _ bp _ _ _ _ _ (by have hnd := M.nd; simp only [List.map_cons, List.map_nil, List.nodup_cons, List.mem_cons, not_or] at hnd; omega) (M.get (by (repeat' (first | exact Zz2 | refine Zz1 ?_)))) (M.get (by (repeat' (first | exact Zz2 | refine Zz1 ?_)))) HS.out).mono ?_; rintro e wc ⟨v, s, hv, hs, rfl, hgr, hb⟩; have HS := Lib.hid hs; clear hs; replace M := M.callC (cs' := [.int .u64 s]) (by (repeat (first | exact Upd.head | apply Upd.tail))) hgr hb; clear hgr hb; skip))
 all_goals
  refine ret_M (t := 10) (ty := 26) M (by rfl) (by rfl) (by rfl) (by (repeat' (first | exact Zz2 | refine Zz1 ?_))) (by rfl) ?_
  refine ⟨_, _, s, ⟨?_, ?_, ?_, ?_, ?_, ?_⟩, HS.out, rfl, M.grown, M.get (by (repeat' (first | exact Zz2 | refine Zz1 ?_)))⟩ <;> (split <;> omega)
theorem newPot_any (A : Option Addr) (n c : Nat) (l : List Int) (w : World) (hr : Rd w w.heap.size 1 A n (ic l)) (hn : n ≤ 9223372036854775807) :
   Calls Tryz.prog 9 #[.slice A n c] w fun e w' => ∃ (bp : Nat) (s : Int), u64ok s ∧ e = .returned (.pointer (some ⟨bp, 0, none⟩)) ∧ Mem w noEx w' [(bp, .cells [.int .u64 s])] := by
 have HR := Lib.hid hr
 clear hr
 go_enter Tryz.func9, Tryz.ntmps9
 refine start noEx ?_
 intro wc M
 go_wp2_with (first | (refine m_ld1 M rfl rfl rfl (by (repeat' (first | exact Zz2 | refine Zz1 ?_))) (by rfl) ?_) | (refine m_ldr M rfl rfl rfl (by (repeat' (first | exact Zz2 | refine Zz1 ?_))) (by (try simp only [Zy2, List.take_zero, List.take_nil, Zy1, List.drop_zero, List.drop_nil, List.cons_append, List.nil_append, List.append_nil, List.length_cons, List.length_nil, Nat.reduceAdd, Nat.zero_add, Nat.add_zero]); rfl) (by rfl) ?_) | (refine m_st M rfl rfl rfl (by first | exact (rfl : _ = Value.agg _) | exact (rfl : _ = Value.int _ _) | exact (rfl : _ = Value.bool _) | exact (rfl : _ = Value.slice _ _ _) | exact (rfl : _ = Value.pointer _) | exact (rfl : _ = Value.map _) | exact (rfl : _ = Value.func _ _ _) | exact (rfl : _ = Value.string _)) (by rfl) (by (repeat (first | exact Upd.head | apply Upd.tail))) (by (try simp only [Zy2, List.take_zero, List.take_nil, Zy1, List.drop_zero, List.drop_nil, List.cons_append, List.nil_append, List.append_nil, List.length_cons, List.length_nil, Nat.reduceAdd, Nat.zero_add, Nat.add_zero]); rfl) (by simp) (by simp [Value.oneCell']) (by kernel_rfl) ?_; clear M; (try clear wc); intro wc M) | (refine m_al M rfl rfl ?_; clear M; (try clear wc); intro g wc M) | (refine m_bx M rfl rfl (by first | exact (rfl : _ = Value.agg _) | exact (rfl : _ = Value.int _ _) | exact (rfl : _ = Value.bool _) | exact (rfl : _ = Value.slice _ _ _) | exact (rfl : _ = Value.pointer _) | exact (rfl : _ = Value.map _) | exact (rfl : _ = Value.func _ _ _) | exact (rfl : _ = Value.string _)) (by rfl) ?_; clear M; (try clear wc); intro g wc M))
 rename_i K0 hK0
 go_loopw [4] (fun v wr => ∃ (k : Nat) (s : Int), k ≤ n ∧ v = .int .i64 k ∧ Hid (u64ok s) ∧ Mem w noEx wr [(g, .cells [.int .u64 s])]) (fun v _ => n - (intOf v).toNat)
 case atStart => exact ⟨0, _, by omega, rfl, by (show u64ok _; unfold u64ok; decide), M⟩
 case round =>
   clear M wc
   obtain ⟨k, s, hk, rfl, hs, M⟩ := hrel
   obtain ⟨wc, rfl⟩ : ∃ x : World, x = wr := ⟨_, rfl⟩
   by_cases hlt : k < n
   · obtain ⟨b, o, x, rfl, hbb, hd, d0⟩ := HR.out.at1 hlt
     clear hd
     have D0 := Lib.hid d0
     clear d0
     have i0 : (0 : Int) ≤ (k : Int) := by omega
     have i1 : (k : Int) < (n : Int) := by omega
     go_wp2
     refine wp_region_G (fun L W => (L.getD 14 true = false → Mem w noEx W [(g, .cells [.int .u64 s])]) ∧ (L.getD 14 true = true → ∃ s1, u64ok s1 ∧ Mem w noEx W [(g, .cells [.int .u64 s1])])) 15 (by kernel_rfl) (by kernel_rfl) ?s0 ?r0
     case s0 => (exact ⟨fun _ => M.drew, fun h => (no_of h (by kernel_rfl)).elim⟩)
     intro W0
     refine wpG_take (i := 0) (v := ?v1) rfl (by kernel_rfl) (by intro L w; simp only [getD_set_ne true (show (0 : Nat) ≠ 14 from by decide)]) (fun _ _ _ h => h) (Or.inl ⟨by rfl, ?y1⟩) ?r1
     case y1 => (intro w' hy; obtain ⟨L, hD, hl, hS⟩ := hy; clear hD hl hS; go_simp; (try with_reducible rfl))
     (try simp only [Act.put, Zz3, Zz4, Zz5, Zz6, Zz7, Zz8])
     refine wpG_take (i := 1) (v := ?v2) rfl (by kernel_rfl) (by intro L w; simp only [getD_set_ne true (show (1 : Nat) ≠ 14 from by decide)]) (fun _ _ _ h => h) (Or.inl ⟨by rfl, ?y2⟩) ?r2
     case y2 => (intro w' hy; obtain ⟨L, hD, hl, hS⟩ := hy; clear hD hl hS; go_simp; (try with_reducible rfl))
     (try simp only [Act.put, Zz3, Zz4, Zz5, Zz6, Zz7, Zz8])
     refine wpG_take (i := 2) (v := ?v3) rfl (by kernel_rfl) (by intro L w; simp only [getD_set_ne true (show (2 : Nat) ≠ 14 from by decide)]) (fun _ _ _ h => h) (Or.inl ⟨by rfl, ?y3⟩) ?r3
     case y3 => (intro w' hy; obtain ⟨L, hD, hl, hS⟩ := hy; clear hD hl hS; go_simp; (try with_reducible rfl))
     (try simp only [Act.put, Zz3, Zz4, Zz5, Zz6, Zz7, Zz8])
     refine wpG_take (i := 3) (v := ?v4) rfl (by kernel_rfl) (by intro L w; simp only [getD_set_ne true (show (3 : Nat) ≠ 14 from by decide)]) (fun _ _ _ h => h) (Or.inl ⟨by rfl, ?y4⟩) ?r4
     case y4 => (intro w' hy; obtain ⟨L, hD, hl, hS⟩ := hy; clear hD hl hS; go_simp; (try with_reducible rfl))
     (try simp only [Act.put, Zz3, Zz4, Zz5, Zz6, Zz7, Zz8])
     refine wpG_take (i := 4) (v := ?v5) rfl (by kernel_rfl) (by intro L w; simp only [getD_set_ne true (show (4 : Nat) ≠ 14 from by decide)]) (fun _ _ _ h => h) (Or.inl ⟨by rfl, ?y5⟩) ?r5
     case y5 => (intro w' hy; obtain ⟨L, hD, hl, hS⟩ := hy; have M0 := hS.1 (hD.wait (by kernel_rfl) hl); clear hS; first | (refine Eq.trans (Zro (Mem.get M0 (by (repeat' (first | exact Zz2 | refine Zz1 ?_)))) rfl rfl (by rfl)) ?_; with_reducible rfl) | (refine Eq.trans (rn_row (Mem.get M0 (by (repeat' (first | exact Zz2 | refine Zz1 ?_)))) rfl rfl (by (try simp only [Zy2, List.take_zero, List.take_nil, Zy1, List.drop_zero, List.drop_nil, List.cons_append, List.nil_append, List.append_nil, List.length_cons, List.length_nil, Nat.reduceAdd, Nat.zero_add, Nat.add_zero]); rfl) (by rfl)) ?_; with_reducible rfl); (try with_reducible rfl))
     (try simp only [Act.put, Zz3, Zz4, Zz5, Zz6, Zz7, Zz8])
     refine wpG_take (i := 5) (v := ?v6) rfl (by kernel_rfl) (by intro L w; simp only [getD_set_ne true (show (5 : Nat) ≠ 14 from by decide)]) (fun _ _ _ h => h) (Or.inl ⟨by rfl, ?y6⟩) ?r6
     case y6 => (intro w' hy; obtain ⟨L, hD, hl, hS⟩ := hy; clear hD hl hS; go_simp; (try with_reducible rfl))
     (try simp only [Act.put, Zz3, Zz4, Zz5, Zz6, Zz7, Zz8])
     refine wpG_take (i := 6) (v := ?v7) rfl (by kernel_rfl) (by intro L w; simp only [getD_set_ne true (show (6 : Nat) ≠ 14 from by decide)]) (fun _ _ _ h => h) (Or.inl ⟨by rfl, ?y7⟩) ?r7
     case y7 => (intro w' hy; obtain ⟨L, hD, hl, hS⟩ := hy; clear hD hl hS; go_simp; (try with_reducible rfl))
     (try simp only [Act.put, Zz3, Zz4, Zz5, Zz6, Zz7, Zz8])
     refine wpG_take (i := 7) (v := ?v8) rfl (by kernel_rfl) (by intro L w; simp only [getD_set_ne true (show (7 : Nat) ≠ 14 from by decide)]) (fun _ _ _ h => h) (Or.inl ⟨by rfl, ?y8⟩) ?r8
     case y8 => (intro w' hy; obtain ⟨L, hD, hl, hS⟩ := hy; clear hD hl hS; go_simp; (try with_reducible rfl))
     (try simp only [Act.put, Zz3, Zz4, Zz5, Zz6, Zz7, Zz8])
     refine wpG_take (i := 8) (v := ?v9) rfl (by kernel_rfl) (by intro L w; simp only [getD_set_ne true (show (8 : Nat) ≠ 14 from by decide)]) (fun _ _ _ h => h) (Or.inl ⟨by rfl, ?y9⟩) ?r9
     case y9 => (intro w' hy; obtain ⟨L, hD, hl, hS⟩ := hy; have M0 := hS.1 (hD.wait (by kernel_rfl) hl); clear hS hD hl; have cc : w'.cell? ⟨b, o + k, none⟩ = some (.int .i64 x) := (World.cell?_of_block (w := w) (a := ⟨b, o + k, none⟩) (M0.block b hbb (fun h => h))).trans D0.out; clear M0; go_simp; (try with_reducible rfl))
     (try simp only [Act.put, Zz3, Zz4, Zz5, Zz6, Zz7, Zz8])
     refine wpG_take (i := 9) (v := ?v10) rfl (by kernel_rfl) (by intro L w; simp only [getD_set_ne true (show (9 : Nat) ≠ 14 from by decide)]) (fun _ _ _ h => h) (Or.inl ⟨by rfl, ?y10⟩) ?r10
     case y10 => (intro w' hy; obtain ⟨L, hD, hl, hS⟩ := hy; clear hD hl hS; go_simp; (try with_reducible rfl))
     (try simp only [Act.put, Zz3, Zz4, Zz5, Zz6, Zz7, Zz8])
     refine wpG_take (i := 10) (v := ?v11) rfl (by kernel_rfl) (by intro L w; simp only [getD_set_ne true (show (10 : Nat) ≠ 14 from by decide)]) (fun _ _ _ h => h) (Or.inl ⟨by rfl, ?y11⟩) ?r11
     case y11 => (intro w' hy; obtain ⟨L, hD, hl, hS⟩ := hy; clear hD hl hS; go_simp; (try with_reducible rfl))
     (try simp only [Act.put, Zz3, Zz4, Zz5, Zz6, Zz7, Zz8])
     refine wpG_take (i := 11) (v := ?v12) rfl (by kernel_rfl) (by intro L w; simp only [getD_set_ne true (show (11 : Nat) ≠ 14 from by decide)]) (fun _ _ _ h => h) (Or.inl ⟨by rfl, ?y12⟩) ?r12
     case y12 => (intro w' hy; obtain ⟨L, hD, hl, hS⟩ := hy; clear hD hl hS; go_simp; (try with_reducible rfl))
     (try simp only [Act.put, Zz3, Zz4, Zz5, Zz6, Zz7, Zz8])
     refine wpG_take (i := 12) (v := ?v13) rfl (by kernel_rfl) (by intro L w; simp only [getD_set_ne true (show (12 : Nat) ≠ 14 from by decide)]) (fun _ _ _ h => h) (Or.inl ⟨by rfl, ?y13⟩) ?r13
     case y13 => (intro w' hy; obtain ⟨L, hD, hl, hS⟩ := hy; clear hD hl hS; go_simp; (try with_reducible rfl))
     (try simp only [Act.put, Zz3, Zz4, Zz5, Zz6, Zz7, Zz8])
     refine wpG_take (i := 13) (v := ?v14) rfl (by kernel_rfl) (by intro L w; simp only [getD_set_ne true (show (13 : Nat) ≠ 14 from by decide)]) (fun _ _ _ h => h) (Or.inl ⟨by rfl, ?y14⟩) ?r14
     case y14 => (intro w' hy; obtain ⟨L, hD, hl, hS⟩ := hy; clear hD hl hS; go_simp; (try with_reducible rfl))
     (try simp only [Act.put, Zz3, Zz4, Zz5, Zz6, Zz7, Zz8])
     refine wpG_step (i := 14) (by kernel_rfl) rfl (by rfl) ?r15
     intro hS K hK
     (have M0 := hS.1 (by kernel_rfl); clear hS; refine m_stw M0 rfl rfl (by first | exact (rfl : _ = Value.agg _) | exact (rfl : _ = Value.int _ _) | exact (rfl : _ = Value.bool _) | exact (rfl : _ = Value.slice _ _ _) | exact (rfl : _ = Value.pointer _) | exact (rfl : _ = Value.map _) | exact (rfl : _ = Value.func _ _ _) | exact (rfl : _ = Value.string _)) (by rfl) (by (repeat (first | exact Upd.head | apply Upd.tail))) (by (try simp only [Zy2, List.take_zero, List.take_nil, Zy1, List.drop_zero, List.drop_nil, List.cons_append, List.nil_append, List.append_nil, List.length_cons, List.length_nil, Nat.reduceAdd, Nat.zero_add, Nat.add_zero]); rfl) (by simp) (by simp [Value.oneCell']) (by kernel_rfl) ?_; intro V2 M2; refine hK.out _ _ ⟨fun h => (no_of (by kernel_rfl) h).elim, fun _ => ⟨_, u64_wrap _, M2⟩⟩ ?_; clear M0 M2)
     clear hK K; intro W15
     (try simp only [Act.put, Zz3, Zz4, Zz5, Zz6, Zz7, Zz8])
     refine wpG_end (by kernel_rfl) ?_
     intro W
      hS
     obtain ⟨s2, hs2, M⟩ := hS.2 (by kernel_rfl)
     have HS2 := Lib.hid hs2
     clear hS hs2
     obtain ⟨wc, rfl⟩ : ∃ x : World, x = W := ⟨_, rfl⟩
     go_wp2
     refine wp_region_G (fun L W => (L.getD 13 true = false → Mem w noEx W [(g, .cells [.int .u64 s2])]) ∧ (L.getD 13 true = true → ∃ s1, u64ok s1 ∧ Mem w noEx W [(g, .cells [.int .u64 s1])])) 14 (by kernel_rfl) (by kernel_rfl) ?s0b ?r0b
     case s0b => (exact ⟨fun _ => M.drew, fun h => (no_of h (by kernel_rfl)).elim⟩)
     intro W0
     refine wpG_take (i := 0) (v := ?v1b) rfl (by kernel_rfl) (by intro L w; simp only [getD_set_ne true (show (0 : Nat) ≠ 13 from by decide)]) (fun _ _ _ h => h) (Or.inl ⟨by rfl, ?y1b⟩) ?r1b
     case y1b => (intro w' hy; obtain ⟨L, hD, hl, hS⟩ := hy; clear hD hl hS; go_simp; (try with_reducible rfl))
     (try simp only [Act.put, Zz3, Zz4, Zz5, Zz6, Zz7, Zz8])
     refine wpG_take (i := 1) (v := ?v2b) rfl (by kernel_rfl) (by intro L w; simp only [getD_set_ne true (show (1 : Nat) ≠ 13 from by decide)]) (fun _ _ _ h => h) (Or.inl ⟨by rfl, ?y2b⟩) ?r2b
     case y2b => (intro w' hy; obtain ⟨L, hD, hl, hS⟩ := hy; clear hD hl hS; go_simp; (try with_reducible rfl))
     (try simp only [Act.put, Zz3, Zz4, Zz5, Zz6, Zz7, Zz8])
     refine wpG_take (i := 2) (v := ?v3b) rfl (by kernel_rfl) (by intro L w; simp only [getD_set_ne true (show (2 : Nat) ≠ 13 from by decide)]) (fun _ _ _ h => h) (Or.inl ⟨by rfl, ?y3b⟩) ?r3b
     case y3b => (intro w' hy; obtain ⟨L, hD, hl, hS⟩ := hy; clear hD hl hS; go_simp; (try with_reducible rfl))
     (try simp only [Act.put, Zz3, Zz4, Zz5, Zz6, Zz7, Zz8])
     refine wpG_take (i := 3) (v := ?v4b) rfl (by kernel_rfl) (by intro L w; simp only [getD_set_ne true (show (3 : Nat) ≠ 13 from by decide)]) (fun _ _ _ h => h) (Or.inl ⟨by rfl, ?y4b⟩) ?r4b
     case y4b => (intro w' hy; obtain ⟨L, hD, hl, hS⟩ := hy; clear hD hl hS; go_simp; (try with_reducible rfl))
     (try simp only [Act.put, Zz3, Zz4, Zz5, Zz6, Zz7, Zz8])
     refine wpG_take (i := 4) (v := ?v5b) rfl (by kernel_rfl) (by intro L w; simp only [getD_set_ne true (show (4 : Nat) ≠ 13 from by decide)]) (fun _ _ _ h => h) (Or.inl ⟨by rfl, ?y5b⟩) ?r5b
     case y5b => (intro w' hy; obtain ⟨L, hD, hl, hS⟩ := hy; have M0 := hS.1 (hD.wait (by kernel_rfl) hl); clear hS; first | (refine Eq.trans (Zro (Mem.get M0 (by (repeat' (first | exact Zz2 | refine Zz1 ?_)))) rfl rfl (by rfl)) ?_; with_reducible rfl) | (refine Eq.trans (rn_row (Mem.get M0 (by (repeat' (first | exact Zz2 | refine Zz1 ?_)))) rfl rfl (by (try simp only [Zy2, List.take_zero, List.take_nil, Zy1, List.drop_zero, List.drop_nil, List.cons_append, List.nil_append, List.append_nil, List.length_cons, List.length_nil, Nat.reduceAdd, Nat.zero_add, Nat.add_zero]); rfl) (by rfl)) ?_; with_reducible rfl); (try with_reducible rfl))
     (try simp only [Act.put, Zz3, Zz4, Zz5, Zz6, Zz7, Zz8])
     refine wpG_take (i := 5) (v := ?v6b) rfl (by kernel_rfl) (by intro L w; simp only [getD_set_ne true (show (5 : Nat) ≠ 13 from by decide)]) (fun _ _ _ h => h) (Or.inl ⟨by rfl, ?y6b⟩) ?r6b
     case y6b => (intro w' hy; obtain ⟨L, hD, hl, hS⟩ := hy; clear hD hl hS; go_simp; (try with_reducible rfl))
     (try simp only [Act.put, Zz3, Zz4, Zz5, Zz6, Zz7, Zz8])
     refine wpG_take (i := 6) (v := ?v7b) rfl (by kernel_rfl) (by intro L w; simp only [getD_set_ne true (show (6 : Nat) ≠ 13 from by decide)]) (fun _ _ _ h => h) (Or.inl ⟨by rfl, ?y7b⟩) ?r7b
     case y7b => (intro w' hy; obtain ⟨L, hD, hl, hS⟩ := hy; clear hD hl hS; go_simp; (try with_reducible rfl))
     (try simp only [Act.put, Zz3, Zz4, Zz5, Zz6, Zz7, Zz8])
     refine wpG_take (i := 7) (v := ?v8b) rfl (by kernel_rfl) (by intro L w; simp only [getD_set_ne true (show (7 : Nat) ≠ 13 from by decide)]) (fun _ _ _ h => h) (Or.inl ⟨by rfl, ?y8b⟩) ?r8b
     case y8b => (intro w' hy; obtain ⟨L, hD, hl, hS⟩ := hy; clear hD hl hS; go_simp; (try with_reducible rfl))
     (try simp only [Act.put, Zz3, Zz4, Zz5, Zz6, Zz7, Zz8])
     refine wpG_take (i := 8) (v := ?v9b) rfl (by kernel_rfl) (by intro L w; simp only [getD_set_ne true (show (8 : Nat) ≠ 13 from by decide)]) (fun _ _ _ h => h) (Or.inl ⟨by rfl, ?y9b⟩) ?r9b
     case y9b => (intro w' hy; obtain ⟨L, hD, hl, hS⟩ := hy; have M0 := hS.1 (hD.wait (by kernel_rfl) hl); clear hS; first | (refine Eq.trans (Zro (Mem.get M0 (by (repeat' (first | exact Zz2 | refine Zz1 ?_)))) rfl rfl (by rfl)) ?_; with_reducible rfl) | (refine Eq.trans (rn_row (Mem.get M0 (by (repeat' (first | exact Zz2 | refine Zz1 ?_)))) rfl rfl (by (try simp only [Zy2, List.take_zero, List.take_nil, Zy1, List.drop_zero, List.drop_nil, List.cons_append, List.nil_append, List.append_nil, List.length_cons, List.length_nil, Nat.reduceAdd, Nat.zero_add, Nat.add_zero]); rfl) (by rfl)) ?_; with_reducible rfl); (try with_reducible rfl))
     (try simp only [Act.put, Zz3, Zz4, Zz5, Zz6, Zz7, Zz8])
     refine wpG_take (i := 9) (v := ?v10b) rfl (by kernel_rfl) (by intro L w; simp only [getD_set_ne true (show (9 : Nat) ≠ 13 from by decide)]) (fun _ _ _ h => h) (Or.inl ⟨by rfl, ?y10b⟩) ?r10b
     case y10b => (intro w' hy; obtain ⟨L, hD, hl, hS⟩ := hy; clear hD hl hS; go_simp; (try with_reducible rfl))
     (try simp only [Act.put, Zz3, Zz4, Zz5, Zz6, Zz7, Zz8])
     refine wpG_take (i := 10) (v := ?v11b) rfl (by kernel_rfl) (by intro L w; simp only [getD_set_ne true (show (10 : Nat) ≠ 13 from by decide)]) (fun _ _ _ h => h) (Or.inl ⟨by rfl, ?y11b⟩) ?r11b
     case y11b => (intro w' hy; obtain ⟨L, hD, hl, hS⟩ := hy; clear hD hl hS; go_simp; (try with_reducible rfl))
     (try simp only [Act.put, Zz3, Zz4, Zz5, Zz6, Zz7, Zz8])
     refine wpG_take (i := 11) (v := ?v12b) rfl (by kernel_rfl) (by intro L w; simp only [getD_set_ne true (show (11 : Nat) ≠ 13 from by decide)]) (fun _ _ _ h => h) (Or.inl ⟨by rfl, ?y12b⟩) ?r12b
     case y12b => (intro w' hy; obtain ⟨L, hD, hl, hS⟩ := hy; clear hD hl hS; go_simp; (try with_reducible rfl))
     (try simp only [Act.put, Zz3, Zz4, Zz5, Zz6, Zz7, Zz8])
     refine wpG_take (i := 12) (v := ?v13b) rfl (by kernel_rfl) (by intro L w; simp only [getD_set_ne true (show (12 : Nat) ≠ 13 from by decide)]) (fun _ _ _ h => h) (Or.inl ⟨by rfl, ?y13b⟩) ?r13b
     case y13b => (intro w' hy; obtain ⟨L, hD, hl, hS⟩ := hy; clear hD hl hS; go_simp; (try with_reducible rfl))
     (try simp only [Act.put, Zz3, Zz4, Zz5, Zz6, Zz7, Zz8])
     refine wpG_step (i := 13) (by kernel_rfl) rfl (by rfl) ?r14b
     intro hS K hK
     (have M0 := hS.1 (by kernel_rfl); clear hS; refine m_stw M0 rfl rfl (by first | exact (rfl : _ = Value.agg _) | exact (rfl : _ = Value.int _ _) | exact (rfl : _ = Value.bool _) | exact (rfl : _ = Value.slice _ _ _) | exact (rfl : _ = Value.pointer _) | exact (rfl : _ = Value.map _) | exact (rfl : _ = Value.func _ _ _) | exact (rfl : _ = Value.string _)) (by rfl) (by (repeat (first | exact Upd.head | apply Upd.tail))) (by (try simp only [Zy2, List.take_zero, List.take_nil, Zy1, List.drop_zero, List.drop_nil, List.cons_append, List.nil_append, List.append_nil, List.length_cons, List.length_nil, Nat.reduceAdd, Nat.zero_add, Nat.add_zero]); rfl) (by simp) (by simp [Value.oneCell']) (by kernel_rfl) ?_; intro V2 M2; refine hK.out _ _ ⟨fun h => (no_of (by kernel_rfl) h).elim, fun _ => ⟨_, u64_bits _ _, M2⟩⟩ ?_; clear M0 M2)
     clear hK K; intro W14
     (try simp only [Act.put, Zz3, Zz4, Zz5, Zz6, Zz7, Zz8])
     refine wpG_end (by kernel_rfl) ?_
     intro W
      hS
     obtain ⟨s3, hs3, M⟩ := hS.2 (by kernel_rfl)
     have HS3 := Lib.hid hs3
     clear hS hs3
     go_wp2
     go_roundw
     case rel => exact ⟨k + 1, s3, by omega, by go_num, HS3, M⟩
     case measure => simp [intOf]; omega
   · go_wp2_with (first | (refine m_ld1 M rfl rfl rfl (by (repeat' (first | exact Zz2 | refine Zz1 ?_))) (by rfl) ?_) | (refine m_ldr M rfl rfl rfl (by (repeat' (first | exact Zz2 | refine Zz1 ?_))) (by (try simp only [Zy2, List.take_zero, List.take_nil, Zy1, List.drop_zero, List.drop_nil, List.cons_append, List.nil_append, List.append_nil, List.length_cons, List.length_nil, Nat.reduceAdd, Nat.zero_add, Nat.add_zero]); rfl) (by rfl) ?_) | (refine m_st M rfl rfl rfl (by first | exact (rfl : _ = Value.agg _) | exact (rfl : _ = Value.int _ _) | exact (rfl : _ = Value.bool _) | exact (rfl : _ = Value.slice _ _ _) | exact (rfl : _ = Value.pointer _) | exact (rfl : _ = Value.map _) | exact (rfl : _ = Value.func _ _ _) | exact (rfl : _ = Value.string _)) (by rfl) (by (repeat (first | exact Upd.head | apply Upd.tail))) (by (try simp only [Zy2, List.take_zero, List.take_nil, Zy1, List.drop_zero, List.drop_nil, List.cons_append, List.nil_append, List.append_nil, List.length_cons, List.length_nil, Nat.reduceAdd, Nat.zero_add, Nat.add_zero]); rfl) (by simp) (by simp [Value.oneCell']) (by kernel_rfl) ?_; clear M; (try clear wc); intro wc M) | (refine m_al M rfl rfl ?_; clear M; (try clear wc); intro g wc M) | (refine m_bx M rfl rfl (by first | exact (rfl : _ = Value.agg _) | exact (rfl : _ = Value.int _ _) | exact (rfl : _ = Value.bool _) | exact (rfl : _ = Value.slice _ _ _) | exact (rfl : _ = Value.pointer _) | exact (rfl : _ = Value.map _) | exact (rfl : _ = Value.func _ _ _) | exact (rfl : _ = Value.string _)) (by rfl) ?_; clear M; (try clear wc); intro g wc M))
     go_ret
     exact ⟨g, s, hs.out, rfl, M⟩
open Go.RowKit
open Go.RowKit
open Go.RowKit
open Go.RowKit
open Go.RowKit
section
variable {w wr w5 w6 : World} {T k m : Nat} {v5 v6 : Value} {xs ys : List Value} {z m3 cx : Array Value} {H : Nat} {Y Z : Obj}
end
open Go.RowKit
open Go.RowKit
open Go.RowKit
theorem Mem.nee {w0 w : World} {ex : Nat → Prop} {L : List (Nat × BA)} {g g' : Nat} {p p' : BA} (M : Mem w0 ex w L) (i j : Nat) (h1 : nthE L i = some (g, p)) (h2 : nthE L j = some (g', p')) (hij : Nat.beq i j = false) : ∀ b o, (some ⟨g, 0, none⟩ : Option Addr) = some ⟨b, o, none⟩ → b ≠ g' := by
 intro b o e hb
 injection e with e
 injection e with e _ _
 subst e
 subst hb
 have b1 : (L.map (·.1))[i]? = some g := by rw [List.getElem?_map, nthE_get h1]; rfl
 have b2 : (L.map (·.1))[j]? = some g := by rw [List.getElem?_map, nthE_get h2]; rfl
 have := (List.getElem?_inj (List.getElem?_eq_some_iff.1 b1).1 M.nd).1 (b1.trans b2.symm)
 subst this
 simp at hij
theorem Sp.oldEx {w : World} {size n bp : Nat} {A : Option Addr} {xs : List Value} (h : Rd w w.heap.size size A n xs) (hne : ∀ b o, A = some ⟨b, o, none⟩ → b ≠ bp) : ∃ b o, Sp w (fun b => b = bp) [] A n size b o xs := by
 rcases Nat.eq_zero_or_pos n with rfl | hn
 ·refine ⟨0, 0, by omega, h.1, fun _ _ _ _ h => absurd h (by omega), fun _ _ _ _ j u hu => ?_⟩
  have : xs = [] := List.eq_nil_of_length_eq_zero (by have := h.1; omega)
  simp [this] at hu
 ·obtain ⟨b, o, h1, h2, h3⟩ := h.2 hn
  exact ⟨b, o, fun _ => h1, h.1, fun w' L M _ _ => Nat.lt_of_lt_of_le h2 M.size, fun w' L M _ j u hu => (World.cell?_of_block (w := w) (a := ⟨b, o + j, none⟩) (M.block b h2 (hne b o h1))).trans (h3 j u hu)⟩
theorem ow_app {P : Program} {op : Oper} {a : Act} {K : Act → World → Prop} {Q : Exit → Act → World → Prop} {s x : Operand} {ty e size bytes b c m nn t' : Nat} {z : Value} {cs xs : List Value} {v : Value} {w0 w : World} {ex : Nat → Prop} {L0 I : List (Nat × BA)} {E : List (Nat × Value)} (L1 : List (Nat × BA))
   (hinfo : (P.info? e).map (fun i => (i.zero, i.size, i.bytes)) = some (some z, size, bytes)) (hS : Sl e size v m xs I) (M : Mem w0 ex w L0) (hsp : L0 = L1 ++ I) (T : Tm a nn E)
   (ho : op.op = .call { callee := .builtin .append, args := #[s, x], argTypes := #[ty, ty] }) (hd : op.dst = some t') (hf : freshE E t' = true) (hnn : Nat.blt t' nn = true)
   (ht : P.underlying ty = some (.slice e)) (hzs : z.cells.size = size) (hsz : Nat.blt 0 size = true) (hby : Nat.ble bytes 1000 = true) (hm : m ≤ 1000000)
   (hs : a.eval s = v) (hx : a.eval x = .slice (some ⟨b, 0, none⟩) 1 c) (hmem : (b, BA.cells cs) ∈ L1) (hl : cs.length = size) (h1 : cs.all (·.oneCell') = true)
   (h : ∀ g cap w' a', Mem w0 ex w' ((g, .row e size (m + 1) (xs ++ cs) cap) :: L1) → Tm a' nn ((t', .slice (some ⟨g, 0, none⟩) (m + 1) cap) :: E) → K a' w') : op.wp P a w K Q := by
 subst hsp
 exact app_wp ht hinfo hzs (Nat.le_of_ble_eq_true hsz) (Nat.le_of_ble_eq_true hby) (Mem.swapI (I := L1) (L := I) M) hS hm ho hs hx hmem hl h1 fun g cap w' M' => h g cap w' _ M' (by rw [hd]; exact T.put hnn hf _)
theorem of_any (s : Int) (bp : Nat) (A : Option Addr) (n c : Nat) (l : List Int) (w : World) (hl : Rd w w.heap.size 1 A n (ic l)) (hne : ∀ b o, A = some ⟨b, o, none⟩ → b ≠ bp) (hn0 : 0 < n) (hn : n ≤ 1000) (hp : Bk w bp #[.int .u64 s]) (hs : u64ok s) :
   Calls Tryz.prog 97 #[.pointer (some ⟨bp, 0, none⟩), .slice A n c] w (PotPost bp (fun x => x ∈ l) .i64 w) := by
 have hll := hl.len1
 obtain ⟨bI, oI, SI⟩ := Sp.oldEx hl hne
 refine Zpx (fun b => b = bp) Tryz.func97 rfl 16 rfl [.pointer (some ⟨bp, 0, none⟩), .slice A n c] rfl rfl (Mem.initEx (p := .cells [.int .u64 s]) hp) ?_
 intro ac wc T M
 refine Zsr ?_
 refine lq T (Zra rfl evc) ?_; clear T ac; intro ac T
 replace T := T.pick [1, 2] rfl
 refine Zln ?_
 refine wp_seq ?_
 refine Zsr ?_
 refine Zg3 T (Zq (Zrm rfl (T.e 1 rfl))) rfl (Zl Tryz.underlying31 0 rfl rfl) rfl (fun _ T => Zq (rn_eql rfl (T.e 0 rfl) evc)) rfl ?_; clear T ac; intro ac T
 replace T := T.pick [0, 3, 4] rfl
 refine Zln ?_
 refine wp_if (T.e 0 rfl) ?_ ?_
 ·intro h1
  refine Zsr ?_
  refine lq T (Zra rfl evc) ?_; clear T ac; intro ac T
  replace T := T.pick [0] rfl
  refine Zln ?_
  refine wp_ret ?_
  refine Zrt ?_
  refine rt_1 T rfl (T.e 0 rfl) ?_
  exfalso
  omega
 intro h1
 refine Zsk ?_
 refine Zsr ?_
 refine Zg5 T (Zq (Zrm rfl (T.e 2 rfl))) rfl (Zm 2 rfl rfl) rfl (Zm 4 rfl rfl) rfl (Zl Tryz.underlying31 0 rfl rfl) rfl (fun _ T => Zq (rn_sub rfl (T.e 0 rfl) evc (by omega))) rfl ?_; clear T ac; intro ac T
 refine Zl2 ?_
 refine Zoc (first := []) (cap := []) T rfl rfl rfl rfl evf (.cons (T.e 3 rfl) (.cons (T.e 0 rfl) .nil)) Tryz.func35 rfl rfl ?_
 refine Calls.mono (upto_any _ bp (((n : Nat) : Int) - 1) _ (by omega) (by omega) (M.nth 0 rfl) hs) ?_
 clear T; rintro e wc ⟨xu1, su1, hxu1, hsu1, rfl, hgr, hbk⟩ ac T
 replace M := M.callC (cs' := [.int .u64 su1]) .head hgr hbk
 clear hgr hbk
 obtain ⟨ku1, hku1⟩ : ∃ k : Nat, xu1 = (k : Int) := ⟨xu1.toNat, by omega⟩
 obtain ⟨y, hk1, -⟩ := ic_next (l := l) (k := ku1) (by omega)
 refine Zg3 T (Zq (Zri (size := 1) ku1 rfl (T.e 5 rfl) (T.e 0 rfl) ⟨_, Tryz.underlying31, by kernel_rfl⟩ hku1 (by omega) (SI.at0 (by omega)))) rfl (fun _ T => Zq (rn_cell (Sp.ic0 SI M (Zz9 _) hk1) rfl (T.e 0 rfl))) rfl (Za 0 rfl rfl) rfl ?_; clear T ac; intro ac T
 replace T := T.pick [0] rfl
 refine Zln ?_
 refine wp_ret ?_
 refine rt_1 T rfl (T.e 0 rfl) ?_
 exact ⟨_, _, List.mem_of_getElem? hk1, hsu1, rfl, M.grown, M.nth 0 rfl⟩
theorem Tryz.info3 : (Tryz.prog.info? 3).map (fun i => (i.zero, i.size, i.bytes)) = some (some (.int .i64 0), 1, 8) := by kernel_rfl
def Sm (e size : Nat) (A : Option Addr) (n c : Nat) (xs : List Value) (I : List (Nat × BA)) : Prop :=
 (n = 0 ∧ xs = [] ∧ c = 0 ∧ ∃ g, A = some ⟨g, 0, none⟩ ∧ I = [(g, .any fun o => o = .cells #[] e)]) ∨ ∃ g, A = some ⟨g, 0, none⟩ ∧ I = [(g, .row e size n xs c)]
theorem ow_appM {P : Program} {op : Oper} {a : Act} {K : Act → World → Prop} {Q : Exit → Act → World → Prop} {s x : Operand} {ty e size bytes b c d m nn t' : Nat} {A : Option Addr} {z : Value} {cs xs : List Value} {w0 w : World} {ex : Nat → Prop} {L0 I : List (Nat × BA)} {E : List (Nat × Value)} (L1 : List (Nat × BA))
   (hinfo : (P.info? e).map (fun i => (i.zero, i.size, i.bytes)) = some (some z, size, bytes)) (hS : Sm e size A m d xs I) (M : Mem w0 ex w L0) (hsp : L0 = L1 ++ I) (T : Tm a nn E)
   (ho : op.op = .call { callee := .builtin .append, args := #[s, x], argTypes := #[ty, ty] }) (hd : op.dst = some t') (hf : freshE E t' = true) (hnn : Nat.blt t' nn = true)
   (ht : P.underlying ty = some (.slice e)) (hzs : z.cells.size = size) (hsz : Nat.blt 0 size = true) (hby : Nat.ble bytes 1000 = true) (hm : m ≤ 1000000)
   (hs : a.eval s = .slice A m d) (hx : a.eval x = .slice (some ⟨b, 0, none⟩) 1 c) (hmem : (b, BA.cells cs) ∈ L1) (hl : cs.length = size) (h1 : cs.all (·.oneCell') = true)
   (h : ∀ g cap w' a', Mem w0 ex w' ((g, .row e size (m + 1) (xs ++ cs) cap) :: L1) → Tm a' nn ((t', .slice (some ⟨g, 0, none⟩) (m + 1) cap) :: E) → K a' w') : op.wp P a w K Q := by
 rcases hS with ⟨rfl, rfl, rfl, g, rfl, rfl⟩ | ⟨g, rfl, rfl⟩
 · subst hsp
   obtain ⟨i, hi, hz0, hz1, hz2⟩ := info_parts hinfo
   have hsz := Nat.le_of_ble_eq_true hsz
   have hby := Nat.le_of_ble_eq_true hby
   have hbb : (0 + 1) * bytes ≤ 140737488355328 := by omega
   have hB := M.get (List.mem_append_left [(g, BA.any fun o => o = .cells #[] e)] hmem)
   obtain ⟨o, hge, rfl⟩ := (M.blk (g, BA.any fun o => o = .cells #[] e) (List.mem_append_right _ Zz2)).2
   have hgl : g < w.heap.size := (Array.getElem?_eq_some_iff.1 hge).1
   refine wp_append_lies w s x ty ho g e i z size bytes ht hi hz0 hz1 hz2 hzs hsz (.slice (some ⟨g, 0, none⟩) 0 0) 0 [] hs ⟨by simp, .inr ⟨g, 0, #[], rfl, Nat.le_refl _, hge, by omega, by unfold maxLen; omega, by simp, by simp⟩⟩ ⟨b, 0, none⟩ 1 c cs hx (by omega) (fun j u hu => by rw [Addr.add_mid, hB.cell, Nat.zero_add]; simpa using hu) (fun u hu => (List.all_eq_true.1 h1) u hu) (by omega) (by unfold maxLen; omega) hbb (Nat.le_of_lt hgl) w.heap.size rfl ?_
   intro g' cap w' hown hgr hat hlt
   have hgr : w.grownBy w' (some g) := hgr
   simp only [Nat.zero_add, List.nil_append] at hown
   have e0 : a.put op.dst (.slice (some ⟨g', 0, none⟩) (0 + 1) cap) = a.put op.dst (.slice (some ⟨g', 0, none⟩) (0 + 1) cap) := rfl
   refine h g' cap w' _ ?_ (by rw [hd]; exact T.put hnn hf _)
   have Ms := Mem.swapI (I := L1) (L := [(g, BA.any fun o => o = .cells #[] e)]) M
   have hg0 : g < w'.heap.size := Nat.lt_of_lt_of_le hgl hgr.size
   rcases hat with h2 | h2
   · have h2 : some g = some g' := h2
     injection h2 with h2
     subst h2
     exact Ms.callW (L' := (g, .row e size (0 + 1) ([] ++ cs) cap) :: L1) .head hgr (own_rebase hown (by omega))
   · have M1 := Ms.callW (L' := (g, .any (fun _ => True)) :: L1) .head hgr ⟨w'.heap[g], Array.getElem?_eq_getElem hg0, trivial⟩
     exact M1.forget.add (by rw [h2]; exact M.size) (own_rebase hown (by omega)) (fun q hq e => by have := BA.lt (Ms.blk q (Zz1 hq)).2; omega)
 · exact ow_app L1 hinfo (.inr ⟨g, d, rfl, rfl⟩) M hsp T ho hd hf hnn ht hzs hsz hby hm hs hx hmem hl h1 h
open Go.RowKit
end Go.Proofs.YtaikhendogcflaaGreatDoor


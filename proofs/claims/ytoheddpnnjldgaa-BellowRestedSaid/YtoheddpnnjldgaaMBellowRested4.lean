/-
  Walks of functions, and plain laws (texts put together). No condition.
-/
import Derived.Test.YtoheddpnnjldgaaMBellowRested1
import Derived.Test.YtoheddpnnjldgaaMBellowRested2
import Derived.Test.YtoheddpnnjldgaaMBellowRested3
set_option maxRecDepth 100000
set_option maxHeartbeats 1000000
set_option linter.unusedSimpArgs false
set_option linter.unusedVariables false
set_option linter.unusedSectionVars false
namespace Go.Proofs.Ytoheddpnnjldgaa
open Go.RowKit
section
open Go.RowKit Go.Shelf
def KpB (l : Nat) (eb : Nat → Prop) (W W' : World) : Prop := Mem W (fun b => b = l ∨ eb b) W' []
theorem KpB.mem {l : Nat} {eb ex : Nat → Prop} {w0 W W' : World} {L : List (Nat × BA)} (h : KpB l eb W W') (M : Mem w0 ex W L) (hl : ∀ p ∈ L, p.1 ≠ l ∧ ¬ eb p.1) (hx : ∀ b, b = l ∨ eb b → ex b ∨ w0.heap.size ≤ b) : Mem w0 ex W' L :=
 ⟨h.os.trans M.os, h.tape.trans M.tape, h.output.trans M.output, Nat.le_trans M.size h.size,
  fun b hb he => (h.block b (Nat.lt_of_lt_of_le hb M.size) (fun hh => by rcases hx b hh with h | h; exact he h; omega)).trans (M.block b hb he),
  fun p hp => ⟨(M.blk p hp).1, BA.same (M.blk p hp).2 h.size (h.block _ (BA.lt (M.blk p hp).2) (fun hh => by obtain ⟨h1, h2⟩ := hl p hp; rcases hh with h | h; exact h1 h; exact h2 h))⟩, M.nd⟩
def KpN (B : Nat) (W W' : World) : Prop := W'.os = W.os ∧ W'.tape = W.tape ∧ W'.output = W.output ∧ W.heap.size ≤ W'.heap.size ∧ ∀ b o, W.heap[b]? = some o → (b < B ∨ o.isCells = true) → W'.heap[b]? = some o
theorem KpN.of_below {B : Nat} {W W' : World} (h : Below W.heap.size W W') : KpN B W W' := ⟨h.os, h.tape, h.output, h.size, fun b o ho _ => (h.block b (Array.getElem?_eq_some_iff.1 ho).1).trans ho⟩
theorem KpN.put {B l : Nat} {W : World} {o : Obj} (hl : B ≤ l) (h : W.heap[l]? = some o) (hc : o.isCells = false) (o' : Obj) : KpN B W (W.putObj l o') :=
 ⟨rfl, rfl, rfl, by simp, fun b o1 ho1 hc1 => (World.putObj_heap_other (fun e => by
  subst e
  rw [h] at ho1
  injection ho1 with ho1
  subst ho1
  rcases hc1 with h1 | h1
  ·omega
  ·rw [hc] at h1; cases h1)).trans ho1⟩
theorem KpN.t {B : Nat} {X Y Z : World} (h : KpN B X Y) (k : KpN B Y Z) : KpN B X Z :=
 ⟨k.1.trans h.1, k.2.1.trans h.2.1, k.2.2.1.trans h.2.2.1, Nat.le_trans h.2.2.2.1 k.2.2.2.1, fun b o ho hc => k.2.2.2.2 b o (h.2.2.2.2 b o ho hc) hc⟩
theorem KpN.mono {B B' : Nat} {W W' : World} (h : KpN B W W') (hB : B' ≤ B) : KpN B' W W' :=
 ⟨h.1, h.2.1, h.2.2.1, h.2.2.2.1, fun b o ho hc => h.2.2.2.2 b o ho (hc.imp (fun h => Nat.lt_of_lt_of_le h hB) id)⟩
theorem KpN.cell {B : Nat} {W W' : World} (h : KpN B W W') {a : Addr} {v : Value} (hc : W.cell? a = some v) : W'.cell? a = some v := by
 obtain ⟨ob, h1, h2⟩ := cell_isC hc
 rw [World.cell?_of_block (w := W) (a := a) ((h.2.2.2.2 a.block ob h1 (.inr h2)).trans h1.symm)]
 exact hc
theorem KpN.bk {B : Nat} {W W' : World} (h : KpN B W W') {g : Nat} {c : Value} {cs : List Value} (hB : Bk W g (c :: cs).toArray) : Bk W' g (c :: cs).toArray := by
 have hc := hB.cell 0
 obtain ⟨ob, h1, h2⟩ := cell_isC (a := ⟨g, 0, none⟩) (v := c) (by simpa using hc)
 have e := (h.2.2.2.2 g ob h1 (.inr h2)).trans h1.symm
 exact ⟨Nat.lt_of_lt_of_le hB.lt h.2.2.2.1, fun o => (World.cell?_of_block (w := W) (a := ⟨g, o, none⟩) e).trans (hB.cell o), fun o => (World.frozen?_of_block (w := W) (a := ⟨g, o, none⟩) e).trans (hB.frozen o)⟩
theorem KpN.rd {B n size k : Nat} {W W' : World} {A : Option Addr} {xs : List Value} (h : KpN B W W') (hr : Rd W n size A k xs) : Rd W' n size A k xs :=
 ⟨hr.1, fun hn => by
  obtain ⟨b, o, h1, h2, h3⟩ := hr.2 hn
  exact ⟨b, o, h1, h2, fun j u hu => h.cell (h3 j u hu)⟩⟩
theorem KpN.rdS {B size k : Nat} {W W' : World} {A : Option Addr} {xs : List Value} (h : KpN B W W') (hr : Rd W W.heap.size size A k xs) : Rd W' W'.heap.size size A k xs := (h.rd hr).more h.2.2.2.1
theorem Mem.kpN {B : Nat} {w0 W W' : World} {ex : Nat → Prop} {L : List (Nat × BA)} (M : Mem w0 ex W L) (h : KpN B W W') (hw : w0.heap.size ≤ B) (hL : farOk B L) : Mem w0 ex W' L := by
 have same : ∀ b o, W.heap[b]? = some o → (b < B ∨ o.isCells = true) → W'.heap[b]? = W.heap[b]? := fun b o ho hc => (h.2.2.2.2 b o ho hc).trans ho.symm
 refine ⟨h.1.trans M.os, h.2.1.trans M.tape, h.2.2.1.trans M.output, Nat.le_trans M.size h.2.2.2.1, fun b hb he => ?_, fun p hp => ⟨(M.blk p hp).1, ?_⟩, M.nd⟩
 ·have hlt : b < W.heap.size := Nat.lt_of_lt_of_le hb M.size
  exact (same b _ (Array.getElem?_eq_getElem hlt) (.inl (by omega))).trans (M.block b hb he)
 ·have hp2 := (M.blk p hp).2
  have hlt := BA.lt hp2
  have ho : W.heap[p.1]? = some W.heap[p.1] := Array.getElem?_eq_getElem hlt
  exact BA.same hp2 h.2.2.2.1 (same _ _ ho ((hL p hp).imp id fun hc => BA.isC_cells hp2 hc ho))
def Calm {β : Type} (B : Nat) (J : β → World → Prop) : Prop := ∀ s W W', J s W → KpN B W W' → J s W'
def SeqB {α : Type} (P : Program) (gf : Nat) (lb : Array Value) (encs : α → Array Value) (eb : Nat → Prop) (Ox : α → World → Prop) (S Sp : List α → Prop) (w : World) : Prop :=
 ∀ (l : Nat) (J Jx : List α → World → Prop) (W : World), Below w.heap.size w W → w.heap.size ≤ l → l < W.heap.size → Calm W.heap.size J → Calm W.heap.size Jx →
  (∀ pre x W1, J pre W1 → Ox x W1 → YieldAt Fence.wide 6 P l (encs x) W1 fun e W' =>
   (e = .returned (.bool true) ∧ J (pre ++ [x]) W' ∧ KpB l eb W1 W') ∨ (e = .returned (.bool false) ∧ Jx (pre ++ [x]) W' ∧ KpB l eb W1 W')) →
  J [] W →
  Calls P gf (#[.func (.yield l) #[] #[]] ++ lb) W fun e W' => (∃ v, e = .returned v) ∧ ((∃ xs, S xs ∧ J xs W') ∨ (∃ pre, Sp pre ∧ Jx pre W'))
def rPostB {α : Type} (W : World) (exb : Nat → Prop) (J : List α → List (Nat × BA) → World → Prop) (Jx : Code → List α → List (Nat × BA) → World → Prop) (xs : List α) : Exit → Act → World → Prop
 | .normal, _, W' => ∃ L, J xs L W' ∧ Mem W exb W' L
 | .ret, _, W' => ∃ L, Jx .ret xs L W' ∧ Mem W exb W' L
 | .exit id, _, W' => ∃ L, Jx (.exit id) xs L W' ∧ Mem W exb W' L
 | _, _, _ => False
section
variable {α : Type} {W : World} {exb : Nat → Prop} {J : List α → List (Nat × BA) → World → Prop} {Jx : Code → List α → List (Nat × BA) → World → Prop} {xs : List α} {a : Act} {w : World} {L : List (Nat × BA)}
theorem rb_nm (h : J xs L w) (M : Mem W exb w L) : rPostB W exb J Jx xs .normal a w := ⟨L, h, M⟩
theorem rb_ret (h : Jx .ret xs L w) (M : Mem W exb w L) : rPostB W exb J Jx xs .ret a w := ⟨L, h, M⟩
end
theorem Mem.backE {w0 w : World} {ex eb : Nat → Prop} {L L' : List (Nat × BA)} {w' : World} (M : Mem w0 ex w L) (M' : Mem w eb w' L') (he : ∀ b, eb b → ex b ∨ w0.heap.size ≤ b) : Mem w0 ex w' L' :=
 ⟨M'.os.trans M.os, M'.tape.trans M.tape, M'.output.trans M.output, Nat.le_trans M.size M'.size,
  fun b hb hx => (M'.block b (Nat.lt_of_lt_of_le hb M.size) (fun h => by rcases he b h with h | h; exact hx h; omega)).trans (M.block b hb hx),
  fun p hp => ⟨by
   rcases (M'.blk p hp).1 with h | h
   ·exact .inl (Nat.le_trans M.size h)
   ·exact (he _ h).symm, (M'.blk p hp).2⟩, M'.nd⟩
section
variable {P : Program} {df : List Deferred} {a : Act} {w0 w : World} {ex : Nat → Prop} {n : Nat} {E : List (Nat × Value)}
theorem px_rangeB {α γ : Type} {g : Operand} {ps : Array Tmp} {assign body : Code} {Q : Exit → Act → World → Prop} (T : TmD df a n E)
  {gf : Nat} {lb : Array Value} (hg : a.eval g = .func (.func gf) #[] lb) (eg : ∀ args w, (callFunc gf args).run P w = .ok (.enter gf args) w)
  {encs : α → Array Value} {Ox : α → World → Prop} {S Sp : List α → Prop} (eb : Nat → Prop) (hseq : SeqB P gf lb encs eb Ox S Sp w) (hps : ∀ x, (encs x).size = ps.size)
  (J : List α → List (Nat × BA) → World → Prop) (Jx : Code → List α → List (Nat × BA) → World → Prop)
  (EP : α → List (Nat × Value)) (EA : α → γ → List (Nat × Value)) (LB : α → γ → List (Nat × BA))
  (hf : ∀ pre L W, J pre L W → ∀ p ∈ L, p.1 < w.heap.size) (hfx : ∀ c pre L W, Jx c pre L W → ∀ p ∈ L, p.1 < w.heap.size)
  (heb : ∀ pre L W, J pre L W → ∀ p ∈ L, eb p.1)
  (hebl : ∀ b, eb b → b < w.heap.size) (hebx : ∀ b, eb b → ex b ∨ w0.heap.size ≤ b) (hOx : Calm w.heap.size Ox)
  (hJ : ∀ pre L W W', J pre L W → KpN w.heap.size W W' → J pre L W') (hJx : ∀ c pre L W W', Jx c pre L W → KpN w.heap.size W W' → Jx c pre L W')
  {L0 : List (Nat × BA)} (M : Mem w0 ex w L0) (hJ0 : J [] L0 w)
  (hEP : ∀ x, TmD [] { tmps := (ps.zip (encs x)).foldl (fun t (p, v) => t.setIfInBounds p v) a.tmps, defers := [] } n (EP x))
  (hLB : ∀ x c, ∀ p ∈ LB x c, p.2.isC = true)
  (hass : ∀ (l : Nat) (x : α) (W : World) (K : Act → World → Prop) (a1 : Act), TmD [] a1 n (EP x) → (∀ c a' W', TmD [] a' n (EA x c) → Mem W noEx W' (LB x c) → K a' W') → assign.wpIn (FW l) 6 P (Exit.then K (fun _ _ _ => False)) a1 W)
  (hbody : ∀ (l : Nat) (pre : List α) (x : α) (c : γ) (L : List (Nat × BA)) (a' : Act) (W : World), J pre L W → Ox x W → w.heap.size ≤ W.heap.size → w.heap.size ≤ l →
   Mem w0 ex W (LB x c ++ L) → (∀ p ∈ LB x c, ¬ eb p.1) → ∀ (exb : Nat → Prop) (Wc : World), exb = eb → Wc = W → TmD [] a' n (EA x c) → Mem W exb Wc L → body.wpIn (FW l) 6 P (rPostB W exb J Jx (pre ++ [x])) a' Wc)
  (hdone : ∀ (D : Nat) (xs : List α) (L : List (Nat × BA)) (a' : Act) (W : World), w.heap.size ≤ D → S xs → J xs L W → w.heap.size ≤ W.heap.size → TmD (dfD D :: df) a' n E → Mem w0 ex W ((D, dfA) :: L) → Q .normal a' W)
  (hstop : ∀ (D : Nat) (c : Code) (pre : List α) (L : List (Nat × BA)) (a' : Act) (W : World), w.heap.size ≤ D → Sp pre → Jx c pre L W → w.heap.size ≤ W.heap.size → TmD (dfD D :: df) a' n E → Mem w0 ex W ((D, dfA) :: L) → c.wp P Q a' W) :
  (Code.rangeFunc g ps assign body).wp P Q a w := by
 have hz0 := M.size
 refine (wpIn_wide (n := 8)).1 (wpIn_rangeFunc ?_)
 intro fn hfn
 obtain ⟨rc, hrc⟩ : ∃ rc : LoopState → Option Code → Loop, rc = fun st pe => { state := st, pending := pe, fn, tmps := a.tmps, params := ps, assign, body, defers := w.heap.size } := ⟨_, rfl⟩
 obtain ⟨W1, hW1⟩ : ∃ W1, (w.alloc (.deferred (some []))).alloc (.loop (rc .ready none)) = W1 := ⟨_, rfl⟩
 have hb1 : Below w.heap.size w W1 := by
  rw [← hW1]
  exact (((Below.refl _ w).alloc (Nat.le_refl _) _).alloc (by simp) _)
 have hs1 : W1.heap.size = w.heap.size + 2 := by rw [← hW1]; simp
 have hL1 : W1.heap[w.heap.size + 1]? = some (.loop (rc .ready none)) := by
  rw [← hW1]
  have := World.alloc_heap_new (w.alloc (.deferred (some []))) (.loop (rc .ready none))
  rwa [World.size_alloc] at this
 have hK1 : W1.heap[w.heap.size]? = some (.deferred (some [])) := by
  rw [← hW1]
  exact (Below.heap_alloc _ _ _ (by simp)).trans (World.alloc_heap_new w _)
 have put : ∀ {W : World} {o : Obj} (o' : Obj), W.heap[w.heap.size + 1]? = some o → o.isCells = false → KpN w.heap.size W (W.putObj (w.heap.size + 1) o') := fun o' h hc => KpN.put (by omega) h hc o'
 have otherD : ∀ {W : World} (o' : Obj), (W.putObj (w.heap.size + 1) o').heap[w.heap.size]? = W.heap[w.heap.size]? := fun o' => World.putObj_heap_other (by omega)
 refine ⟨w.heap.size + 1, [{ target := .collected w.heap.size, args := #[] }], W1, { target := .fn (.func gf) lb, args := #[.func (.yield (w.heap.size + 1)) #[] #[]] }, W1, gf,
  #[.func (.yield (w.heap.size + 1)) #[] #[]] ++ lb, W1, ?_, ?_, ?_, ?_, fun _ => by omega, ?_⟩
 ·rw [← hW1, hrc]; exact run_enterLoop_outer _ _ _ _ _
 ·simp only [resolve, hg]
  simp [go_sem]
 ·intro f' hf'; simp [Target.leads] at hf'; subst hf'; trivial
 ·simp [invoke, go_sem, eg]
 ·refine callsIn_wide.2 (Calls.mono (hseq (w.heap.size + 1)
   (fun pre W => ∃ L, J pre L W ∧ Mem w0 ex W L ∧ w.heap.size ≤ W.heap.size ∧ W.heap[w.heap.size + 1]? = some (.loop (rc .ready none)) ∧ W.heap[w.heap.size]? = some (.deferred (some [])))
   (fun pre W => ∃ c L, Jx c pre L W ∧ Mem w0 ex W L ∧ w.heap.size ≤ W.heap.size ∧ W.heap[w.heap.size + 1]? = some (.loop (rc .done (some c))) ∧ W.heap[w.heap.size]? = some (.deferred (some [])))
   W1 hb1 (by omega) (by omega) ?_ ?_ ?_ ⟨L0, hJ _ _ _ _ hJ0 (.of_below hb1), M.call hb1, hb1.size, hL1, hK1⟩) ?_)
  ·rintro pre W W' ⟨L, hj, M1, hz, hl, hk⟩ hK
   have hK2 := hK.mono (B' := w.heap.size) (by omega)
   exact ⟨L, hJ _ _ _ _ hj hK2, M1.kpN hK2 hz0 (fun p hp => .inl (hf _ _ _ hj p hp)), Nat.le_trans hz hK.2.2.2.1, hK.2.2.2.2 _ _ hl (.inl (by omega)), hK.2.2.2.2 _ _ hk (.inl (by omega))⟩
  ·rintro pre W W' ⟨c, L, hj, M1, hz, hl, hk⟩ hK
   have hK2 := hK.mono (B' := w.heap.size) (by omega)
   exact ⟨c, L, hJx _ _ _ _ _ hj hK2, M1.kpN hK2 hz0 (fun p hp => .inl (hfx _ _ _ _ hj p hp)), Nat.le_trans hz hK.2.2.2.1, hK.2.2.2.2 _ _ hl (.inl (by omega)), hK.2.2.2.2 _ _ hk (.inl (by omega))⟩
  ·-- one round
   rintro pre x W ⟨L, hj, M1, hz, hl, hk⟩ hox
   have hy := run_yield (P := P) (args := encs x) hl (by rw [hrc]; exact hps x)
   rw [hrc] at hy
   refine ⟨fn, _, assign, body, hy, roundIn_of_wpIn hfn (hass _ x W _ _ (hEP x) ?_)⟩
   clear hy
   intro c a' Wa T' N1
   have hba := N1.below
   have hla : Wa.heap[w.heap.size + 1]? = some (.loop (rc .ready none)) := (hba.block _ (Array.getElem?_eq_some_iff.1 hl).1).trans hl
   have hka : Wa.heap[w.heap.size]? = some (.deferred (some [])) := (hba.block _ (Array.getElem?_eq_some_iff.1 hk).1).trans hk
   have hlta := (Array.getElem?_eq_some_iff.1 hla).1
   obtain ⟨bz, hbz⟩ : ∃ bz : Obj, bz = .loop { rc .ready none with state := .busy } := ⟨_, rfl⟩
   have hbzc : bz.isCells = false := by rw [hbz]; rfl
   obtain ⟨Wb, hWb⟩ : ∃ Wb, Wb = Wa.putObj (w.heap.size + 1) bz := ⟨_, rfl⟩
   have hsb : Wb.heap.size = Wa.heap.size := by rw [hWb]; simp
   have hkp : KpN w.heap.size W Wb := by rw [hWb]; exact (KpN.of_below hba).t (put _ hla rfl)
   have hlb : Wb.heap[w.heap.size + 1]? = some bz := by rw [hWb]; exact World.putObj_heap_same hlta
   have hkb : Wb.heap[w.heap.size]? = some (.deferred (some [])) := by rw [hWb]; exact (otherD _).trans hka
   refine ⟨Wb, by rw [hWb, hbz]; exact run_beginRound hla (by rw [hrc]), ?_⟩
   have hjb := hJ _ _ _ _ hj hkp
   have hoxb := hOx _ _ _ hox hkp
   have hfr : ∀ p ∈ LB x c, W.heap.size ≤ p.1 := fun p hp => by
    rcases (N1.blk p hp).1 with h | h
    ·exact h
    ·exact h.elim
   have M3 : Mem w0 ex Wb (LB x c ++ L) := by
    rw [hWb]
    refine (M1.join N1).kpN (put _ hla rfl) hz0 fun p hp => ?_
    rcases List.mem_append.1 hp with h | h
    ·exact .inr (hLB _ _ p h)
    ·exact .inl (hf _ _ _ hj p h)
   have M3L : Mem w0 ex Wb L := M3.sub (Zsq _ _)
   have hnl : ∀ p ∈ LB x c, ¬ eb p.1 := fun p hp he => by
    have := hfr p hp
    have := hebl _ he
    omega
   have M5 : Mem Wb eb Wb L := ⟨rfl, rfl, rfl, Nat.le_refl _, fun _ _ _ => rfl, fun p hp => ⟨.inr (heb _ _ _ hj p hp), (M3L.blk p hp).2⟩, M3L.nd⟩
   have hne : ¬ eb (w.heap.size + 1) := fun he => by have := hebl _ he; omega
   have hnd : ¬ eb w.heap.size := fun he => by have := hebl _ he; omega
   have hzb : w.heap.size ≤ Wb.heap.size := by rw [hsb]; exact Nat.le_trans hz hba.size
   -- what holds behind the round
   have fin : ∀ (jump : Option Code) (L2 : List (Nat × BA)) (W3 : World), Mem Wb eb W3 L2 →
     (Instr.endRound (w.heap.size + 1) jump).run P W3 = .ok (.bool jump.isNone) (W3.putObj (w.heap.size + 1) (.loop (rc (if jump.isNone then .ready else .done) jump))) ∧
     W3.heap[w.heap.size + 1]? = some bz ∧ KpB (w.heap.size + 1) eb W (W3.putObj (w.heap.size + 1) (.loop (rc (if jump.isNone then .ready else .done) jump))) ∧
     w.heap.size ≤ (W3.putObj (w.heap.size + 1) (.loop (rc (if jump.isNone then .ready else .done) jump))).heap.size ∧
     (W3.putObj (w.heap.size + 1) (.loop (rc (if jump.isNone then .ready else .done) jump))).heap[w.heap.size + 1]? = some (.loop (rc (if jump.isNone then .ready else .done) jump)) ∧
     (W3.putObj (w.heap.size + 1) (.loop (rc (if jump.isNone then .ready else .done) jump))).heap[w.heap.size]? = some (.deferred (some [])) := fun jump L2 W3 M4 => by
    have hl3 := (M4.block _ (Array.getElem?_eq_some_iff.1 hlb).1 hne).trans hlb
    have hk3 := (M4.block _ (Array.getElem?_eq_some_iff.1 hkb).1 hnd).trans hkb
    have hr := run_endRound (P := P) jump (by rw [hbz] at hl3; exact hl3)
    rw [hrc] at hr ⊢
    refine ⟨hr, hl3, ⟨?_, ?_, ?_, ?_, fun b hb he => ?_, fun p hp => (by cases hp), by simp⟩, ?_, World.putObj_heap_same (Array.getElem?_eq_some_iff.1 hl3).1, (otherD _).trans hk3⟩
    ·exact M4.os.trans (by rw [hWb]; exact hba.os)
    ·exact M4.tape.trans (by rw [hWb]; exact hba.tape)
    ·exact M4.output.trans (by rw [hWb]; exact hba.output)
    ·have h1 := M4.size
     have h2 := hba.size
     simp only [World.putObj_size]
     omega
    ·have h1 := hba.size
     have hbl : b ≠ w.heap.size + 1 := fun e => he (.inl e)
     rw [World.putObj_heap_other hbl, M4.block b (by omega) (fun h => he (.inr h)), hWb, World.putObj_heap_other hbl]
     exact hba.block b hb
    ·have h1 := M4.size
     simp only [World.putObj_size]
     omega
   refine wpIn_mono (hbody _ pre x c L a' Wb hjb hoxb hzb (by omega) M3 hnl eb Wb rfl rfl T' M5) ?_
   rintro e a3 W3 hp
   cases e with
   | normal =>
    obtain ⟨L2, hj3, M4⟩ := hp
    obtain ⟨hr, hl3, hkb3, hz3, hl4, hk4⟩ := fin none L2 W3 M4
    exact ⟨_, _, hr, .inl ⟨rfl, ⟨L2, hJ _ _ _ _ hj3 (put _ hl3 hbzc), (M3L.backE M4 hebx).kpN (put _ hl3 hbzc) hz0 (fun p hp => .inl (hf _ _ _ hj3 p hp)), hz3, hl4, hk4⟩, hkb3⟩⟩
   | ret =>
    obtain ⟨L2, hj3, M4⟩ := hp
    obtain ⟨hr, hl3, hkb3, hz3, hl4, hk4⟩ := fin (some .ret) L2 W3 M4
    exact ⟨_, _, hr, .inr ⟨rfl, ⟨.ret, L2, hJx _ _ _ _ _ hj3 (put _ hl3 hbzc), (M3L.backE M4 hebx).kpN (put _ hl3 hbzc) hz0 (fun p hp => .inl (hfx _ _ _ _ hj3 p hp)), hz3, hl4, hk4⟩, hkb3⟩⟩
   | exit id =>
    obtain ⟨L2, hj3, M4⟩ := hp
    obtain ⟨hr, hl3, hkb3, hz3, hl4, hk4⟩ := fin (some (.exit id)) L2 W3 M4
    exact ⟨_, _, hr, .inr ⟨rfl, ⟨.exit id, L2, hJx _ _ _ _ _ hj3 (put _ hl3 hbzc), (M3L.backE M4 hebx).kpN (put _ hl3 hbzc) hz0 (fun p hp => .inl (hfx _ _ _ _ hj3 p hp)), hz3, hl4, hk4⟩, hkb3⟩⟩
   | _ => exact hp.elim
  ·-- behind the iterator
   have addD : ∀ {W : World} {L : List (Nat × BA)}, W.heap[w.heap.size]? = some (.deferred (some [])) → (∀ p ∈ L, p.1 < w.heap.size) → Mem w0 ex W L → Mem w0 ex W ((w.heap.size, dfA) :: L) := fun {W L} hk hL M =>
    M.add hz0 ⟨_, hk, rfl⟩ (fun q hq e => by have := hL q hq; omega)
   rintro e W2 ⟨⟨v, rfl⟩, (⟨xs, hS, L, hj, M1, hz, hl, hk⟩ | ⟨pre, hSp, c, L, hj, M1, hz, hl, hk⟩)⟩
   ·have hend := run_endLoop (P := P) hl (by rw [hrc]; simp)
    rw [hrc] at hend
    refine ⟨none, _, hend, ?_⟩
    have hkp := put (W := W2) (.loop { rc .ready none with state := .done }) hl rfl
    refine hdone w.heap.size xs L _ _ (Nat.le_refl _) hS (hJ _ _ _ _ hj (put _ hl rfl)) (by simpa using hz) (T.marks w.heap.size) (addD ((otherD _).trans hk) (hf _ _ _ hj) (M1.kpN (put _ hl rfl) hz0 (fun p hp => .inl (hf _ _ _ hj p hp))))
   ·have hend := run_endLoop (P := P) hl (by rw [hrc]; simp)
    rw [hrc] at hend
    refine ⟨some c, _, hend, wpIn_wide.2 ?_⟩
    refine hstop w.heap.size c pre L _ _ (Nat.le_refl _) hSp (hJx _ _ _ _ _ hj (put _ hl rfl)) (by simpa using hz) (T.marks w.heap.size) (addD ((otherD _).trans hk) (hfx _ _ _ _ hj) (M1.kpN (put _ hl rfl) hz0 (fun p hp => .inl (hfx _ _ _ _ hj p hp))))
end
end
section
open Go.RowKit Go.Shelf
section
variable {P : Program} {ops : Array Oper} {op : Oper} {a : Act} {Q : Exit → Act → World → Prop} {K : Act → World → Prop} {w0 w : World} {ex : Nat → Prop} {L : List (Nat × BA)} {l : Nat}
end
section
variable {P : Program} {a : Act} {w0 w : World} {ex : Nat → Prop} {n B m : Nat} {E : List (Nat × Value)} {L : List (Nat × BA)}
end
theorem Mem.ge {w0 w : World} {L : List (Nat × BA)} {g : Nat} {p : BA} (M : Mem w0 noEx w L) (h : (g, p) ∈ L) : w0.heap.size ≤ g := by
 rcases (M.blk _ h).1 with h | h
 · exact h
 · exact h.elim
theorem g_startT {P : Program} {ops : Array Oper} {a : Act} {Q : Exit → Act → World → Prop} {w0 w : World} {ex : Nat → Prop} {L : List (Nat × BA)} (M : Mem w0 ex w L) (m : Nat) {id : Nat} (hm : P.follows .mixedOrders = true) (hn : ops.size = m) (hz : Array.replicate m false = Zpb m 0)
  (h : ∀ w', Mem w0 ex w' L → wpG P ops Q MT m (Zpb m 0) a w') : (Code.region id ops true).wp P Q a w := g_start MT m hm hn hz trivial (h _ M.drew)
end
section
open Go.RowKit
open Go.Maps (Keyed)
section
variable {P : Program} {op : Oper} {a : Act} {w : World} {t t' : TypeId} {x y : Operand} {p q : Int}
theorem rn_indexG {s e : TypeId} {size m : Nat} {g : Addr} {i : Int} (k : Nat) (ho : op.op = .indexAddr s x y) (hx : a.eval x = .pointer (some g)) {kk : IntKind} (hy : a.eval y = .int kk i) (hi : i = (k : Int))
   (hu : P.underlying s = some (.array m e)) (he : (P.info? e).map (·.size) = some size) (hk : k < m) : Runs P op a (.pointer (some (g.add (k * size)))) w := by
 subst hi
 unfold Runs execOp
 simp only [ho, hx, hy]
 cases hi : P.info? e with
 | none => rw [hi] at he; simp at he
 | some inf =>
   rw [hi] at he
   simp at he
   have hm' : (k : Int) < (m : Int) := by omega
   simp [Instr.indexAt, asIntOf, Sem.run_bind, run_underlying, hu, sizeOf, typeInfo, hi, he, Addr.add, hk, Instr.sureAddr, Result.andThen]
end
section
variable {P : Program} {ops : Array Oper} {op : Oper} {a : Act} {Q : Exit → Act → World → Prop} {df : List Deferred} {w0 w : World} {ex : Nat → Prop} {L L' : List (Nat × BA)} {k e ty : TypeId} {nn t : Nat} {E : List (Nat × Value)} {K : Act → World → Prop} {okv : Value → Value → Prop}
end
end
section
open Go.RowKit
open Go.Maps (Keyed)
def numQ (ss : List Int) (o : Obj) : Prop := ∃ es clock, o = .map es clock ∧ (∀ e ∈ es.toList, ∃ p ∈ ss, e.key = .int .i64 p ∧ e.val = .bool true ∧ (Lit.int .i64 p).wf = true) ∧ ∀ p ∈ ss, ∃ e ∈ es.toList, e.key = .int .i64 p
section
variable {P : Program} {k e ty : TypeId} {w : World} {b : Nat} {ss : List Int} {p : Int}
theorem wf_i64 (h : -9223372036854775808 ≤ p ∧ p ≤ 9223372036854775807) : (Lit.int .i64 p).wf = true := by
 have h1 : IntKind.i64.min = -9223372036854775808 := by decide
 have h2 : IntKind.i64.max = 9223372036854775807 := by decide
 simp only [Lit.wf, h1, h2, Bool.and_eq_true, decide_eq_true_eq]
 exact h
theorem numQ.keys (hk : P.underlying k = some (.int .i64)) {es : Array MapEntry} (h1 : ∀ e ∈ es.toList, ∃ p ∈ ss, e.key = .int .i64 p ∧ e.val = .bool true ∧ (Lit.int .i64 p).wf = true) : ∀ e ∈ es.toList, ∃ l, keyOf P k e.key = some l := fun e he => by
 obtain ⟨q, -, h2, -, h3⟩ := h1 e he
 rw [h2]
 exact ⟨_, Go.Maps.keyOf_int_mk hk h3⟩
theorem numQ.lookup (hk : P.underlying k = some (.int .i64)) (ht : P.underlying ty = some (.map k e)) (hz : ∀ w, (zeroValue e).run P w = .ok (.bool false) w) {o : Obj} (hb : w.heap[b]? = some o) (h : numQ ss o) (hp : (Lit.int .i64 p).wf = true) :
  (Instr.lookup ty (.map (some b)) (.int .i64 p) false).run P w = .ok (.bool (decide (p ∈ ss))) w := by
 obtain ⟨es, clock, rfl, h1, h2⟩ := h
 have Kd := Go.Maps.int_keyed hk
 have hkey := Go.Maps.keyOf_int_mk hk hp
 have hc := Kd.check w es.isEmpty hkey
 rcases Kd.find w hkey es.toList (numQ.keys hk h1) with ⟨hf, hn⟩ | ⟨j, e0, hf, hj, h3⟩
 ·have : ¬ p ∈ ss := fun h9 => by obtain ⟨x, hx, hx2⟩ := h2 p h9; exact hn x hx hx2
  rw [Zdf this]
  unfold Instr.lookup
  simp [run_underlying ht, MapKept.run_getObj_map hb, hc, hf, hz, Result.andThen]
 ·obtain ⟨q, hq, h4, h5, -⟩ := h1 e0 (List.mem_of_getElem? hj)
  have : q = p := by rw [h3] at h4; injection h4 with _ h4; exact h4.symm
  subst this
  rw [Zdt hq, ← h5]
  unfold Instr.lookup
  simp [run_underlying ht, MapKept.run_getObj_map hb, hc, hf, Result.andThen]
theorem numQ.update (hk : P.underlying k = some (.int .i64)) (ht : P.underlying ty = some (.map k e)) {o : Obj} (hb : w.heap[b]? = some o) (h : numQ ss o) (hp : (Lit.int .i64 p).wf = true) :
  ∃ w' o', (Instr.mapUpdate ty (.map (some b)) (.int .i64 p) (.bool true)).run P w = .ok () w' ∧ w'.heap[b]? = some o' ∧ numQ (ss ++ [p]) o' ∧ w.grownBy w' (some b) := by
 obtain ⟨es, clock, rfl, h1, h2⟩ := h
 have Kd := Go.Maps.int_keyed hk
 have hkey := Go.Maps.keyOf_int_mk hk hp
 have hc := Kd.check w false hkey
 have fin : ∀ es' clock', w.grownBy (ChangeMaps.setBlock w b (.map es' clock')) (some b) := fun es' clock' =>
  ⟨rfl, rfl, rfl, by simp [ChangeMaps.setBlock], fun i _ hi => ChangeMaps.heap_setBlock_other hb _ (fun e => hi (by rw [e]))⟩
 rcases Kd.find w hkey es.toList (numQ.keys hk h1) with ⟨hf, hn⟩ | ⟨j, e0, hf, hj, h3⟩
 ·refine ⟨ChangeMaps.setBlock w b (.map (es.push { key := .int .i64 p, val := .bool true, born := clock }) (clock + 1)), _, ?_, ChangeMaps.heap_setBlock_same hb _, ⟨_, _, rfl, fun x hx => ?_, fun q hq => ?_⟩, fin _ _⟩
  ·unfold Instr.mapUpdate
   simp [run_underlying ht, MapKept.run_getObj_map hb, hc, hf, Result.andThen, MapKept.run_setObj_map _ hb, ChangeMaps.setBlock]
  ·simp only [Array.toList_push, List.mem_append, List.mem_singleton] at hx
   rcases hx with hx | rfl
   ·obtain ⟨q, hq, h4⟩ := h1 x hx
    exact ⟨q, List.mem_append_left _ hq, h4⟩
   ·exact ⟨p, by simp, rfl, rfl, hp⟩
  ·rcases List.mem_append.1 hq with hq | hq
   ·obtain ⟨x, hx, h4⟩ := h2 q hq
    exact ⟨x, by simp only [Array.toList_push, List.mem_append]; exact .inl hx, h4⟩
   ·rw [List.mem_singleton.1 hq]
    exact ⟨{ key := .int .i64 p, val := .bool true, born := clock }, by simp, rfl⟩
 ·have hj' : es[j]? = some e0 := by simpa using hj
  have hall : ∀ x ∈ (es.modify j fun e => { e with key := .int .i64 p, val := .bool true }).toList, (∃ y ∈ es.toList, x.key = y.key ∧ x.val = y.val) ∨ (x.key = .int .i64 p ∧ x.val = .bool true) := fun x hx => by
   obtain ⟨i, hi⟩ := List.getElem?_of_mem hx
   rw [Array.getElem?_toList, Array.getElem?_modify] at hi
   split at hi
   ·cases hq : es[i]? with
    | none => rw [hq] at hi; cases hi
    | some y => rw [hq] at hi; injection hi with hi; subst hi; exact .inr ⟨rfl, rfl⟩
   ·exact .inl ⟨x, List.mem_of_getElem? (by rw [Array.getElem?_toList]; exact hi), rfl, rfl⟩
  refine ⟨ChangeMaps.setBlock w b (.map (es.modify j fun e => { e with key := .int .i64 p, val := .bool true }) (clock)), _, ?_, ChangeMaps.heap_setBlock_same hb _, ⟨_, _, rfl, fun x hx => ?_, fun q hq => ?_⟩, fin _ _⟩
  ·unfold Instr.mapUpdate
   have hs := Kd.stays w hkey
   simp [run_underlying ht, MapKept.run_getObj_map hb, hc, hf, Result.andThen, MapKept.run_setObj_map _ hb, ChangeMaps.setBlock, hj', h3, hs]
  ·rcases hall x hx with ⟨y, hy, h5, h6⟩ | ⟨h5, h6⟩
   ·obtain ⟨q, hq, h4, h7, h8⟩ := h1 y hy
    exact ⟨q, List.mem_append_left _ hq, h5.trans h4, h6.trans h7, h8⟩
   ·exact ⟨p, by simp, h5, h6, hp⟩
  ·have hin : ∀ x ∈ es.toList, ∃ x' ∈ (es.modify j fun e => { e with key := .int .i64 p, val := .bool true }).toList, x'.key = x.key := fun x hx => by
    obtain ⟨i, hi⟩ := List.getElem?_of_mem hx
    rw [Array.getElem?_toList] at hi
    by_cases hij : j = i
    ·subst hij
     rw [hj'] at hi
     injection hi with hi
     subst hi
     exact ⟨{ e0 with key := .int .i64 p, val := .bool true }, List.mem_of_getElem? (i := j) (by rw [Array.getElem?_toList, Array.getElem?_modify, if_pos rfl, hj']; rfl), h3.symm⟩
    ·exact ⟨x, List.mem_of_getElem? (i := i) (by rw [Array.getElem?_toList, Array.getElem?_modify, if_neg hij, hi]), rfl⟩
   have ofE : ∀ x ∈ es.toList, x.key = .int .i64 q → ∃ e ∈ (es.modify j fun e => { e with key := .int .i64 p, val := .bool true }).toList, e.key = .int .i64 q := fun x hx h4 => by
    obtain ⟨x', hx', h5⟩ := hin x hx
    exact ⟨x', hx', h5.trans h4⟩
   rcases List.mem_append.1 hq with hq | hq
   ·obtain ⟨x, hx, h4⟩ := h2 q hq
    exact ofE x hx h4
   ·rw [List.mem_singleton.1 hq] at ofE ⊢
    exact ofE e0 (List.mem_of_getElem? hj) h3
end
section
variable {P : Program} {op : Oper} {a : Act} {Q : Exit → Act → World → Prop} {df : List Deferred} {w0 w : World} {ex : Nat → Prop} {L L' : List (Nat × BA)} {k e ty : TypeId} {nn t : Nat} {E : List (Nat × Value)} {K : Act → World → Prop} {ss : List Int}
theorem ow_mmN (M : Mem w0 ex w L) (T : TmD df a nn E) (ho : op.op = .makeMap ty none) (ht : P.underlying ty = some (.map k e)) (hd : op.dst = some t) (hf : freshE E t = true) (hn : Nat.blt t nn = true)
  (h : ∀ g w' a', Mem w0 ex w' ((g, .any (numQ [])) :: L) → TmD df a' nn ((t, .map (some g)) :: E) → K a' w') : op.wp P a w K Q := by
 unfold Oper.wp execOp
 simp only [ho, Option.map_none, run_makeMap, Sem.run_bind, Result.andThen_ok, Sem.run_pure]
 rw [Oper.upon_value, hd]
 exact h _ _ _ (M.newAny _ _ ⟨#[], 0, rfl, fun e he => by simp at he, fun p hp => by cases hp⟩) (T.put hn hf _)
theorem ow_lkN {x y : Operand} {g : Nat} {p : Int} (M : Mem w0 ex w L) (T : TmD df a nn E) (hk : P.underlying k = some (.int .i64)) (ht : P.underlying ty = some (.map k e)) (hz : ∀ w, (zeroValue e).run P w = .ok (.bool false) w) (hm : (g, BA.any (numQ ss)) ∈ L) (ho : op.op = .lookup ty x y false) (hd : op.dst = some t) (hf : freshE E t = true) (hn : Nat.blt t nn = true) (hx : a.eval x = .map (some g)) (hy : a.eval y = .int .i64 p)
  (hp : -9223372036854775808 ≤ p ∧ p ≤ 9223372036854775807) (h : ∀ a', TmD df a' nn ((t, .bool (decide (p ∈ ss))) :: E) → K a' w) : op.wp P a w K Q := by
 obtain ⟨o, h1, h2⟩ := M.at hm
 have hr := numQ.lookup hk ht hz h1 h2 (wf_i64 hp)
 unfold Oper.wp execOp
 simp only [ho, hx, hy, hr, Sem.run_bind, Result.andThen_ok, Sem.run_pure]
 rw [Oper.upon_value, hd]
 exact h _ (T.put hn hf _)
theorem ow_muN {x y z : Operand} {g : Nat} {p : Int} (M : Mem w0 ex w L) (T : TmD df a nn E) (hk : P.underlying k = some (.int .i64)) (ht : P.underlying ty = some (.map k e)) (ho : op.op = .mapUpdate ty x y z) (hd : op.dst = none) (hx : a.eval x = .map (some g)) (hy : a.eval y = .int .i64 p) (hz : a.eval z = .bool true)
  (hu : Upd L g (.any (numQ ss)) (.any (numQ (ss ++ [p]))) L') (hp : -9223372036854775808 ≤ p ∧ p ≤ 9223372036854775807) (h : ∀ w' a', Mem w0 ex w' L' → TmD df a' nn E → K a' w') : op.wp P a w K Q := by
 obtain ⟨o, h1, h2⟩ := M.at hu.mem
 obtain ⟨w', o', hr, h3, h4, hg⟩ := numQ.update hk ht h1 h2 (wf_i64 hp)
 unfold Oper.wp execOp
 simp only [ho, hx, hy, hz, hr, Sem.run_bind, Result.andThen_ok, Sem.run_pure]
 show K (a.put op.dst undef) w'
 rw [hd]
 exact h _ _ (M.callW hu hg ⟨o', h3, h4⟩) (T.put0 _)
end
end
section
variable {α : Type} (enc : α → List Value) (z : Nat)
theorem fm_length (hz : ∀ x, (enc x).length = z) : ∀ l : List α, (l.flatMap enc).length = l.length * z
 | [] => by simp
 | x :: l => by rw [List.flatMap_cons, List.length_append, fm_length hz l, hz, List.length_cons, Nat.add_mul]; omega
theorem fm_put (hz : ∀ x, (enc x).length = z) (f : Nat) (x' : α) (ds : List Value) : ∀ (l : List α) (k : Nat) (x : α), l[k]? = some x → enc x' = (enc x).take f ++ ds ++ (enc x).drop (f + ds.length) → f + ds.length ≤ z → (l.flatMap enc).take (k * z + f) ++ ds ++ (l.flatMap enc).drop (k * z + f + ds.length) = (l.set k x').flatMap enc
 | [], k, x, h, _, _ => by simp at h
 | y :: l, 0, x, h, he, hf => by
  simp at h
  subst h
  have h4 := hz y
  rw [Zz7, List.flatMap_cons, List.flatMap_cons, Nat.zero_mul, Nat.zero_add, List.take_append_of_le_length (by omega), List.drop_append_of_le_length (by omega), he]
  simp
 | y :: l, k + 1, x, h, he, hf => by
  have h4 := hz y
  have ih := fm_put hz f x' ds l k x (by simpa using h) he hf
  rw [Zz8, List.flatMap_cons, List.flatMap_cons, show (k + 1) * z + f = (enc y).length + (k * z + f) by rw [h4, Nat.add_mul]; omega, List.take_length_add_append, show (enc y).length + (k * z + f) + ds.length = (enc y).length + (k * z + f + ds.length) by omega, List.drop_length_add_append, ← ih]
  simp
end
section
variable {P : Program} {op : Oper} {a : Act} {K : Act → World → Prop} {Q : Exit → Act → World → Prop} {w0 w : World} {ex : Nat → Prop} {L : List (Nat × BA)} {E : List (Nat × Value)} {df : List Deferred} {t n : Nat}
theorem ow_stK {α : Type} (enc : α → List Value) (z : Nat) (hz : ∀ x, (enc x).length = z) (f : Nat) {ty : TypeId} {x y : Operand} {g k : Nat} {v : Value} {ds : List Value} {l : List α} {p p' : α} {ys : List Value} {L' : List (Nat × BA)} (M : Mem w0 ex w L) (T : TmD df a n E) (ho : op.op = .store ty x y) (hd : op.dst = none)
   (hx : a.eval x = .pointer (some ⟨g, 0 + k * z + f, none⟩)) (hy : a.eval y = v) (hv : v.cells = ds.toArray) (hp : l[k]? = some p) (he : enc p' = (enc p).take f ++ ds ++ (enc p).drop (f + ds.length)) (hf : f + ds.length ≤ z) (h1 : ds.all (·.oneCell') = true) (hi : (P.info? ty).map (·.size) = some ds.length)
   (hu : Upd L g (.cells (l.flatMap enc ++ ys)) (.cells ((l.set k p').flatMap enc ++ ys)) L') (h : ∀ w' a', Mem w0 ex w' L' → TmD df a' n E → K a' w') : op.wp P a w K Q := by
 have hk := (List.getElem?_eq_some_iff.1 hp).1
 have hl := fm_length enc z hz l
 have hkz : k * z + z ≤ l.length * z := by have := Nat.mul_le_mul_right z (show k + 1 ≤ l.length by omega); rw [Nat.add_mul] at this; omega
 refine m_stw (ds := ds) M ho hx hy hv hu ?_ (by rw [List.length_append, hl]; omega) h1 hi fun w' M' => h w' _ M' (by rw [hd]; exact T.put0 _)
 have hq := fm_put enc z hz f p' ds l k p hp he hf
 rw [Nat.zero_add, List.take_append_of_le_length (by rw [hl]; omega), List.drop_append_of_le_length (by rw [hl]; omega), ← List.append_assoc, ← hq]
end
abbrev L4.l (x : L4) : List Int := [x.a, x.b, x.c, x.d]
def L4.ok (x : L4) : Prop := (0 ≤ x.a ∧ x.a ≤ 5) ∧ (0 ≤ x.b ∧ x.b ≤ 5) ∧ (0 ≤ x.c ∧ x.c ≤ 5) ∧ 0 ≤ x.d ∧ x.d ≤ 5
theorem L4.ok.all {x : L4} (h : x.ok) : ∀ v ∈ x.l, 0 ≤ v ∧ v ≤ 5 := by
 obtain ⟨h1, h2, h3, h4⟩ := h
 intro v hv
 simp only [L4.l, List.mem_cons, List.not_mem_nil, or_false] at hv
 rcases hv with rfl | rfl | rfl | rfl <;> assumption
theorem L4.ok.get {x : L4} (h : x.ok) (k : Nat) : 0 ≤ x.l.getD k 0 ∧ x.l.getD k 0 ≤ 5 := by
 rw [List.getD_eq_getElem?_getD]
 cases hk : x.l[k]? with
 | none => simp
 | some v => exact h.all v (List.mem_of_getElem? hk)
theorem l4At {w : World} {g : Nat} {x : L4} {k : Nat} (h : Bk w g #[.int .i64 x.a, .int .i64 x.b, .int .i64 x.c, .int .i64 x.d]) (hk : k < 4) : w.cell? ((⟨g, 0, none⟩ : Addr).add (k * 1)) = some (.int .i64 (x.l.getD k 0)) := by
 have := h.cell k
 match k, hk with
 | 0, _ => exact this
 | 1, _ => exact this
 | 2, _ => exact this
 | 3, _ => exact this
def cornL (n : Nat) (but : List Int) : List Int := ((List.range n).map fun k : Nat => (k : Int)).filter fun c => decide (c ∉ but)
theorem cornL_succ (n : Nat) (but : List Int) : cornL (n + 1) but = if (n : Int) ∈ but then cornL n but else cornL n but ++ [(n : Int)] := by
 unfold cornL
 rw [List.range_succ, List.map_append, List.filter_append]
 by_cases h : (n : Int) ∈ but <;> simp [h]
theorem cornL_mem {n : Nat} {but : List Int} {c : Int} (h : c ∈ cornL n but) : 0 ≤ c ∧ c < n := by
 unfold cornL at h
 obtain ⟨k, hk, rfl⟩ := List.mem_map.1 (List.mem_filter.1 h).1
 have := List.mem_range.1 hk
 omega
theorem cornL_len (n : Nat) (but : List Int) : (cornL n but).length ≤ n := by
 unfold cornL
 refine Nat.le_trans (List.length_filter_le _ _) ?_
 simp
def aft (way x y : Int) : Int := if way = 1 then x - y else x + y
def roomW (way x full : Int) : Int := if way = 1 then x else full - x
def worksV (way : Int) : Value := if way = 1 then .agg #[.func (.func 119) #[] #[], .func (.func 120) #[] #[]] else .agg #[.func (.func 121) #[] #[], .func (.func 122) #[] #[]]
def turnW : List Int → Int
 | x :: y :: r => (if y ≠ x then 1 else 0) + turnW (y :: r)
 | _ => 0
theorem turnW_snoc {x y : Int} : ∀ (l : List Int), turnW (l ++ [x, y]) = turnW (l ++ [x]) + if y ≠ x then 1 else 0
 | [] => by simp [turnW]
 | [z] => by simp only [List.cons_append, List.nil_append, turnW]; omega
 | z :: z2 :: l => by
  have := turnW_snoc (x := x) (y := y) (z2 :: l)
  simp only [List.cons_append, turnW] at this ⊢
  omega
theorem turnW_take {l : List Int} {k : Nat} {x y : Int} (hx : l[k]? = some x) (hy : l[k + 1]? = some y) : turnW (l.take (k + 2)) = turnW (l.take (k + 1)) + if y ≠ x then 1 else 0 := by
 rw [List.take_add_one (i := k + 1), hy, List.take_add_one (i := k), hx]
 simp only [Option.toList_some, List.append_assoc, List.cons_append, List.nil_append]
 exact turnW_snoc _
theorem turnW_nonneg : ∀ l : List Int, 0 ≤ turnW l ∧ turnW l ≤ l.length
 | [] => by simp [turnW]
 | [x] => by simp [turnW]
 | x :: y :: r => by
  have := turnW_nonneg (y :: r)
  simp only [List.length_cons] at this ⊢
  unfold turnW
  push_cast at this ⊢
  split <;> omega
def wyE : List Nt → List Int → Option Int → Int
 | n :: p, w :: ws, q => if withinB w 1 2 = false then 8 else if (q.isSome = true ∧ q ≠ some w) ∧ n.rest = false then 5 else wyE p ws (some w)
 | _, _, _ => 0
def waysE (p : List Nt) (ws : List Int) : Int := if ws.length < p.length then 7 else if p.length < ws.length then 6 else wyE p ws none
theorem index_any (G : Option Addr) (n : Nat) (g : List Int) (v : Int)  (w : World) (hG : Rd w w.heap.size 1 G g.length (ic g)) (nG : g.length ≤ 1000000)  :
   Calls Try.prog 141 #[.slice G g.length n, .int .i64 v] w fun e w' => ∃ k : Int, e = .returned (.int .i64 k) ∧ (0 ≤ k ↔ v ∈ g) ∧ Below w.heap.size w w' := by
 obtain ⟨bG, oG, SG⟩ := Sp.old hG
 refine Zpx noEx Try.func141 rfl 19 rfl [.slice G g.length n, .int .i64 v] rfl rfl (Mem.init w _) ?_
 intro ac wc T M
 refine Zsr ?_
 refine lq T (Zra rfl evc) ?_; clear T ac; intro ac T
 replace T := T.pick [1, 2] rfl
 refine Zln ?_
 refine wp_seq ?_
 refine Zsr ?_
 refine Zg3 T (Zq (Zrm rfl (T.e 0 rfl))) rfl (Zl Try.underlying28 0 rfl rfl) rfl (fun _ T => Zq (Zrm rfl evc)) rfl ?_; clear T ac; intro ac T
 replace T := T.pick [0, 1, 3, 4] rfl
 refine Zln ?_
 refine wp_block ?_
 refine wp_loop_n (fun mz ac wc => ∃ (k : Nat), mz = g.length - k ∧ (k ≤ g.length) ∧ (v ∉ g.take k) ∧ Tm ac 19 [(0, .slice G g.length n), (1, .int .i64 v), (7, .int .i64 ((g.length : Nat) : Int)), (8, .int .i64 (k : Int))] ∧ Mem w noEx wc []) ?_ ?_
 ·exact ⟨_, 0, rfl, (Nat.zero_le _), (by simp), T.pick [2, 3, 1, 0] rfl, M.mask [] rfl⟩
 clear T M
 rintro mz ac wc ⟨k, hmm1, hk, H, T, M⟩
 refine Zsr ?_
 refine lq T (rn_lss rfl (T.e 3 rfl) (T.e 2 rfl)) ?_; clear T ac; intro ac T
 refine Zln ?_
 refine wp_seq ?_
 refine wp_if (T.e 0 rfl) ?_ ?_
 ·intro h1
  obtain ⟨x, hkx, -⟩ := ic_next (l := g) (k := k) (by omega)
  refine Zsk ?_
  refine wp_seq ?_
  refine wp_block ?_
  refine Zsr ?_
  refine Zg2 T (Zq (Zrm rfl (T.e 4 rfl))) rfl (Za 0 rfl rfl) rfl ?_; clear T ac; intro ac T
  replace T := T.pick [0, 3, 4, 5, 6] rfl
  refine Zln ?_
  refine Zsr ?_
  refine Zg6 T (Zq (Zrm rfl (T.e 2 rfl))) rfl (Zm 2 rfl rfl) rfl (Zm 2 rfl rfl) rfl (fun _ T => Zq (Zri (size := 1) k rfl (T.e 1 rfl) (T.e 0 rfl) ⟨_, Try.underlying28, by kernel_rfl⟩ rfl (by omega) (SG.at0 (by omega)))) rfl (fun _ T => Zq (rn_cell (Sp.ic0 SG M (Zz9 _) hkx) rfl (T.e 0 rfl))) rfl (fun _ T => Zq (rn_eql rfl (T.e 4 rfl) (T.e 0 rfl))) rfl ?_; clear T ac; intro ac T
  replace T := T.pick [0, 6, 7, 8, 9, 10] rfl
  refine Zln ?_
  refine wp_if (T.e 0 rfl) ?_ ?_
  ·intro h2
   refine Zsr ?_
   refine Zg2 T (Zq (Zrm rfl (T.e 1 rfl))) rfl (Za 0 rfl rfl) rfl ?_; clear T ac; intro ac T
   replace T := T.pick [0] rfl
   refine Zln ?_
   refine wp_ret ?_
   refine Zrb ?_
   refine Zrt ?_
   refine Zrt ?_
   refine Zrb ?_
   refine Zrt ?_
   refine rt_1 T rfl (T.e 0 rfl) ?_
   exact ⟨_, rfl, ⟨fun _ => by rw [show v = x by omega]; exact List.mem_of_getElem? hkx, fun _ => by omega⟩, M.below⟩
  intro h2
  refine wp_skip ?_
  refine Znb ?_
  refine nm_then ?_
  refine wp_region_lit ?_
  refine lq T (rn_add rfl (T.e 5 rfl) evc (by omega)) ?_; clear T ac; intro ac T
  refine l_q (v := (.int .i64 ((k : Int) + 1))) (T.pick [0, 1, 2, 3, 4, 5] rfl) rfl rfl rfl rfl (Zrm rfl (T.e 0 rfl)) ?_; clear T ac; intro ac T
  replace T := T.pick [0, 4, 5, 6] rfl
  refine Zln ?_
  exact ⟨_, by omega, k + 1, rfl, (by omega), (by rw [List.take_add_one, hkx]; simp only [Option.toList_some, List.mem_append, List.mem_singleton]; rintro (h9 | h9); exact H h9; omega), T.pick [1, 2, 3, 0] rfl, M.mask [] rfl⟩
 intro h1
 rw [List.take_of_length_le (by omega)] at H
 refine wp_exit ?_
 refine Zet ?_
 refine Zet ?_
 refine ex_hit ?_
 refine nm_then ?_
 refine Zsr ?_
 refine lq T (Zra rfl evc) ?_; clear T ac; intro ac T
 replace T := T.pick [0] rfl
 refine Zln ?_
 refine wp_ret ?_
 refine rt_1 T rfl (T.e 0 rfl) ?_
 exact ⟨-1, rfl, ⟨fun h9 => by omega, fun h9 => absurd h9 H⟩, M.below⟩
theorem contains_any (G : Option Addr) (n : Nat) (g : List Int) (v : Int)  (w : World) (hG : Rd w w.heap.size 1 G g.length (ic g)) (nG : g.length ≤ 1000000)  :
  Calls Try.prog 118 #[.slice G g.length n, .int .i64 v] w fun e w' => e = .returned (.bool (decide (v ∈ g))) ∧ Below w.heap.size w w' := by
 obtain ⟨bG, oG, SG⟩ := Sp.old hG
 refine Zpx noEx Try.func118 rfl 9 rfl [.slice G g.length n, .int .i64 v] rfl rfl (Mem.init w _) ?_
 intro ac wc T M
 refine Zsr ?_
 refine lq T (Zra rfl evc) ?_; clear T ac; intro ac T
 replace T := T.pick [1, 2] rfl
 refine Zln ?_
 refine Zsr ?_
 refine Zg2 T (Zq (Zrm rfl (T.e 0 rfl))) rfl (Zm 2 rfl rfl) rfl ?_; clear T ac; intro ac T
 refine Zl2 ?_
 refine Zoc (first := []) (cap := []) T rfl rfl rfl rfl evf (.cons (T.e 1 rfl) (.cons (T.e 0 rfl) .nil)) Try.func141 rfl rfl ?_
 refine Calls.mono (index_any G n g v _ (SG.rd M (Zz9 _)) (by omega)) ?_
 clear T; rintro e wc ⟨ku1, rfl, hku1, hb⟩ ac T
 replace M := M.call hb; clear hb
 refine Zg2 T (Zq (rn_geq rfl (T.e 0 rfl) evc)) rfl (Za 0 rfl rfl) rfl ?_; clear T ac; intro ac T
 replace T := T.pick [0] rfl
 refine Zln ?_
 refine wp_ret ?_
 refine rt_1 T rfl (T.e 0 rfl) ?_
 exact ⟨ret_bool (decide_eq_decide.2 hku1), M.below⟩
theorem piece_any (p : List Nt) (P : Option Addr) (pc : Nat)  (w : World) (hP9 : Rd w w.heap.size 4 P p.length (ntc p)) (nP : p.length ≤ 1000)  :
   Calls Try.prog 40 #[.slice P p.length pc] w fun e w' => e = .returned (.int .i64 (pieceE p)) ∧ Below w.heap.size w w' := by
 obtain ⟨bP, oP, SP⟩ := Sp.old hP9
 refine Zpx noEx Try.func40 rfl 26 rfl [.slice P p.length pc] rfl rfl (Mem.init w _) ?_
 intro ac wc T M
 refine Zsr ?_
 refine lq T (Zra rfl evc) ?_; clear T ac; intro ac T
 replace T := T.pick [1] rfl
 refine Zln ?_
 refine wp_seq ?_
 refine Zsr ?_
 refine Zg3 T (Zq (Zrm rfl (T.e 0 rfl))) rfl (Zl Try.underlying44 0 rfl rfl) rfl (fun _ T => Zq (rn_gtr rfl (T.e 0 rfl) evc)) rfl ?_; clear T ac; intro ac T
 replace T := T.pick [0, 3] rfl
 refine Zln ?_
 refine wp_if (T.e 0 rfl) ?_ ?_
 ·intro h1
  refine Zsr ?_
  refine lq T (Zra rfl evc) ?_; clear T ac; intro ac T
  replace T := T.pick [0] rfl
  refine Zln ?_
  refine wp_ret ?_
  refine Zrt ?_
  refine rt_1 T rfl (T.e 0 rfl) ?_
  refine ⟨ret_int ?_, M.below⟩
  (try unfold ntE at H)
  unfold pieceE
  (try rw [H])
  (repeat' split) <;> first | rfl | omega | contradiction | (simp_all; done) | (simp_all; omega)
 intro h1
 refine Zsk ?_
 refine wp_seq ?_
 refine Zsr ?_
 refine Zg3 T (Zq (Zrm rfl (T.e 1 rfl))) rfl (Zl Try.underlying44 0 rfl rfl) rfl (fun _ T => Zq (Zrm rfl evc)) rfl ?_; clear T ac; intro ac T
 replace T := T.pick [0, 1, 2] rfl
 refine Zln ?_
 refine wp_block ?_
 refine wp_loop_n (fun mz ac wc => ∃ (k : Nat), mz = p.length - k ∧ (k ≤ p.length) ∧ (ntsE p = ntsE (p.drop k)) ∧ Tm ac 26 [(9, .slice P p.length pc), (10, .int .i64 ((p.length : Nat) : Int)), (11, .int .i64 (k : Int))] ∧ Mem w noEx wc []) ?_ ?_
 ·exact ⟨_, 0, rfl, (Nat.zero_le _), rfl, T.pick [2, 1, 0] rfl, M.mask [] rfl⟩
 clear T M
 rintro mz ac wc ⟨k, hmm1, hk, H, T, M⟩
 refine Zsr ?_
 refine lq T (rn_lss rfl (T.e 2 rfl) (T.e 1 rfl)) ?_; clear T ac; intro ac T
 refine Zln ?_
 refine wp_seq ?_
 refine wp_if (T.e 0 rfl) ?_ ?_
 ·intro h2
  obtain ⟨q, hkq, hd⟩ := ntc_next (l := p) (k := k) (by omega)
  rw [hd, ntsE] at H
  refine Zsk ?_
  refine wp_seq ?_
  refine wp_block ?_
  refine Zsr ?_
  refine Zg2 (v2 := (.agg #[.int .i64 q.sec, .int .i64 q.lo, .int .i64 q.hi, .bool q.rest])) T (Zq (Zri (size := 4) k rfl (T.e 1 rfl) (T.e 3 rfl) ⟨_, Try.underlying44, by kernel_rfl⟩ rfl (by omega) (SP.at0 (by omega)))) rfl (fun _ T => Zq (rn_rowat (Sp.ntcR SP M (Zz9 _) hkq) rfl (T.e 0 rfl) rfl)) rfl ?_; clear T ac; intro ac T
  refine Zl2 ?_
  refine Zoa M T rfl rfl rfl rfl ?_; clear M T; intro g1 wc ac M T
  refine Zl2 ?_
  refine Zos M T rfl rfl (T.e 0 rfl) (T.e 1 rfl) rfl .head rfl (by simp) rfl (by kernel_rfl) ?_; clear M T; intro wc ac M T
  replace T := T.pick [0, 4, 5, 6] rfl
  refine Zln ?_
  refine wp_seq ?_
  refine Zsr ?_
  refine Zg2 (v1 := (.pointer (some ⟨g1, 0, none⟩))) T (Zq (Zrf (off := 0) rfl (T.e 0 rfl) (fun _ _ _ => by kernel_rfl))) rfl (Zo M 0 0 rfl rfl rfl rfl) rfl ?_; clear T ac; intro ac T
  refine Zl2 ?_
  refine Zoc (first := []) (cap := []) T rfl rfl rfl rfl evf (.cons (T.e 0 rfl) (.cons evc (.cons evc .nil))) Try.func76 rfl rfl ?_
  refine Calls.mono (bin_any q.sec 1 20 _) ?_
  clear T; rintro e wc ⟨rfl, hb⟩ ac T
  replace M := M.call hb; clear hb
  refine lq T (rn_not rfl (T.e 0 rfl)) ?_; clear T ac; intro ac T
  replace T := T.pick [0, 4, 5, 6, 7] rfl
  refine Zln ?_
  refine wp_cond_split (T.e 0 rfl) ?_ ?_
  ·intro h3
   (have h3' := h3; try simp only [Zb1, Zb2, Zb3, Zb4, Zb5, Zb6, Zb7] at h3')
   refine Zsr ?_
   refine lq T (Zra rfl evc) ?_; clear T ac; intro ac T
   refine wpList_nil ?_
   replace T := T.pick [0] rfl
   replace M := M.mask [false] rfl
   refine Znr ?_
   refine Zrt ?_
   refine Zrb ?_
   refine Zrt ?_
   refine Zrt ?_
   refine Zrb ?_
   refine Zrt ?_
   refine rt_1 T rfl (T.e 0 rfl) ?_
   refine ⟨ret_int ?_, M.below⟩
   (try unfold ntE at H)
   unfold pieceE
   (try rw [H])
   (repeat' split) <;> first | rfl | omega | contradiction | (simp_all; done) | (simp_all; omega)
  intro h3
  (have h3' := h3; try simp only [Zb1, Zb2, Zb3, Zb4, Zb5, Zb6, Zb7] at h3')
  refine Zsk ?_
  refine Zsr ?_
  refine Zg2 (v1 := (.pointer (some ⟨g1, 1, none⟩))) T (Zq (Zrf (off := 1) rfl (T.e 1 rfl) (fun _ _ _ => by kernel_rfl))) rfl (Zr M 0 0 rfl rfl rfl rfl) rfl ?_; clear T ac; intro ac T
  refine Zl2 ?_
  refine Zoc (first := []) (cap := []) T rfl rfl rfl rfl evf (.cons (T.e 0 rfl) (.cons evc .nil)) Try.func99 rfl rfl ?_
  refine Calls.mono (bchkR_any q.lo q.hi 9 _) ?_
  clear T; rintro e wc ⟨rfl, hb⟩ ac T
  replace M := M.call hb; clear hb
  refine lq T (Zra rfl (T.e 0 rfl)) ?_; clear T ac; intro ac T
  refine wpList_nil ?_
  replace T := T.pick [0, 6, 7, 8] rfl
  replace M := M.mask [false] rfl
  refine nm_then ?_
  refine Zsr ?_
  refine Zg2 T (Zq (Zrm rfl (T.e 0 rfl))) rfl (fun _ T => Zq (rn_neq rfl (T.e 0 rfl) evc)) rfl ?_; clear T ac; intro ac T
  replace T := T.pick [0, 2, 3, 4, 5] rfl
  refine Zln ?_
  refine wp_ifn (T.e 0 rfl) ?_ ?_
  ·intro h4
   refine Zsr ?_
   refine Zg2 T (Zq (Zrm rfl (T.e 1 rfl))) rfl (Za 0 rfl rfl) rfl ?_; clear T ac; intro ac T
   replace T := T.pick [0] rfl
   refine Zln ?_
   refine wp_ret ?_
   refine Zrb ?_
   refine Zrt ?_
   refine Zrt ?_
   refine Zrb ?_
   refine Zrt ?_
   refine rt_1 T rfl (T.e 0 rfl) ?_
   refine ⟨ret_int ?_, M.below⟩
   (try unfold ntE at H)
   unfold pieceE
   (try rw [H])
   (repeat' split) <;> first | rfl | omega | contradiction | (simp_all; done) | (simp_all; omega)
  intro h4
  refine wp_skip ?_
  refine Znb ?_
  refine nm_then ?_
  refine wp_region_lit ?_
  refine lq T (rn_add rfl (T.e 4 rfl) evc (by omega)) ?_; clear T ac; intro ac T
  refine l_q (v := (.int .i64 ((k : Int) + 1))) (T.pick [0, 1, 2, 3, 4] rfl) rfl rfl rfl rfl (Zrm rfl (T.e 0 rfl)) ?_; clear T ac; intro ac T
  replace T := T.pick [0, 4, 5] rfl
  refine Zln ?_
  rw [if_pos (by unfold ntE; simp_all)] at H
  exact ⟨_, by omega, k + 1, rfl, (by omega), H, T.pick [1, 2, 0] rfl, M.mask [] rfl⟩
 intro h2
 rw [List.drop_of_length_le (by omega), ntsE] at H
 refine wp_exit ?_
 refine Zet ?_
 refine Zet ?_
 refine ex_hit ?_
 refine nm_then ?_
 refine Zsr ?_
 refine lq T (Zra rfl evc) ?_; clear T ac; intro ac T
 replace T := T.pick [0] rfl
 refine Zln ?_
 refine wp_ret ?_
 refine rt_1 T rfl (T.e 0 rfl) ?_
 refine ⟨ret_int ?_, M.below⟩
 (try unfold ntE at H)
 unfold pieceE
 (try rw [H])
 (repeat' split) <;> first | rfl | omega | contradiction | (simp_all; done) | (simp_all; omega)
theorem checkWays_any (p : List Nt) (P : Option Addr) (pc : Nat) (G : Option Addr) (n : Nat) (g : List Int)  (w : World) (hP9 : Rd w w.heap.size 4 P p.length (ntc p)) (nP : p.length ≤ 1000) (hG : Rd w w.heap.size 1 G g.length (ic g)) (nG : g.length ≤ 1000)  :
   Calls Try.prog 91 #[.slice P p.length pc, .slice G g.length n] w fun e w' => e = .returned (.int .i64 (waysE p g)) ∧ Below w.heap.size w w' := by
 obtain ⟨bP, oP, SP⟩ := Sp.old hP9
 obtain ⟨bG, oG, SG⟩ := Sp.old hG
 refine Zpx noEx Try.func91 rfl 51 rfl [.slice P p.length pc, .slice G g.length n] rfl rfl (Mem.init w _) ?_
 intro ac wc T M
 refine Zsr ?_
 refine lq T (Zra rfl evc) ?_; clear T ac; intro ac T
 replace T := T.pick [1, 2] rfl
 refine Zln ?_
 refine wp_seq ?_
 refine wp_block ?_
 refine Zsr ?_
 refine Zg6 T (Zq (Zrm rfl (T.e 1 rfl))) rfl (Zl Try.underlying28 0 rfl rfl) rfl (Zm 2 rfl rfl) rfl (Zl Try.underlying44 0 rfl rfl) rfl (fun _ T => Zq (rn_lss rfl (T.e 2 rfl) (T.e 0 rfl))) rfl (Za 0 rfl rfl) rfl ?_; clear T ac; intro ac T
 replace T := T.pick [0, 6, 7] rfl
 refine Zln ?_
 refine wp_if (T.e 0 rfl) ?_ ?_
 ·intro h1
  refine Zsr ?_
  refine lq T (Zra rfl evc) ?_; clear T ac; intro ac T
  replace T := T.pick [0] rfl
  refine Zln ?_
  refine wp_ret ?_
  refine Zrb ?_
  refine Zrt ?_
  refine rt_1 T rfl (T.e 0 rfl) ?_
  refine ⟨ret_int ?_, M.below⟩
  (try rw [hpv (by omega)] at H)
  (try rw [hp0 (by omega)] at H)
  unfold waysE
  (repeat' split) <;> first | rfl | omega | contradiction | (simp_all; done) | (simp_all; omega) | fail
 intro h1
 refine Zsr ?_
 refine Zg6 T (Zq (Zrm rfl (T.e 2 rfl))) rfl (Zl Try.underlying28 0 rfl rfl) rfl (Zm 3 rfl rfl) rfl (Zl Try.underlying44 0 rfl rfl) rfl (fun _ T => Zq (rn_gtr rfl (T.e 2 rfl) (T.e 0 rfl))) rfl (Za 0 rfl rfl) rfl ?_; clear T ac; intro ac T
 replace T := T.pick [0, 7, 8] rfl
 refine Zln ?_
 refine wp_if (T.e 0 rfl) ?_ ?_
 ·intro h2
  refine Zsr ?_
  refine lq T (Zra rfl evc) ?_; clear T ac; intro ac T
  replace T := T.pick [0] rfl
  refine Zln ?_
  refine wp_ret ?_
  refine Zrb ?_
  refine Zrt ?_
  refine rt_1 T rfl (T.e 0 rfl) ?_
  refine ⟨ret_int ?_, M.below⟩
  (try rw [hpv (by omega)] at H)
  (try rw [hp0 (by omega)] at H)
  unfold waysE
  (repeat' split) <;> first | rfl | omega | contradiction | (simp_all; done) | (simp_all; omega) | fail
 intro h2
 refine wp_skip ?_
 refine Znb ?_
 refine Zns ?_
 refine Zsr ?_
 refine Zg3 T (Zq (Zrm rfl (T.e 2 rfl))) rfl (Zl Try.underlying28 0 rfl rfl) rfl (fun _ T => Zq (Zrm rfl evc)) rfl ?_; clear T ac; intro ac T
 replace T := T.pick [0, 1, 2, 4, 5] rfl
 refine Zln ?_
 refine wp_block ?_
 refine wp_loop_n (fun mz ac wc => ∃ (k : Nat), mz = g.length - k ∧ (k ≤ g.length) ∧ (wyE p g none = wyE (p.drop k) (g.drop k) (prevE g k)) ∧ Tm ac 51 [(0, .slice P p.length pc), (1, .slice G g.length n), (19, .slice G g.length n), (20, .int .i64 ((g.length : Nat) : Int)), (21, .int .i64 (k : Int))] ∧ Mem w noEx wc []) ?_ ?_
 ·exact ⟨_, 0, rfl, (Nat.zero_le _), rfl, T.pick [3, 4, 2, 1, 0] rfl, M.mask [] rfl⟩
 clear T M
 rintro mz ac wc ⟨k, hmm1, hk, H, T, M⟩
 refine Zsr ?_
 refine lq T (rn_lss rfl (T.e 4 rfl) (T.e 3 rfl)) ?_; clear T ac; intro ac T
 refine Zln ?_
 refine wp_seq ?_
 refine wp_if (T.e 0 rfl) ?_ ?_
 ·intro h3
  obtain ⟨x, hkx, hd⟩ := ic_next (l := g) (k := k) (by omega)
  obtain ⟨y, hky, hd2⟩ := ntc_next (l := p) (k := k) (by omega)
  rw [hd, hd2, wyE] at H
  obtain ⟨q, hq, hpv⟩ : ∃ q, (0 < k → g[k - 1]? = some q) ∧ (0 < k → prevE g k = some q) := ⟨g.getD (k - 1) 0, fun h => by rw [List.getD_eq_getElem?_getD, List.getElem?_eq_getElem (by omega : k - 1 < g.length)]; rfl, fun h => by unfold prevE; rw [if_neg (by omega)]⟩
  have hp0 : k = 0 → prevE g k = none := fun h => by unfold prevE; rw [if_pos h]
  refine Zsk ?_
  refine wp_seq ?_
  refine wp_block ?_
  refine Zsr ?_
  refine Zg5 T (Zq (Zrm rfl (T.e 5 rfl))) rfl (fun _ T => Zq (Zri (size := 1) k rfl (T.e 4 rfl) (T.e 6 rfl) ⟨_, Try.underlying28, by kernel_rfl⟩ rfl (by omega) (SG.at0 (by omega)))) rfl (fun _ T => Zq (rn_cell (Sp.ic0 SG M (Zz9 _) hkx) rfl (T.e 0 rfl))) rfl (Za 2 rfl rfl) rfl (Za 1 rfl rfl) rfl ?_; clear T ac; intro ac T
  replace T := T.pick [0, 1, 6, 7, 8, 9, 10] rfl
  refine Zln ?_
  refine wp_block ?_
  refine Zsr ?_
  refine lq T (Zrm rfl (T.e 0 rfl)) ?_; clear T ac; intro ac T
  refine Zl2 ?_
  refine Zoc (first := []) (cap := []) T rfl rfl rfl rfl evf (.cons (T.e 0 rfl) (.cons evc (.cons evc .nil))) Try.func76 rfl rfl ?_
  refine Calls.mono (bin_any x 1 2 _) ?_
  clear T; rintro e wc ⟨rfl, hb⟩ ac T
  replace M := M.call hb; clear hb
  refine Zg2 T (Zq (rn_not rfl (T.e 0 rfl))) rfl (Za 0 rfl rfl) rfl ?_; clear T ac; intro ac T
  replace T := T.pick [0, 4, 5, 6, 7, 8, 9, 10] rfl
  refine Zln ?_
  refine wp_cond_split (T.e 0 rfl) ?_ ?_
  ·intro h4
   (have h4' := h4; try simp only [Zb1, Zb2, Zb3, Zb4, Zb5, Zb6, Zb7] at h4')
   refine Zsr ?_
   refine lq T (Zra rfl evc) ?_; clear T ac; intro ac T
   replace T := T.pick [0] rfl
   refine Zln ?_
   refine wp_ret ?_
   refine Zrb ?_
   refine Zrb ?_
   refine Zrt ?_
   refine Zrt ?_
   refine Zrb ?_
   refine Zrt ?_
   refine rt_1 T rfl (T.e 0 rfl) ?_
   refine ⟨ret_int ?_, M.below⟩
   (try rw [hpv (by omega)] at H)
   (try rw [hp0 (by omega)] at H)
   unfold waysE
   (repeat' split) <;> first | rfl | omega | contradiction | (simp_all; done) | (simp_all; omega) | fail
  intro h4
  (have h4' := h4; try simp only [Zb1, Zb2, Zb3, Zb4, Zb5, Zb6, Zb7] at h4')
  refine cut_seq (fun ac wc => Tm ac 51 [(0, .slice P p.length pc), (1, .slice G g.length n), (19, .slice G g.length n), (20, .int .i64 ((g.length : Nat) : Int)), (21, .int .i64 (k : Int)), (30, .bool ((decide (0 < (k : Int))) && ((!(decide (x = q))) && (!y.rest))))] ∧ Mem w noEx wc []) ?_ ?_
  ·refine wp_region_lit ?_
   refine Zg3 T (Zq (Zrm rfl (T.e 2 rfl))) rfl (fun _ T => Zq (rn_gtr rfl (T.e 0 rfl) evc)) rfl (Zm 0 rfl rfl) rfl ?_; clear T ac; intro ac T
   rcases Bool.eq_false_or_eq_true (decide (0 < (k : Int))) with h5 | h5
   ·replace h5 := of_decide_eq_true h5
    refine Zg8 T (Zw (Zwy rfl rfl (T.e 0 rfl) (Zdt h5)) (Zrm rfl (T.e 4 rfl))) rfl (fun _ T => Zw (Zwy rfl rfl (T.e 1 rfl) (Zdt h5)) (Zrm rfl (T.e 8 rfl))) rfl (fun _ T => Zw (Zwy rfl rfl (T.e 2 rfl) (Zdt h5)) (Zrm rfl (T.e 7 rfl))) rfl (fun _ T => Zw (Zwy rfl rfl (T.e 3 rfl) (Zdt h5)) (rn_sub rfl (T.e 0 rfl) evc (by omega))) rfl (fun _ T => Zw (Zwy rfl rfl (T.e 4 rfl) (Zdt h5)) (Zri (size := 1) (k - 1) rfl (T.e 2 rfl) (T.e 0 rfl) ⟨_, Try.underlying28, by kernel_rfl⟩ (by omega) (by omega) (SG.at0 (by omega)))) rfl (fun _ T => Zw (Zwy rfl rfl (T.e 5 rfl) (Zdt h5)) (rn_cell (Sp.ic0 SG M (Zz9 _) (hq (by omega))) rfl (T.e 0 rfl))) rfl (fun _ T => Zw (Zwy rfl rfl (T.e 6 rfl) (Zdt h5)) (rn_neq rfl (T.e 5 rfl) (T.e 0 rfl))) rfl (fun _ T => Zq (Zr1 rfl (T.e 7 rfl) (Zdt h5) (T.e 0 rfl))) rfl ?_; clear T ac; intro ac T
    refine lq T (Zrm rfl (T.e 0 rfl)) ?_; clear T ac; intro ac T
    rcases Bool.eq_false_or_eq_true (!(decide (x = q))) with h6 | h6
    ·replace h6 : ¬ (x = q) := by first | (rw [Bool.not_eq_true'] at h6; exact of_decide_eq_false h6) | simpa using h6
     refine Zg8 T (Zw (Zwy rfl rfl (T.e 0 rfl) (by simp [h6])) (Zrm rfl (T.e 15 rfl))) rfl (fun _ T => Zw (Zwy rfl rfl (T.e 1 rfl) (by simp [h6])) (Zrm rfl (T.e 15 rfl))) rfl (fun _ T => Zw (Zwy rfl rfl (T.e 2 rfl) (by simp [h6])) (Zri (size := 4) k rfl (T.e 1 rfl) (T.e 0 rfl) ⟨_, Try.underlying44, by kernel_rfl⟩ rfl (by omega) (SP.at0 (by omega)))) rfl (fun _ T => Zw (Zwy rfl rfl (T.e 3 rfl) (by simp [h6])) (Zrf (off := 3) rfl (T.e 0 rfl) (fun _ _ _ => by kernel_rfl))) rfl (fun _ T => Zw (Zwy rfl rfl (T.e 4 rfl) (by simp [h6])) (rn_cell (Sp.ntcC3 SP M (Zz9 _) hky) rfl (T.e 0 rfl))) rfl (fun _ T => Zw (Zwy rfl rfl (T.e 5 rfl) (by simp [h6])) (rn_not rfl (T.e 0 rfl))) rfl (fun _ T => Zq (Zr1 rfl (T.e 6 rfl) (by simp [h6]) (T.e 0 rfl))) rfl (Za 0 rfl rfl) rfl ?_; clear T ac; intro ac T
     refine wpList_nil ?_
     replace T := T.pick [0, 2, 3, 4, 5, 6, 7, 10, 11, 12, 13, 14, 15, 16, 23, 24, 25, 26, 27] rfl
     exact ⟨(T.pick (E' := [(0, .slice P p.length pc), (1, .slice G g.length n), (19, .slice G g.length n), (20, .int .i64 ((g.length : Nat) : Int)), (21, .int .i64 (k : Int)), (30, .bool (!y.rest))]) [14, 15, 16, 17, 18, 0] rfl).as (by (try rw [show (decide (0 < (k : Int))) = true from (Zdt h5)]); (try rw [show (!(decide (x = q))) = true from (by simp [h6])]); (try rfl)), M.mask [] rfl⟩
    replace h6 : x = q := by first | (rw [Bool.not_eq_false'] at h6; exact of_decide_eq_true h6) | simpa using h6
    refine Zg8 T (Zp (Zwn rfl rfl (T.e 0 rfl) (by simp [h6]))) rfl (fun _ T => Zp (Zwn rfl rfl (T.e 1 rfl) (by simp [h6]))) rfl (fun _ T => Zp (Zwn rfl rfl (T.e 2 rfl) (by simp [h6]))) rfl (fun _ T => Zp (Zwn rfl rfl (T.e 3 rfl) (by simp [h6]))) rfl (fun _ T => Zp (Zwn rfl rfl (T.e 4 rfl) (by simp [h6]))) rfl (fun _ T => Zp (Zwn rfl rfl (T.e 5 rfl) (by simp [h6]))) rfl (fun _ T => Zq (Zr0 rfl (T.e 6 rfl) (by simp [h6]) evc)) rfl (Za 0 rfl rfl) rfl ?_; clear T ac; intro ac T
    refine wpList_nil ?_
    replace T := T.pick [0, 2, 3, 4, 5, 6, 7, 10, 11, 12, 13, 14, 15, 16, 23, 24, 25, 26, 27] rfl
    exact ⟨(T.pick (E' := [(0, .slice P p.length pc), (1, .slice G g.length n), (19, .slice G g.length n), (20, .int .i64 ((g.length : Nat) : Int)), (21, .int .i64 (k : Int)), (30, .bool false)]) [14, 15, 16, 17, 18, 0] rfl).as (by (try rw [show (decide (0 < (k : Int))) = true from (Zdt h5)]); (try rw [show (!(decide (x = q))) = false from (by simp [h6])]); (try rfl)), M.mask [] rfl⟩
   replace h5 := of_decide_eq_false h5
   refine Zg8 T (Zp (Zwn rfl rfl (T.e 0 rfl) (Zdf h5))) rfl (fun _ T => Zp (Zwn rfl rfl (T.e 1 rfl) (Zdf h5))) rfl (fun _ T => Zp (Zwn rfl rfl (T.e 2 rfl) (Zdf h5))) rfl (fun _ T => Zp (Zwn rfl rfl (T.e 3 rfl) (Zdf h5))) rfl (fun _ T => Zp (Zwn rfl rfl (T.e 4 rfl) (Zdf h5))) rfl (fun _ T => Zp (Zwn rfl rfl (T.e 5 rfl) (Zdf h5))) rfl (fun _ T => Zp (Zwn rfl rfl (T.e 6 rfl) (Zdf h5))) rfl (fun _ T => Zq (Zr0 rfl (T.e 7 rfl) (Zdf h5) evc)) rfl ?_; clear T ac; intro ac T
   refine Zg8 T (Zq (Zrm rfl (T.e 0 rfl))) rfl (fun _ T => Zp (Zwn rfl rfl (T.e 0 rfl) rfl)) rfl (fun _ T => Zp (Zwn rfl rfl (T.e 1 rfl) rfl)) rfl (fun _ T => Zp (Zwn rfl rfl (T.e 2 rfl) rfl)) rfl (fun _ T => Zp (Zwn rfl rfl (T.e 3 rfl) rfl)) rfl (fun _ T => Zp (Zwn rfl rfl (T.e 4 rfl) rfl)) rfl (fun _ T => Zp (Zwn rfl rfl (T.e 5 rfl) rfl)) rfl (fun _ T => Zq (Zr0 rfl (T.e 6 rfl) rfl evc)) rfl ?_; clear T ac; intro ac T
   refine lq T (Zra rfl (T.e 0 rfl)) ?_; clear T ac; intro ac T
   refine wpList_nil ?_
   replace T := T.pick [0, 2, 3, 4, 5, 6, 7, 10, 11, 12, 13, 14, 15, 16, 23, 24, 25, 26, 27] rfl
   exact ⟨(T.pick (E' := [(0, .slice P p.length pc), (1, .slice G g.length n), (19, .slice G g.length n), (20, .int .i64 ((g.length : Nat) : Int)), (21, .int .i64 (k : Int)), (30, .bool false)]) [14, 15, 16, 17, 18, 0] rfl).as (by (try rw [show (decide (0 < (k : Int))) = false from (Zdf h5)]); (try rfl)), M.mask [] rfl⟩
  clear T M
  rintro ac wc ⟨T, M⟩
  refine wp_cond_split (T.e 5 rfl) ?_ ?_
  ·intro h7
   (have h7' := h7; try simp only [Zb1, Zb2, Zb3, Zb4, Zb5, Zb6, Zb7] at h7')
   refine Zsr ?_
   refine lq T (Zra rfl evc) ?_; clear T ac; intro ac T
   replace T := T.pick [0] rfl
   refine Zln ?_
   refine wp_ret ?_
   refine Zrb ?_
   refine Zrb ?_
   refine Zrt ?_
   refine Zrt ?_
   refine Zrb ?_
   refine Zrt ?_
   refine rt_1 T rfl (T.e 0 rfl) ?_
   refine ⟨ret_int ?_, M.below⟩
   (try rw [hpv (by omega)] at H)
   (try rw [hp0 (by omega)] at H)
   unfold waysE
   (repeat' split) <;> first | rfl | omega | contradiction | (simp_all; done) | (simp_all; omega) | fail
  intro h7
  (have h7' := h7; try simp only [Zb1, Zb2, Zb3, Zb4, Zb5, Zb6, Zb7] at h7')
  refine wp_skip ?_
  refine Znb ?_
  refine Znb ?_
  refine nm_then ?_
  refine wp_region_lit ?_
  refine lq T (rn_add rfl (T.e 4 rfl) evc (by omega)) ?_; clear T ac; intro ac T
  refine l_q (v := (.int .i64 ((k : Int) + 1))) (T.pick [0, 1, 2, 3, 4, 6] rfl) rfl rfl rfl rfl (Zrm rfl (T.e 0 rfl)) ?_; clear T ac; intro ac T
  replace T := T.pick [0, 2, 3, 4, 5] rfl
  refine Zln ?_
  have hlp : ¬ (((prevE g k).isSome = true ∧ prevE g k ≠ some x) ∧ y.rest = false) := by
    rintro ⟨⟨k1, k2⟩, k3⟩
    rcases Nat.eq_zero_or_pos k with hk0 | hk0
    · rw [hp0 hk0] at k1; cases k1
    · rw [hpv hk0] at k2; first | (exfalso; apply k2; congr 1; omega) | (simp_all; done) | (exfalso; omega)
  rw [if_neg (by simp_all), if_neg hlp, ← prevE_succ hkx] at H
  exact ⟨_, by omega, k + 1, rfl, (by omega), H, T.pick [1, 2, 3, 4, 0] rfl, M.mask [] rfl⟩
 intro h3
 rw [List.drop_of_length_le (l := g) (by omega), List.drop_of_length_le (l := p) (by omega), show wyE [] [] (prevE g k) = 0 from rfl] at H
 refine wp_exit ?_
 refine Zet ?_
 refine Zet ?_
 refine ex_hit ?_
 refine nm_then ?_
 refine Zsr ?_
 refine lq T (Zra rfl evc) ?_; clear T ac; intro ac T
 replace T := T.pick [0] rfl
 refine Zln ?_
 refine wp_ret ?_
 refine rt_1 T rfl (T.e 0 rfl) ?_
 refine ⟨ret_int ?_, M.below⟩
 (try rw [hpv (by omega)] at H)
 (try rw [hp0 (by omega)] at H)
 unfold waysE
 (repeat' split) <;> first | rfl | omega | contradiction | (simp_all; done) | (simp_all; omega) | fail
theorem total_any (x : L4) (G : Option Addr) (n : Nat) (g : List Int)  (w : World) (hx : x.ok) (hG : Rd w w.heap.size 1 G g.length (ic g)) (nG : g.length ≤ 1000) (hg : ∀ c ∈ g, 0 ≤ c ∧ c < 4)  :
   Calls Try.prog 79 #[.agg #[.int .i64 x.a, .int .i64 x.b, .int .i64 x.c, .int .i64 x.d], .slice G g.length n] w fun e w' => e = .returned (.int .i64 (totL x.l g)) ∧ Below w.heap.size w w' := by
 obtain ⟨bG, oG, SG⟩ := Sp.old hG
 refine Zpx noEx Try.func79 rfl 21 rfl [.agg #[.int .i64 x.a, .int .i64 x.b, .int .i64 x.c, .int .i64 x.d], .slice G g.length n] rfl rfl (Mem.init w _) ?_
 intro ac wc T M
 refine Zsr ?_
 refine Zl2 ?_
 refine Zob M T rfl rfl rfl rfl (T.e 0 rfl) rfl ?_; clear M T; intro g1 wc ac M T
 refine lq T (Zra rfl evc) ?_; clear T ac; intro ac T
 replace T := T.pick [1, 3] rfl
 refine Zln ?_
 refine Zsr ?_
 refine lq T (Zra rfl evc) ?_; clear T ac; intro ac T
 refine Zln ?_
 refine wp_seq ?_
 refine Zsr ?_
 refine Zg3 T (Zq (Zrm rfl (T.e 2 rfl))) rfl (Zl Try.underlying28 0 rfl rfl) rfl (fun _ T => Zq (Zrm rfl evc)) rfl ?_; clear T ac; intro ac T
 replace T := T.pick [0, 1, 2, 3, 4] rfl
 refine Zln ?_
 refine wp_block ?_
 refine wp_loop_n (fun mz ac wc => ∃ (k : Nat) (s9 : Int), mz = g.length - k ∧ (k ≤ g.length) ∧ (s9 = totL x.l (g.take k)) ∧ (0 ≤ s9 ∧ s9 ≤ 5 * (k : Int)) ∧ Tm ac 21 [(2, .pointer (some ⟨g1, 0, none⟩)), (5, .int .i64 s9), (8, .slice G g.length n), (9, .int .i64 ((g.length : Nat) : Int)), (10, .int .i64 (k : Int))] ∧ Mem w noEx wc [(g1, .cells [.int .i64 x.a, .int .i64 x.b, .int .i64 x.c, .int .i64 x.d])]) ?_ ?_
 ·exact ⟨_, 0, 0, rfl, (Nat.zero_le _), rfl, (by omega), T.pick [4, 3, 2, 1, 0] rfl, M.mask [true] rfl⟩
 clear T M
 rintro mz ac wc ⟨k, s9, hmm1, hk, H, hs, T, M⟩
 refine Zsr ?_
 refine lq T (rn_lss rfl (T.e 4 rfl) (T.e 3 rfl)) ?_; clear T ac; intro ac T
 refine Zln ?_
 refine wp_seq ?_
 refine wp_if (T.e 0 rfl) ?_ ?_
 ·intro h1
  obtain ⟨q, hkq, -⟩ := ic_next (l := g) (k := k) (by omega)
  have hq4 := hg _ (List.mem_of_getElem? hkq)
  have hgt := hx.get q.toNat
  refine Zsk ?_
  refine wp_seq ?_
  refine wp_block ?_
  refine Zsr ?_
  refine Zg3 T (Zq (Zri (size := 1) k rfl (T.e 3 rfl) (T.e 5 rfl) ⟨_, Try.underlying28, by kernel_rfl⟩ rfl (by omega) (SG.at0 (by omega)))) rfl (fun _ T => Zq (rn_cell (Sp.ic0 SG M (Zz9 _) hkq) rfl (T.e 0 rfl))) rfl (Za 0 rfl rfl) rfl ?_; clear T ac; intro ac T
  replace T := T.pick [0, 4, 5, 6, 7, 8] rfl
  refine Zln ?_
  refine wp_region_lit ?_
  refine Zg5 (v3 := (.pointer (some ((⟨g1, 0, none⟩ : Addr).add (q.toNat * 1))))) (v4 := (.int .i64 (x.l.getD q.toNat 0))) T (Zq (Zrm rfl (T.e 2 rfl))) rfl (Zm 1 rfl rfl) rfl (fun _ T => Zq (rn_indexG (size := 1) q.toNat rfl (T.e 3 rfl) (T.e 0 rfl) (by omega) Try.underlying109 (by kernel_rfl) (by omega))) rfl (fun _ T => Zq (rn_cell (l4At (M.nth 0 rfl) (by omega)) rfl (T.e 0 rfl))) rfl (fun _ T => Zq (rn_add rfl (T.e 3 rfl) (T.e 0 rfl) (by omega))) rfl ?_; clear T ac; intro ac T
  refine l_q (v := (.int .i64 (s9 + (x.l.getD q.toNat 0)))) (T.pick [0, 1, 2, 3, 4, 5, 6, 8, 9, 10] rfl) rfl rfl rfl rfl (Zra rfl (T.e 0 rfl)) ?_; clear T ac; intro ac T
  refine wpList_nil ?_
  replace T := T.pick [0, 7, 8, 9, 10] rfl
  refine Znb ?_
  refine nm_then ?_
  refine wp_region_lit ?_
  refine lq T (rn_add rfl (T.e 4 rfl) evc (by omega)) ?_; clear T ac; intro ac T
  refine l_q (v := (.int .i64 ((k : Int) + 1))) (T.pick [0, 1, 2, 3, 4] rfl) rfl rfl rfl rfl (Zrm rfl (T.e 0 rfl)) ?_; clear T ac; intro ac T
  replace T := T.pick [0, 2, 3, 4, 5] rfl
  refine Zln ?_
  exact ⟨_, by omega, k + 1, (s9 + (x.l.getD q.toNat 0)), rfl, (by omega), (by rw [totL_succ _ _ hkq, ← H]), (by push_cast; omega), T.pick [2, 1, 3, 4, 0] rfl, M.mask [true] rfl⟩
 intro h1
 rw [List.take_of_length_le (by omega)] at H
 refine wp_exit ?_
 refine Zet ?_
 refine Zet ?_
 refine ex_hit ?_
 refine nm_then ?_
 refine Zsr ?_
 refine Zg2 T (Zq (Zrm rfl (T.e 2 rfl))) rfl (Za 0 rfl rfl) rfl ?_; clear T ac; intro ac T
 refine wpList_nil ?_
 replace T := T.pick [0] rfl
 replace M := M.mask [false] rfl
 refine Znr ?_
 refine rt_1 T rfl (T.e 0 rfl) ?_
 refine ⟨ret_int H, M.below⟩
def CornPost (n : Nat) (but : List Int) (w : World) (e : Ending) (w' : World) : Prop := ∃ A c I, e = .returned (.slice A (cornL n but).length c) ∧ Cl 3 1 A (cornL n but).length c (ic (cornL n but)) I ∧ Mem w noEx w' I
theorem corners_any (b : Bw) (A : Option Addr) (c : Nat) (D : Option Addr) (d : Nat) (G : Option Addr) (n : Nat) (g : List Int)  (w : World) (nA : b.cs.length ≤ 1000) (hG : Rd w w.heap.size 1 G g.length (ic g)) (nG : g.length ≤ 1000)  :
   Calls Try.prog 78 #[.agg #[.int .i64 b.full, .int .i64 b.a0, .int .i64 b.a1, .slice A b.cs.length c, .slice D b.ts.length d], .slice G g.length n] w (CornPost b.cs.length g w) := by
 obtain ⟨bG, oG, SG⟩ := Sp.old hG
 refine Zpx noEx Try.func78 rfl 23 rfl [.agg #[.int .i64 b.full, .int .i64 b.a0, .int .i64 b.a1, .slice A b.cs.length c, .slice D b.ts.length d], .slice G g.length n] rfl rfl (Mem.init w _) ?_
 intro ac wc T M
 refine Zsr ?_
 refine Zl2 ?_
 refine Zob M T rfl rfl rfl rfl (T.e 0 rfl) rfl ?_; clear M T; intro g1 wc ac M T
 refine lq T (Zra rfl evc) ?_; clear T ac; intro ac T
 replace T := T.pick [1, 3] rfl
 refine Zln ?_
 refine Zsr ?_
 refine lq T (Zra rfl evc) ?_; clear T ac; intro ac T
 refine Zln ?_
 refine wp_seq ?_
 refine Zsr ?_
 refine Zg4 (v1 := (.pointer (some ⟨g1, 3, none⟩))) T (Zq (Zrf (off := 3) rfl (T.e 1 rfl) (fun _ _ _ => by kernel_rfl))) rfl (Zo M 0 0 rfl rfl rfl rfl) rfl (Zl Try.underlying24 0 rfl rfl) rfl (fun _ T => Zq (Zrm rfl evc)) rfl ?_; clear T ac; intro ac T
 refine wpList_nil ?_
 replace T := T.pick [0, 1, 4, 6] rfl
 replace M := M.mask [false] rfl
 refine nm_then ?_
 refine wp_block ?_
 refine wp_loop_n (fun mz ac wc => ∃ (k : Nat) (OL : List Int) (A3 : Option Addr) (c3 : Nat) (Io : List (Nat × BA)), mz = b.cs.length - k ∧ (k ≤ b.cs.length) ∧ (OL = cornL k g) ∧ (OL.length ≤ k) ∧ (Sl 3 1 (.slice A3 OL.length c3) OL.length (ic OL) Io) ∧ Tm ac 23 [(1, .slice G g.length n), (5, .slice A3 OL.length c3), (9, .int .i64 ((b.cs.length : Nat) : Int)), (10, .int .i64 (k : Int))] ∧ Mem w noEx wc (Io)) ?_ ?_
 ·exact ⟨_, 0, [], none, 0, [], rfl, (Nat.zero_le _), rfl, (Nat.zero_le _), (Sl.nil _ _), T.pick [3, 2, 1, 0] rfl, M.mask [] rfl⟩
 clear T M
 rintro mz ac wc ⟨k, OL, A3, c3, Io, hmm1, hk, hO, hOl, hsl, T, M⟩
 refine Zsr ?_
 refine lq T (rn_lss rfl (T.e 3 rfl) (T.e 2 rfl)) ?_; clear T ac; intro ac T
 refine Zln ?_
 refine wp_seq ?_
 refine wp_if (T.e 0 rfl) ?_ ?_
 ·intro h1
  refine Zsk ?_
  refine wp_seq ?_
  refine wp_block ?_
  refine Zsr ?_
  refine Zg2 T (Zq (Zrm rfl (T.e 4 rfl))) rfl (Za 0 rfl rfl) rfl ?_; clear T ac; intro ac T
  replace T := T.pick [0, 3, 4, 5, 6] rfl
  refine Zln ?_
  refine Zsr ?_
  refine Zg2 T (Zq (Zrm rfl (T.e 1 rfl))) rfl (Zm 1 rfl rfl) rfl ?_; clear T ac; intro ac T
  refine Zl2 ?_
  refine Zoc (first := []) (cap := []) T rfl rfl rfl rfl evf (.cons (T.e 1 rfl) (.cons (T.e 0 rfl) .nil)) Try.func118 rfl rfl ?_
  refine Calls.mono (contains_any G n g (k : Int) _ (SG.rd M (Zz9 _)) (by omega)) ?_
  clear T; rintro e wc ⟨rfl, hb⟩ ac T
  replace M := M.call hb; clear hb
  refine lq T (rn_not rfl (T.e 0 rfl)) ?_; clear T ac; intro ac T
  replace T := T.pick [0, 4, 5, 6, 7, 8] rfl
  refine Zln ?_
  refine wp_ifn (T.e 0 rfl) ?_ ?_
  ·intro h2
   refine wp_region_lit ?_
   refine Zg2 T (Zq (Zrm rfl (T.e 3 rfl))) rfl (Zm 2 rfl rfl) rfl ?_; clear T ac; intro ac T
   refine Zl2 ?_
   refine ow_bs (e := 3) [.int .i64 (k : Int)] M T rfl rfl rfl rfl (.cons (T.e 0 rfl) .nil) (fun _ => by kernel_rfl) ?_; clear M T; intro g2 wc ac M T
   refine Zl2 ?_
   refine ow_app ([(g2, .cells [.int .i64 (k : Int)])]) Try.info3 hsl M (by first | rfl | simp) T rfl rfl rfl rfl Try.underlying28 rfl rfl rfl (by omega) (T.e 2 rfl) (T.e 0 rfl) (Zne (i := 0) rfl) rfl rfl ?_; clear M T; intro ga1 cga1 wc ac M T
   refine l_q (v := (.slice (some ⟨ga1, 0, none⟩) (OL.length + 1) cga1)) (T.pick [0, 1, 2, 3, 4, 5, 6, 8, 9] rfl) rfl rfl rfl rfl (Zra rfl (T.e 0 rfl)) ?_; clear T ac; intro ac T
   refine wpList_nil ?_
   replace T := T.pick [0, 7, 8, 9] rfl
   replace M := M.mask [true, false] rfl
   refine Znb ?_
   refine nm_then ?_
   refine wp_region_lit ?_
   refine lq T (rn_add rfl (T.e 3 rfl) evc (by omega)) ?_; clear T ac; intro ac T
   refine l_q (v := (.int .i64 ((k : Int) + 1))) (T.pick [0, 1, 2, 3] rfl) rfl rfl rfl rfl (Zrm rfl (T.e 0 rfl)) ?_; clear T ac; intro ac T
   replace T := T.pick [0, 2, 3, 4] rfl
   refine Zln ?_
   have e9 : OL.length + 1 = (OL ++ [(k : Int)]).length := by simp
   have e8 : ((ic OL) ++ [.int .i64 (k : Int)]) = ic (OL ++ [(k : Int)]) := by rw [← ic_snoc]
   rw [e9, e8] at M
   rw [e9] at T
   clear e9 e8
   exact ⟨_, by omega, k + 1, (OL ++ [(k : Int)]), _, _, [(ga1, .row 3 1 (OL ++ [(k : Int)]).length (ic (OL ++ [(k : Int)])) cga1)], rfl, (by omega), (by rw [cornL_succ, if_neg (by assumption), ← hO]), (by simp; omega), (Sl.row _ _ _ _ _ _), T.pick [2, 1, 3, 0] rfl, ((M.permT [0] 1 rfl rfl rfl rfl).sub (Zsl ([(ga1, .row 3 1 (OL ++ [(k : Int)]).length (ic (OL ++ [(k : Int)])) cga1)] : List (Nat × BA)) _))⟩
  intro h2
  refine wp_skip ?_
  refine Znb ?_
  refine nm_then ?_
  refine wp_region_lit ?_
  refine lq T (rn_add rfl (T.e 5 rfl) evc (by omega)) ?_; clear T ac; intro ac T
  refine l_q (v := (.int .i64 ((k : Int) + 1))) (T.pick [0, 1, 2, 3, 4, 5] rfl) rfl rfl rfl rfl (Zrm rfl (T.e 0 rfl)) ?_; clear T ac; intro ac T
  replace T := T.pick [0, 4, 5, 6] rfl
  refine Zln ?_
  exact ⟨_, by omega, k + 1, OL, A3, c3, Io, rfl, (by omega), (by rw [cornL_succ, if_pos (by assumption)]; exact hO), (by omega), hsl, T.pick [1, 2, 3, 0] rfl, M⟩
 intro h1
 obtain rfl : k = b.cs.length := by omega
 refine wp_exit ?_
 refine Zet ?_
 refine Zet ?_
 refine ex_hit ?_
 refine nm_then ?_
 refine Zsr ?_
 refine Zg2 T (Zq (Zrm rfl (T.e 2 rfl))) rfl (Za 0 rfl rfl) rfl ?_; clear T ac; intro ac T
 replace T := T.pick [0] rfl
 refine Zln ?_
 refine wp_ret ?_
 refine rt_1 T rfl (T.e 0 rfl) ?_
 obtain ⟨Aq, cq, hq, hCq⟩ := sl_cl hsl
 injection hq with hq1 _ hq2
 subst hq1 hq2
 subst hO
 exact ⟨_, _, Io, rfl, hCq, M.mask [] rfl⟩
theorem works1_any (x y : Int)  (w : World) (hxy : -1000000 ≤ x ∧ x ≤ 1000000 ∧ -1000000 ≤ y ∧ y ≤ 1000000)  :
  Calls Try.prog 119 #[.int .i64 x, .int .i64 y] w fun e w' => e = .returned (.int .i64 (x - y)) ∧ Below w.heap.size w w' := by
 refine Zpx noEx Try.func119 rfl 8 rfl [.int .i64 x, .int .i64 y] rfl rfl (Mem.init w _) ?_
 intro ac wc T M
 refine Zsr ?_
 refine lq T (Zra rfl evc) ?_; clear T ac; intro ac T
 replace T := T.pick [1, 2] rfl
 refine Zln ?_
 refine Zsr ?_
 refine Zg4 T (Zq (Zrm rfl (T.e 0 rfl))) rfl (Zm 2 rfl rfl) rfl (fun _ T => Zq (rn_sub rfl (T.e 1 rfl) (T.e 0 rfl) (by omega))) rfl (Za 0 rfl rfl) rfl ?_; clear T ac; intro ac T
 replace T := T.pick [0] rfl
 refine Zln ?_
 refine wp_ret ?_
 refine rt_1 T rfl (T.e 0 rfl) ?_
 exact ⟨rfl, M.below⟩
theorem works2_any (x y : Int)  (w : World)  :
  Calls Try.prog 120 #[.int .i64 x, .int .i64 y] w fun e w' => e = .returned (.int .i64 x) ∧ Below w.heap.size w w' := by
 refine Zpx noEx Try.func120 rfl 6 rfl [.int .i64 x, .int .i64 y] rfl rfl (Mem.init w _) ?_
 intro ac wc T M
 refine Zsr ?_
 refine lq T (Zra rfl evc) ?_; clear T ac; intro ac T
 replace T := T.pick [1] rfl
 refine Zln ?_
 refine Zsr ?_
 refine Zg2 T (Zq (Zrm rfl (T.e 0 rfl))) rfl (Za 0 rfl rfl) rfl ?_; clear T ac; intro ac T
 replace T := T.pick [0] rfl
 refine Zln ?_
 refine wp_ret ?_
 refine rt_1 T rfl (T.e 0 rfl) ?_
 exact ⟨rfl, M.below⟩
theorem works3_any (x y : Int)  (w : World) (hxy : -1000000 ≤ x ∧ x ≤ 1000000 ∧ -1000000 ≤ y ∧ y ≤ 1000000)  :
  Calls Try.prog 121 #[.int .i64 x, .int .i64 y] w fun e w' => e = .returned (.int .i64 (x + y)) ∧ Below w.heap.size w w' := by
 refine Zpx noEx Try.func121 rfl 8 rfl [.int .i64 x, .int .i64 y] rfl rfl (Mem.init w _) ?_
 intro ac wc T M
 refine Zsr ?_
 refine lq T (Zra rfl evc) ?_; clear T ac; intro ac T
 replace T := T.pick [1, 2] rfl
 refine Zln ?_
 refine Zsr ?_
 refine Zg4 T (Zq (Zrm rfl (T.e 0 rfl))) rfl (Zm 2 rfl rfl) rfl (fun _ T => Zq (rn_add rfl (T.e 1 rfl) (T.e 0 rfl) (by omega))) rfl (Za 0 rfl rfl) rfl ?_; clear T ac; intro ac T
 replace T := T.pick [0] rfl
 refine Zln ?_
 refine wp_ret ?_
 refine rt_1 T rfl (T.e 0 rfl) ?_
 exact ⟨rfl, M.below⟩
theorem works4_any (x y : Int)  (w : World) (hxy : -1000000 ≤ x ∧ x ≤ 1000000 ∧ -1000000 ≤ y ∧ y ≤ 1000000)  :
  Calls Try.prog 122 #[.int .i64 x, .int .i64 y] w fun e w' => e = .returned (.int .i64 (y - x)) ∧ Below w.heap.size w w' := by
 refine Zpx noEx Try.func122 rfl 8 rfl [.int .i64 x, .int .i64 y] rfl rfl (Mem.init w _) ?_
 intro ac wc T M
 refine Zsr ?_
 refine lq T (Zra rfl evc) ?_; clear T ac; intro ac T
 replace T := T.pick [1, 2] rfl
 refine Zln ?_
 refine Zsr ?_
 refine Zg4 T (Zq (Zrm rfl (T.e 1 rfl))) rfl (Zm 1 rfl rfl) rfl (fun _ T => Zq (rn_sub rfl (T.e 1 rfl) (T.e 0 rfl) (by omega))) rfl (Za 0 rfl rfl) rfl ?_; clear T ac; intro ac T
 replace T := T.pick [0] rfl
 refine Zln ?_
 refine wp_ret ?_
 refine rt_1 T rfl (T.e 0 rfl) ?_
 exact ⟨rfl, M.below⟩
theorem works_any (way : Int)  (w : World)  :
   Calls Try.prog 80 #[.int .i64 way] w fun e w' => e = .returned (worksV way) ∧ Below w.heap.size w w' := by
 refine Zpx noEx Try.func80 rfl 7 rfl [.int .i64 way] rfl rfl (Mem.init w _) ?_
 intro ac wc T M
 refine Zsr ?_
 refine Zl2 ?_
 refine Zoa M T rfl rfl rfl rfl ?_; clear M T; intro g1 wc ac M T
 refine Zln ?_
 refine wp_seq ?_
 refine Zsr ?_
 refine Zg2 T (Zq (Zrm rfl (T.e 1 rfl))) rfl (fun _ T => Zq (rn_eql rfl (T.e 0 rfl) evc)) rfl ?_; clear T ac; intro ac T
 replace T := T.pick [0, 2] rfl
 refine Zln ?_
 refine wp_if (T.e 0 rfl) ?_ ?_
 ·intro h1
  refine Zsr ?_
  refine lq (v := (.agg #[.func (.func 119) #[] #[], .func (.func 120) #[] #[]])) T (rn_build rfl (.cons evf (.cons evf .nil)) (fun _ => by kernel_rfl)) ?_; clear T ac; intro ac T
  refine Zl2 ?_
  refine Zos M T rfl rfl (T.e 2 rfl) (T.e 0 rfl) rfl .head rfl (by simp) rfl (by kernel_rfl) ?_; clear M T; intro wc ac M T
  replace T := T.pick [2] rfl
  refine Zln ?_
  refine wp_ret ?_
  refine Zrt ?_
  refine rt_c M T rfl (T.e 0 rfl) (Zne (i := 0) rfl) rfl ?_
  exact ⟨congrArg Ending.returned (by unfold worksV; first | rw [if_pos (by omega)] | rw [if_neg (by omega)]), M.below⟩
 intro h1
 refine Zsk ?_
 refine Zsr ?_
 refine lq (v := (.agg #[.func (.func 121) #[] #[], .func (.func 122) #[] #[]])) T (rn_build rfl (.cons evf (.cons evf .nil)) (fun _ => by kernel_rfl)) ?_; clear T ac; intro ac T
 refine Zl2 ?_
 refine Zos M T rfl rfl (T.e 2 rfl) (T.e 0 rfl) rfl .head rfl (by simp) rfl (by kernel_rfl) ?_; clear M T; intro wc ac M T
 replace T := T.pick [2] rfl
 refine Zln ?_
 refine wp_ret ?_
 refine rt_c M T rfl (T.e 0 rfl) (Zne (i := 0) rfl) rfl ?_
 exact ⟨congrArg Ending.returned (by unfold worksV; first | rw [if_pos (by omega)] | rw [if_neg (by omega)]), M.below⟩
theorem turns_any (G : Option Addr) (n : Nat) (g : List Int)  (w : World) (hG : Rd w w.heap.size 1 G g.length (ic g)) (nG : g.length ≤ 1000)  :
   Calls Try.prog 127 #[.slice G g.length n] w fun e w' => e = .returned (.int .i64 (turnW g)) ∧ Below w.heap.size w w' := by
 obtain ⟨bG, oG, SG⟩ := Sp.old hG
 refine Zpx noEx Try.func127 rfl 24 rfl [.slice G g.length n] rfl rfl (Mem.init w _) ?_
 intro ac wc T M
 refine Zsr ?_
 refine lq T (Zra rfl evc) ?_; clear T ac; intro ac T
 replace T := T.pick [1] rfl
 refine Zln ?_
 refine Zsr ?_
 refine lq T (Zra rfl evc) ?_; clear T ac; intro ac T
 refine Zln ?_
 refine wp_seq ?_
 refine Zsr ?_
 refine lq T (Zra rfl evc) ?_; clear T ac; intro ac T
 refine Zln ?_
 refine wp_block ?_
 refine wp_loop_n (fun mz ac wc => ∃ (k : Nat) (n9 : Int), mz = g.length - k ∧ (k ≤ g.length) ∧ (n9 = turnW (g.take (k + 1))) ∧ Tm ac 24 [(0, .slice G g.length n), (3, .int .i64 n9), (4, .int .i64 ((k : Int) + 1))] ∧ Mem w noEx wc []) ?_ ?_
 ·exact ⟨_, 0, 0, rfl, (Nat.zero_le _), (by cases g <;> rfl), T.pick [2, 1, 0] rfl, M.mask [] rfl⟩
 clear T M
 rintro mz ac wc ⟨k, n9, hmm1, hk, hn, T, M⟩
 refine wp_seq ?_
 refine Zsr ?_
 refine Zg4 T (Zq (Zrm rfl (T.e 2 rfl))) rfl (Zm 1 rfl rfl) rfl (Zl Try.underlying28 0 rfl rfl) rfl (fun _ T => Zq (rn_lss rfl (T.e 2 rfl) (T.e 0 rfl))) rfl ?_; clear T ac; intro ac T
 replace T := T.pick [0, 4, 5, 6] rfl
 refine Zln ?_
 refine wp_if (T.e 0 rfl) ?_ ?_
 ·intro h1
  obtain ⟨x, hkx, -⟩ := ic_next (l := g) (k := k) (by omega)
  obtain ⟨y, hky, -⟩ := ic_next (l := g) (k := k + 1) (by omega)
  have htk := turnW_take hkx hky
  have hnn := turnW_nonneg (g.take (k + 1))
  have hnl : (g.take (k + 1)).length ≤ 1000 := by rw [List.length_take]; omega
  refine Zsk ?_
  refine wp_seq ?_
  refine wp_block ?_
  refine wp_seq ?_
  refine Zgs M (M.mask [] rfl) 10 (by kernel_rfl) rfl (by kernel_rfl) ?_
  clear M; intro wc M
  refine gq T 0 1 rfl (fun _ _ _ _ _ => (Zrm rfl (T.e 1 rfl))) ?_; clear T ac; intro ac T
  refine gq T 1 3 rfl (fun _ _ _ _ _ => (Zrm rfl (T.e 4 rfl))) ?_; clear T ac; intro ac T
  refine gq T 2 7 rfl (fun _ _ _ _ _ => (Zri (size := 1) (k + 1) rfl (T.e 1 rfl) (T.e 0 rfl) ⟨_, Try.underlying28, by kernel_rfl⟩ (by omega) (by omega) (SG.at0 (by omega)))) ?_; clear T ac; intro ac T
  refine gq T 3 15 rfl (fun B w' hD hl hS => (rn_cell (Sp.ic0 SG (show Mem w noEx w' _ from hS) (Zz9 _) hky) rfl (T.e 0 rfl))) ?_; clear T ac; intro ac T
  refine gq T 4 31 rfl (fun _ _ _ _ _ => (Zrm rfl (T.e 5 rfl))) ?_; clear T ac; intro ac T
  refine gq T 5 63 rfl (fun _ _ _ _ _ => (Zrm rfl (T.e 8 rfl))) ?_; clear T ac; intro ac T
  refine gq T 6 127 rfl (fun _ _ _ _ _ => (rn_sub rfl (T.e 0 rfl) evc (by omega))) ?_; clear T ac; intro ac T
  refine gq T 7 255 rfl (fun _ _ _ _ _ => (Zri (size := 1) k rfl (T.e 2 rfl) (T.e 0 rfl) ⟨_, Try.underlying28, by kernel_rfl⟩ (by omega) (by omega) (SG.at0 (by omega)))) ?_; clear T ac; intro ac T
  refine gq T 8 511 rfl (fun B w' hD hl hS => (rn_cell (Sp.ic0 SG (show Mem w noEx w' _ from hS) (Zz9 _) hkx) rfl (T.e 0 rfl))) ?_; clear T ac; intro ac T
  refine gq T 9 1023 rfl (fun _ _ _ _ _ => (rn_neq rfl (T.e 5 rfl) (T.e 0 rfl))) ?_; clear T ac; intro ac T
  refine Zgd (by kernel_rfl) ?_
  replace T := T.pick [0, 11, 12, 13] rfl
  refine nm_then ?_
  refine wp_ifn (T.e 0 rfl) ?_ ?_
  ·intro h2
   refine wp_region_lit ?_
   refine Zg2 T (Zq (Zrm rfl (T.e 2 rfl))) rfl (fun _ T => Zq (rn_add rfl (T.e 0 rfl) evc (by omega))) rfl ?_; clear T ac; intro ac T
   refine l_q (v := (.int .i64 (n9 + 1))) (T.pick [0, 1, 2, 3, 5] rfl) rfl rfl rfl rfl (Zra rfl (T.e 0 rfl)) ?_; clear T ac; intro ac T
   refine wpList_nil ?_
   replace T := T.pick [0, 4, 5] rfl
   refine Znb ?_
   refine nm_then ?_
   refine wp_region_lit ?_
   refine Zg2 T (Zq (Zrm rfl (T.e 2 rfl))) rfl (fun _ T => Zq (rn_add rfl (T.e 0 rfl) evc (by omega))) rfl ?_; clear T ac; intro ac T
   refine l_q (v := (.int .i64 (((k : Int) + 1) + 1))) (T.pick [0, 1, 2, 3] rfl) rfl rfl rfl rfl (Zra rfl (T.e 0 rfl)) ?_; clear T ac; intro ac T
   replace T := T.pick [0, 3, 4] rfl
   refine Zln ?_
   exact ⟨_, by omega, k + 1, (n9 + 1), rfl, (by omega), (by rw [htk, hn]; (try split) <;> simp_all), T.pick [2, 1, 0] rfl, M.mask [] rfl⟩
  intro h2
  refine wp_skip ?_
  refine Znb ?_
  refine nm_then ?_
  refine wp_region_lit ?_
  refine Zg2 T (Zq (Zrm rfl (T.e 3 rfl))) rfl (fun _ T => Zq (rn_add rfl (T.e 0 rfl) evc (by omega))) rfl ?_; clear T ac; intro ac T
  refine l_q (v := (.int .i64 (((k : Int) + 1) + 1))) (T.pick [0, 1, 2, 3, 4] rfl) rfl rfl rfl rfl (Zra rfl (T.e 0 rfl)) ?_; clear T ac; intro ac T
  replace T := T.pick [0, 4, 5] rfl
  refine Zln ?_
  exact ⟨_, by omega, k + 1, n9, rfl, (by omega), (by rw [htk, hn]; (try split) <;> simp_all), T.pick [1, 2, 0] rfl, M.mask [] rfl⟩
 intro h1
 rw [List.take_of_length_le (by omega)] at hn
 refine wp_exit ?_
 refine Zet ?_
 refine Zet ?_
 refine ex_hit ?_
 refine nm_then ?_
 refine Zsr ?_
 refine Zg2 T (Zq (Zrm rfl (T.e 2 rfl))) rfl (Za 0 rfl rfl) rfl ?_; clear T ac; intro ac T
 replace T := T.pick [0] rfl
 refine Zln ?_
 refine wp_ret ?_
 refine rt_1 T rfl (T.e 0 rfl) ?_
 refine ⟨ret_int hn, M.below⟩
structure Pd where
 b : Bw
 A : Option Addr
 c : Nat
 D : Option Addr
 d : Nat
 P : Option Addr
 e : Nat
 l : List Nt
 s : Int
def pdcE (p : Pd) : List Value := [.int .i64 p.b.full, .int .i64 p.b.a0, .int .i64 p.b.a1, .slice p.A p.b.cs.length p.c, .slice p.D p.b.ts.length p.d, .slice p.P p.l.length p.e, .int .i64 p.s]
def pdc (l : List Pd) : List Value := l.flatMap pdcE
theorem pdc_length (l : List Pd) : (pdc l).length = l.length * 7 := by
 induction l with
 | nil => rfl
 | cons x l ih =>
  show (pdcE x ++ pdc l).length = _
  rw [List.length_append, ih, List.length_cons]
  show 7 + _ = _
  omega
theorem pdc_get : ∀ (l : List Pd) (k : Nat) {x : Pd}, l[k]? = some x → ∀ (i : Nat) (v : Value), (pdcE x)[i]? = some v → (pdc l)[k * 7 + i]? = some v
 | [], k, x, h => by simp at h
 | y :: l, 0, x, h => by
  intro i v hv
  simp only [List.getElem?_cons_zero, Option.some.injEq] at h
  subst h
  show (pdcE y ++ pdc l)[0 * 7 + i]? = some v
  rw [Nat.zero_mul, Nat.zero_add, List.getElem?_append_left (List.getElem?_eq_some_iff.1 hv).1]
  exact hv
 | y :: l, k + 1, x, h => by
  intro i v hv
  have := pdc_get l k (by simpa using h) i v hv
  show (pdcE y ++ pdc l)[(k + 1) * 7 + i]? = some v
  have e : (pdcE y).length = 7 := rfl
  rw [List.getElem?_append_right (by rw [e]; omega), e, show (k + 1) * 7 + i - 7 = k * 7 + i by omega]
  exact this
theorem pdc_snoc (l : List Pd) (p : Pd) : pdc l ++ [.int .i64 p.b.full, .int .i64 p.b.a0, .int .i64 p.b.a1, .slice p.A p.b.cs.length p.c, .slice p.D p.b.ts.length p.d, .slice p.P p.l.length p.e, .int .i64 p.s] = pdc (l ++ [p]) := by simp [pdc, pdcE]
theorem pdc_next {l : List Pd} {k : Nat} (h : k < l.length) : ∃ x, l[k]? = some x ∧ l.drop k = x :: l.drop (k + 1) := ⟨l[k], List.getElem?_eq_getElem h, List.drop_eq_getElem_cons h⟩
section
variable {w w' : World} {ex : Nat → Prop} {I L : List (Nat × BA)} {n b o k : Nat} {A : Option Addr} {l : List Pd} {p : Pd}
theorem Sp.pdcA (S : Sp w ex I A n 7 b o (pdc l)) (M : Mem w ex w' L) (hI : I.Sublist L) (h : l[k]? = some p) (f : Nat) (v : Value) (hv : (pdcE p)[f]? = some v) : w'.cell? ⟨b, o + k * 7 + f, none⟩ = some v := by
 have := S.cell w' L M hI _ _ (pdc_get l k h f v hv)
 rwa [← Nat.add_assoc] at this
theorem Sp.pdcR (S : Sp w ex I A n 7 b o (pdc l)) (M : Mem w ex w' L) (hI : I.Sublist L) (h : l[k]? = some p) : w'.rangeAt b (o + k * 7) [.int .i64 p.b.full, .int .i64 p.b.a0, .int .i64 p.b.a1, .slice p.A p.b.cs.length p.c, .slice p.D p.b.ts.length p.d, .slice p.P p.l.length p.e, .int .i64 p.s] := fun j v hv => S.pdcA M hI h j v hv
end
def mkP (b : Bw) (A : Option Addr) (c : Nat) (D : Option Addr) (d : Nat) (P : Option Addr) (e : Nat) (l : List Nt) (s : Int) : Pd := ⟨b, A, c, D, d, P, e, l, s⟩
structure NtGood (p : List Nt) : Prop where
 n6 : p.length ≤ 6
 ok : ∀ q ∈ p, (1 ≤ q.sec ∧ q.sec ≤ 20) ∧ 0 ≤ q.lo ∧ q.lo ≤ q.hi ∧ q.hi ≤ 9
theorem pieceE_good {p : List Nt} (h : pieceE p = 0) : NtGood p := by
 unfold pieceE at h
 split at h
 ·cases h
 ·refine ⟨by omega, ?_⟩
  have : ∀ (l : List Nt), ntsE l = 0 → ∀ q ∈ l, ntE q = 0 := fun l => by
   induction l with
   | nil => intro _ q hq; cases hq
   | cons x l ih =>
    intro h q hq
    unfold ntsE at h
    split at h
    ·rename_i h1
     rcases List.mem_cons.1 hq with rfl | hq
     ·exact h1
     ·exact ih h q hq
    ·rename_i h1; exact absurd h h1
  intro q hq
  have h2 := this p h q hq
  unfold ntE at h2
  split at h2
  ·cases h2
  ·rename_i h3
   have := chkR0 h2
   exact ⟨withinB_iff.1 (by simpa using h3), this.1, this.2.1, this.2.2⟩
structure BwAir (b : Bw) : Prop where
 full : 1 ≤ b.full ∧ b.full ≤ 200
 air : 0 ≤ b.a0 ∧ b.a0 ≤ b.a1 ∧ b.a1 ≤ b.full
theorem BwGood.airs {b : Bw} (h : BwGood b) : BwAir b := ⟨h.full, h.air⟩
theorem secM {s q : Int} (hs : 1 ≤ s ∧ s ≤ 20) (hq : 0 ≤ q ∧ q ≤ 29) : 0 ≤ s * q ∧ s * q ≤ 580 :=
 ⟨Int.mul_nonneg (by omega) hq.1, by
  have h1 := Int.mul_le_mul hs.2 hq.2 hq.1 (by omega)
  omega⟩
def lv1 (w : Int) (r : Int × Int) (n : Nt) (s : Int) : Int × Int := (min (aft w r.1 (n.sec * (n.lo + s))) (aft w r.1 (n.sec * (n.hi + s))), max (aft w r.2 (n.sec * (n.lo + s))) (aft w r.2 (n.sec * (n.hi + s))))
def levs (s : Int) : Int × Int → List Nt → List Int → List (Int × Int)
 | r, n :: p, w :: ws => lv1 w r n s :: levs s (lv1 w r n s) p ws
 | _, _, _ => []
theorem levs_nil (s : Int) (r : Int × Int) (ws : List Int) : levs s r [] ws = [] := by unfold levs; rfl
def mustB (b : Bw) (p : List Nt) (g : List Int) (s : Int) : Bool := (levs s (b.a0, b.a1) p g).all fun y => decide (0 ≤ y.1) && decide (y.2 ≤ b.full)
def alwB (b : Bw) (p : List Nt) (ss : List Int) (g : List Int) : Bool := ss.all (mustB b p g)
def FnI (F : FuncId) (g : Int → Int → Int) : Prop := ∃ fn, Try.prog.funcs[F]? = some fn ∧ (fn.name == "runtime.NumGoroutine") = false ∧ fn.body.isNone = false ∧
 ∀ (x y : Int) (w : World), (-1000000 ≤ x ∧ x ≤ 1000000 ∧ -1000000 ≤ y ∧ y ≤ 1000000) → Calls Try.prog F ([] ++ [Value.int .i64 x, Value.int .i64 y] ++ []).toArray w fun e w' => e = .returned (.int .i64 (g x y)) ∧ Below w.heap.size w w'
def WorksPost (way : Int) (w : World) (e : Ending) (w' : World) : Prop := ∃ FA FR, e = .returned (.agg #[.func (.func FA) #[] [].toArray, .func (.func FR) #[] [].toArray]) ∧ FnI FA (aft way) ∧ FnI FR (roomW way) ∧ Below w.heap.size w w'
theorem works_fn (way : Int) (w : World) : Calls Try.prog 80 #[.int .i64 way] w (WorksPost way w) := by
 refine Calls.mono (works_any way w) ?_
 rintro e w' ⟨rfl, hb⟩
 unfold worksV
 by_cases h : way = 1
 ·rw [if_pos h]
  refine ⟨_, _, rfl, ⟨_, Try.func119, rfl, rfl, fun x y w hxy => ?_⟩, ⟨_, Try.func120, rfl, rfl, fun x y w hxy => ?_⟩, hb⟩
  ·unfold aft; rw [if_pos h]; exact works1_any x y w hxy
  ·unfold roomW; rw [if_pos h]; exact works2_any x y w
 ·rw [if_neg h]
  refine ⟨_, _, rfl, ⟨_, Try.func121, rfl, rfl, fun x y w hxy => ?_⟩, ⟨_, Try.func122, rfl, rfl, fun x y w hxy => ?_⟩, hb⟩
  ·unfold aft; rw [if_neg h]; exact works3_any x y w hxy
  ·unfold roomW; rw [if_neg h]; exact works4_any x y w hxy
def addS (ss : List Int) (s : Int) : List Int := if s ∈ ss then ss else ss ++ [s]
def sumsB (rest : List Int) (l : List L4) : List Int := l.foldl (fun ss x => addS ss (totL x.l rest)) []
theorem sumsB_succ {rest : List Int} {l : List L4} {k : Nat} {x : L4} (h : l[k]? = some x) : sumsB rest (l.take (k + 1)) = addS (sumsB rest (l.take k)) (totL x.l rest) := by
 unfold sumsB
 rw [List.take_add_one, h]
 simp
theorem addS_mem {ss : List Int} {s t : Int} : t ∈ addS ss s ↔ t ∈ ss ∨ t = s := by
 unfold addS
 split
 ·constructor
  ·exact .inl
  ·rintro (h | rfl)
   ·exact h
   ·assumption
 ·simp
theorem sumsB_mem {rest : List Int} {t : Int} : ∀ {l : List L4}, t ∈ sumsB rest l ↔ ∃ x ∈ l, totL x.l rest = t := by
 have h : ∀ (l : List L4) (ss : List Int), t ∈ l.foldl (fun ss x => addS ss (totL x.l rest)) ss ↔ t ∈ ss ∨ ∃ x ∈ l, totL x.l rest = t := fun l => by
  induction l with
  | nil => intro ss; simp
  | cons x l ih =>
   intro ss
   rw [List.foldl_cons, ih, addS_mem]
   simp only [List.mem_cons, exists_eq_or_imp]
   constructor
   ·rintro ((h | h) | h)
    ·exact .inl h
    ·exact .inr (.inl h.symm)
    ·exact .inr (.inr h)
   ·rintro (h | h | h)
    ·exact .inl (.inl h)
    ·exact .inl (.inr h.symm)
    ·exact .inr h
 intro l
 unfold sumsB
 rw [h]
 simp
theorem sumsB_len {rest : List Int} : ∀ (l : List L4), (sumsB rest l).length ≤ l.length := by
 have h : ∀ (l : List L4) (ss : List Int), (l.foldl (fun ss x => addS ss (totL x.l rest)) ss).length ≤ ss.length + l.length := fun l => by
  induction l with
  | nil => intro ss; simp
  | cons x l ih =>
   intro ss
   rw [List.foldl_cons]
   refine Nat.le_trans (ih _) ?_
   unfold addS
   split <;> simp <;> omega
 intro l
 have := h l []
 unfold sumsB
 simpa using this
def LevPost (l : List (Int × Int)) (w : World) (e : Ending) (w' : World) : Prop := ∃ A c I, e = .returned (.slice A l.length c) ∧ Cl 23 2 A l.length c (rc l) I ∧ Mem w noEx w' I
set_option maxHeartbeats 4000000 in
theorem levels_any (b : Bw) (A : Option Addr) (c : Nat) (D : Option Addr) (d : Nat) (p : List Nt) (P : Option Addr) (pc : Nat) (s : Int) (G : Option Addr) (n : Nat) (g : List Int)  (w : World) (hP9 : Rd w w.heap.size 4 P p.length (ntc p)) (hG : Rd w w.heap.size 1 G g.length (ic g)) (hgp : NtGood p) (hgb : BwAir b) (hs : 0 ≤ s ∧ s ≤ 20) (hgl : g.length = p.length)  :
   Calls Try.prog 92 #[.agg #[.int .i64 b.full, .int .i64 b.a0, .int .i64 b.a1, .slice A b.cs.length c, .slice D b.ts.length d, .slice P p.length pc, .int .i64 s], .slice G g.length n] w (LevPost (levs s (b.a0, b.a1) p g) w) := by
 obtain ⟨bP, oP, SP⟩ := Sp.old hP9
 obtain ⟨bG, oG, SG⟩ := Sp.old hG
 have hp6 := hgp.n6
 have hbf := hgb.full
 have hba := hgb.air
 refine Zpx noEx Try.func92 rfl 76 rfl [.agg #[.int .i64 b.full, .int .i64 b.a0, .int .i64 b.a1, .slice A b.cs.length c, .slice D b.ts.length d, .slice P p.length pc, .int .i64 s], .slice G g.length n] rfl rfl (Mem.init w _) ?_
 intro ac wc T M
 refine Zsr ?_
 refine Zl2 ?_
 refine Zob M T rfl rfl rfl rfl (T.e 0 rfl) rfl ?_; clear M T; intro g1 wc ac M T
 refine lq T (Zra rfl evc) ?_; clear T ac; intro ac T
 replace T := T.pick [1, 3] rfl
 refine Zln ?_
 refine Zsr ?_
 refine Zg3 (v1 := (.pointer (some ⟨g1, 0, none⟩))) (v2 := (.pointer (some ⟨g1, 1, none⟩))) T (Zq (Zrf (off := 0) rfl (T.e 0 rfl) (fun _ _ _ => by kernel_rfl))) rfl (Zf 1 0 rfl rfl) rfl (Zr M 0 0 rfl rfl rfl rfl) rfl ?_; clear T ac; intro ac T
 refine Zl2 ?_
 refine Zoa M T rfl rfl rfl rfl ?_; clear M T; intro g2 wc ac M T
 refine Zl2 ?_
 refine Zos M T rfl rfl (T.e 0 rfl) (T.e 1 rfl) rfl .head rfl (by simp) rfl (by kernel_rfl) ?_; clear M T; intro wc ac M T
 replace T := T.pick [0, 4, 5] rfl
 refine Zln ?_
 refine Zsr ?_
 refine lq T (Zra rfl evc) ?_; clear T ac; intro ac T
 refine Zln ?_
 refine wp_seq ?_
 refine Zsr ?_
 refine Zg4 (v1 := (.pointer (some ⟨g1, 5, none⟩))) T (Zq (Zrf (off := 5) rfl (T.e 2 rfl) (fun _ _ _ => by kernel_rfl))) rfl (Zo M 1 0 rfl rfl rfl rfl) rfl (Zl Try.underlying44 0 rfl rfl) rfl (fun _ T => Zq (Zrm rfl evc)) rfl ?_; clear T ac; intro ac T
 replace T := T.pick [0, 1, 2, 4, 5, 6, 7] rfl
 refine Zln ?_
 refine wp_block ?_
 refine wp_loop_n (fun mz ac wc => ∃ (k : Nat) (m0 m1 : Int) (OL : List (Int × Int)) (A3 : Option Addr) (c3 : Nat) (Io : List (Nat × BA)), mz = p.length - k ∧ (k ≤ p.length) ∧ (levs s (b.a0, b.a1) p g = OL ++ levs s (m0, m1) (p.drop k) (g.drop k)) ∧ (OL.length = k) ∧ ((-(200 + 580 * (k : Int)) ≤ m0 ∧ m0 ≤ 200 + 580 * (k : Int)) ∧ -(200 + 580 * (k : Int)) ≤ m1 ∧ m1 ≤ 200 + 580 * (k : Int)) ∧ (Sl 23 2 (.slice A3 OL.length c3) OL.length (rc OL) Io) ∧ Tm ac 76 [(1, .slice G g.length n), (2, .pointer (some ⟨g1, 0, none⟩)), (5, .pointer (some ⟨g2, 0, none⟩)), (6, .slice A3 OL.length c3), (16, .slice P p.length pc), (17, .int .i64 ((p.length : Nat) : Int)), (18, .int .i64 (k : Int))] ∧ Mem w noEx wc ((g2, .cells [.int .i64 m0, .int .i64 m1]) :: (g1, .cells [.int .i64 b.full, .int .i64 b.a0, .int .i64 b.a1, .slice A b.cs.length c, .slice D b.ts.length d, .slice P p.length pc, .int .i64 s]) :: Io)) ?_ ?_
 ·exact ⟨_, 0, b.a0, b.a1, [], none, 0, [], rfl, (Nat.zero_le _), rfl, rfl, (by omega), (Sl.nil _ _), T.pick [6, 5, 4, 3, 2, 1, 0] rfl, M.mask [true, true] rfl⟩
 clear T M
 rintro mz ac wc ⟨k, m0, m1, OL, A3, c3, Io, hmm1, hk, hO, hOl, hB, hsl, T, M⟩
 refine Zsr ?_
 refine lq T (rn_lss rfl (T.e 6 rfl) (T.e 5 rfl)) ?_; clear T ac; intro ac T
 refine Zln ?_
 refine wp_seq ?_
 refine wp_if (T.e 0 rfl) ?_ ?_
 ·intro h1
  obtain ⟨q, hkq, hd⟩ := ntc_next (l := p) (k := k) (by omega)
  obtain ⟨wy, hky, hd2⟩ := ic_next (l := g) (k := k) (by omega)
  rw [hd, hd2, levs] at hO
  have hgq := hgp.ok q (List.mem_of_getElem? hkq)
  have hm1 := secM (s := q.sec) (q := q.lo + s) (by omega) (by omega)
  have hm2 := secM (s := q.sec) (q := q.hi + s) (by omega) (by omega)
  refine Zsk ?_
  refine wp_seq ?_
  refine wp_block ?_
  refine Zsr ?_
  refine Zg3 (v3 := (.agg #[.int .i64 q.sec, .int .i64 q.lo, .int .i64 q.hi, .bool q.rest])) T (Zq (Zrm rfl (T.e 7 rfl))) rfl (fun _ T => Zq (Zri (size := 4) k rfl (T.e 6 rfl) (T.e 8 rfl) ⟨_, Try.underlying44, by kernel_rfl⟩ rfl (by omega) (SP.at0 (by omega)))) rfl (fun _ T => Zq (rn_rowat (Sp.ntcR SP M (Zz9 _) hkq) rfl (T.e 0 rfl) rfl)) rfl ?_; clear T ac; intro ac T
  refine Zl2 ?_
  refine Zoa M T rfl rfl rfl rfl ?_; clear M T; intro g3 wc ac M T
  refine lq T (Zra rfl (T.e 3 rfl)) ?_; clear T ac; intro ac T
  refine Zl2 ?_
  refine Zos M T rfl rfl (T.e 1 rfl) (T.e 2 rfl) rfl .head rfl (by simp) rfl (by kernel_rfl) ?_; clear M T; intro wc ac M T
  replace T := T.pick [0, 1, 6, 7, 8, 9, 10, 11, 12] rfl
  refine Zln ?_
  refine Zsr ?_
  refine Zg4 T (Zq (Zrm rfl (T.e 2 rfl))) rfl (Zm 1 rfl rfl) rfl (fun _ T => Zq (Zri (size := 1) k rfl (T.e 1 rfl) (T.e 0 rfl) ⟨_, Try.underlying28, by kernel_rfl⟩ rfl (by omega) (SG.at0 (by omega)))) rfl (fun _ T => Zq (rn_cell (Sp.ic0 SG M (Zz9 _) hky) rfl (T.e 0 rfl))) rfl ?_; clear T ac; intro ac T
  refine Zl2 ?_
  refine Zoc (first := []) (cap := []) T rfl rfl rfl rfl evf (.cons (T.e 0 rfl) .nil) Try.func80 rfl rfl ?_
  refine Calls.mono (works_fn wy _) ?_
  clear T; rintro e wc ⟨FAu1, FRu1, rfl, hfau1, hfru1, hb⟩ ac T
  replace M := M.call hb; clear hb
  obtain ⟨fau1, ha1u1, ha2u1, ha3u1, ha4u1⟩ := hfau1
  obtain ⟨fru1, hr1u1, hr2u1, hr3u1, hr4u1⟩ := hfru1
  refine Zg2 (v1 := (.func (.func FAu1) #[] [].toArray)) T (Zq (rn_field rfl (T.e 0 rfl) (by kernel_rfl))) rfl (Za 0 rfl rfl) rfl ?_; clear T ac; intro ac T
  replace T := T.pick [0, 8, 9, 10, 11, 12, 13, 14, 15] rfl
  refine Zln ?_
  refine wp_seq ?_
  refine Zgs M (M.mask [true, true, true] rfl) 20 (by kernel_rfl) rfl (by kernel_rfl) ?_
  clear M; intro wc M
  refine gq (v := (.pointer (some ⟨g3, 0, none⟩))) T 0 1 rfl (fun _ _ _ _ _ => (Zrf (off := 0) rfl (T.e 1 rfl) (fun _ _ _ => by kernel_rfl))) ?_; clear T ac; intro ac T
  refine gq T 1 3 rfl (fun B w' hD hl hS => (Zro (Mem.nth (show Mem w noEx w' _ from hS) 0 rfl) rfl (T.e 0 rfl) rfl)) ?_; clear T ac; intro ac T
  refine gq (v := (.pointer (some ⟨g3, 1, none⟩))) T 2 7 rfl (fun _ _ _ _ _ => (Zrf (off := 1) rfl (T.e 3 rfl) (fun _ _ _ => by kernel_rfl))) ?_; clear T ac; intro ac T
  refine gq (v := (.pointer (some ⟨g3, 1, none⟩))) T 3 15 rfl (fun _ _ _ _ _ => (Zrf (off := 0) rfl (T.e 0 rfl) (fun _ _ _ => by kernel_rfl))) ?_; clear T ac; intro ac T
  refine gq T 4 31 rfl (fun B w' hD hl hS => (Zro (Mem.nth (show Mem w noEx w' _ from hS) 0 rfl) rfl (T.e 0 rfl) rfl)) ?_; clear T ac; intro ac T
  refine gq (v := (.pointer (some ⟨g1, 6, none⟩))) T 5 63 rfl (fun _ _ _ _ _ => (Zrf (off := 6) rfl (T.e 8 rfl) (fun _ _ _ => by kernel_rfl))) ?_; clear T ac; intro ac T
  refine gq T 6 127 rfl (fun B w' hD hl hS => (Zro (Mem.nth (show Mem w noEx w' _ from hS) 2 rfl) rfl (T.e 0 rfl) rfl)) ?_; clear T ac; intro ac T
  refine gq T 7 255 rfl (fun _ _ _ _ _ => (rn_add rfl (T.e 2 rfl) (T.e 0 rfl) (by omega))) ?_; clear T ac; intro ac T
  refine gq T 8 511 rfl (fun _ _ _ _ _ => (rn_mul rfl (T.e 6 rfl) (T.e 0 rfl) (by omega))) ?_; clear T ac; intro ac T
  refine gq (v := (.pointer (some ⟨g3, 0, none⟩))) T 9 1023 rfl (fun _ _ _ _ _ => (Zrf (off := 0) rfl (T.e 10 rfl) (fun _ _ _ => by kernel_rfl))) ?_; clear T ac; intro ac T
  refine gq T 10 2047 rfl (fun B w' hD hl hS => (Zro (Mem.nth (show Mem w noEx w' _ from hS) 0 rfl) rfl (T.e 0 rfl) rfl)) ?_; clear T ac; intro ac T
  refine gq (v := (.pointer (some ⟨g3, 1, none⟩))) T 11 4095 rfl (fun _ _ _ _ _ => (Zrf (off := 1) rfl (T.e 12 rfl) (fun _ _ _ => by kernel_rfl))) ?_; clear T ac; intro ac T
  refine gq (v := (.pointer (some ⟨g3, 2, none⟩))) T 12 8191 rfl (fun _ _ _ _ _ => (Zrf (off := 1) rfl (T.e 0 rfl) (fun _ _ _ => by kernel_rfl))) ?_; clear T ac; intro ac T
  refine gq T 13 16383 rfl (fun B w' hD hl hS => (Zro (Mem.nth (show Mem w noEx w' _ from hS) 0 rfl) rfl (T.e 0 rfl) rfl)) ?_; clear T ac; intro ac T
  refine gq (v := (.pointer (some ⟨g1, 6, none⟩))) T 14 32767 rfl (fun _ _ _ _ _ => (Zrf (off := 6) rfl (T.e 17 rfl) (fun _ _ _ => by kernel_rfl))) ?_; clear T ac; intro ac T
  refine gq T 15 65535 rfl (fun B w' hD hl hS => (Zro (Mem.nth (show Mem w noEx w' _ from hS) 2 rfl) rfl (T.e 0 rfl) rfl)) ?_; clear T ac; intro ac T
  refine gq T 16 131071 rfl (fun _ _ _ _ _ => (rn_add rfl (T.e 2 rfl) (T.e 0 rfl) (by omega))) ?_; clear T ac; intro ac T
  refine gq T 17 262143 rfl (fun _ _ _ _ _ => (rn_mul rfl (T.e 6 rfl) (T.e 0 rfl) (by omega))) ?_; clear T ac; intro ac T
  refine gq T 18 524287 rfl (fun _ _ _ _ _ => (Zra rfl (T.e 9 rfl))) ?_; clear T ac; intro ac T
  refine gq T 19 1048575 rfl (fun _ _ _ _ _ => (Zra rfl (T.e 1 rfl))) ?_; clear T ac; intro ac T
  refine Zgd (by kernel_rfl) ?_
  replace T := T.pick [0, 1, 20, 22, 23, 24, 25, 26, 27, 28] rfl
  replace M := M.mask [false, true, true] rfl
  refine Zns ?_
  refine Zgs M (M.mask [false, true] rfl) 24 (by kernel_rfl) rfl (by kernel_rfl) ?_
  clear M; intro wc M
  refine g_addG 23 M ?_
  refine gq T 0 1 rfl (fun _ _ _ _ _ => (Zrm rfl (T.e 2 rfl))) ?_; clear T ac; intro ac T
  refine gq (v := (.pointer (some ⟨g2, 0, none⟩))) T 1 3 rfl (fun _ _ _ _ _ => (Zrf (off := 0) rfl (T.e 6 rfl) (fun _ _ _ => by kernel_rfl))) ?_; clear T ac; intro ac T
  refine gq T 2 7 rfl (fun B w' hD hl hS => (Zro (Mem.nth (show Mem w noEx w' _ from ((MA.lft hS) (hD.wait (i := 2) (m := 23) (by kernel_rfl) hl))) 0 rfl) rfl (T.e 0 rfl) rfl)) ?_; clear T ac; intro ac T
  refine gq T 3 15 rfl (fun _ _ _ _ _ => (Zrm rfl (T.e 4 rfl))) ?_; clear T ac; intro ac T
  refine gq T 5 47 rfl (fun _ _ _ _ _ => (Zrm rfl (T.e 6 rfl))) ?_; clear T ac; intro ac T
  refine gq (v := (.pointer (some ⟨g2, 0, none⟩))) T 6 111 rfl (fun _ _ _ _ _ => (Zrf (off := 0) rfl (T.e 10 rfl) (fun _ _ _ => by kernel_rfl))) ?_; clear T ac; intro ac T
  refine gq T 7 239 rfl (fun B w' hD hl hS => (Zro (Mem.nth (show Mem w noEx w' _ from ((MA.lft hS) (hD.wait (i := 7) (m := 23) (by kernel_rfl) hl))) 0 rfl) rfl (T.e 0 rfl) rfl)) ?_; clear T ac; intro ac T
  refine gq T 8 495 rfl (fun _ _ _ _ _ => (Zrm rfl (T.e 7 rfl))) ?_; clear T ac; intro ac T
  refine gq T 11 2543 rfl (fun _ _ _ _ _ => (Zrm rfl (T.e 10 rfl))) ?_; clear T ac; intro ac T
  refine gq (v := (.pointer (some ⟨g2, 1, none⟩))) T 12 6639 rfl (fun _ _ _ _ _ => (Zrf (off := 1) rfl (T.e 14 rfl) (fun _ _ _ => by kernel_rfl))) ?_; clear T ac; intro ac T
  refine gq T 13 14831 rfl (fun B w' hD hl hS => (Zro (Mem.nth (show Mem w noEx w' _ from ((MA.lft hS) (hD.wait (i := 13) (m := 23) (by kernel_rfl) hl))) 0 rfl) rfl (T.e 0 rfl) rfl)) ?_; clear T ac; intro ac T
  refine gq T 14 31215 rfl (fun _ _ _ _ _ => (Zrm rfl (T.e 12 rfl))) ?_; clear T ac; intro ac T
  refine gq T 16 96751 rfl (fun _ _ _ _ _ => (Zrm rfl (T.e 14 rfl))) ?_; clear T ac; intro ac T
  refine gq (v := (.pointer (some ⟨g2, 1, none⟩))) T 17 227823 rfl (fun _ _ _ _ _ => (Zrf (off := 1) rfl (T.e 18 rfl) (fun _ _ _ => by kernel_rfl))) ?_; clear T ac; intro ac T
  refine gq T 18 489967 rfl (fun B w' hD hl hS => (Zro (Mem.nth (show Mem w noEx w' _ from ((MA.lft hS) (hD.wait (i := 18) (m := 23) (by kernel_rfl) hl))) 0 rfl) rfl (T.e 0 rfl) rfl)) ?_; clear T ac; intro ac T
  refine gq T 19 1014255 rfl (fun _ _ _ _ _ => (Zrm rfl (T.e 15 rfl))) ?_; clear T ac; intro ac T
  refine gw 4 1014271 ?_; intro K hK
  refine Zoc (first := []) (cap := []) T rfl rfl rfl rfl (T.e 15 rfl) (.cons (T.e 13 rfl) (.cons (T.e 12 rfl) .nil)) ha1u1 ha2u1 ha3u1 ?_
  refine Calls.mono (ha4u1 m0 (q.sec * (q.lo + s)) _ (by omega)) ?_
  clear T; rintro e wc ⟨rfl, hb⟩ ac T
  replace M := M.call hb; clear hb
  refine Zso hK _ _ (MA.mk (fun _ => M.mask [true, true] rfl) (M.mask [false, true] rfl)) ?_; clear hK K
  refine gw 9 1014783 ?_; intro K hK
  refine Zoc (first := []) (cap := []) T rfl rfl rfl rfl (T.e 12 rfl) (.cons (T.e 10 rfl) (.cons (T.e 9 rfl) .nil)) ha1u1 ha2u1 ha3u1 ?_
  refine Calls.mono (ha4u1 m0 (q.sec * (q.hi + s)) _ (by omega)) ?_
  clear T; rintro e wc ⟨rfl, hb⟩ ac T
  replace M := M.call hb; clear hb
  refine Zso hK _ _ (MA.mk (fun _ => M.mask [true, true] rfl) (M.mask [false, true] rfl)) ?_; clear hK K
  refine gq T 10 1015807 rfl (fun _ _ _ _ _ => (rn_min2 rfl (T.e 1 rfl) (T.e 0 rfl))) ?_; clear T ac; intro ac T
  refine gw 15 1048575 ?_; intro K hK
  refine Zoc (first := []) (cap := []) T rfl rfl rfl rfl (T.e 10 rfl) (.cons (T.e 8 rfl) (.cons (T.e 7 rfl) .nil)) ha1u1 ha2u1 ha3u1 ?_
  refine Calls.mono (ha4u1 m1 (q.sec * (q.lo + s)) _ (by omega)) ?_
  clear T; rintro e wc ⟨rfl, hb⟩ ac T
  replace M := M.call hb; clear hb
  refine Zso hK _ _ (MA.mk (fun _ => M.mask [true, true] rfl) (M.mask [false, true] rfl)) ?_; clear hK K
  refine gw 20 2097151 ?_; intro K hK
  refine Zoc (first := []) (cap := []) T rfl rfl rfl rfl (T.e 7 rfl) (.cons (T.e 5 rfl) (.cons (T.e 4 rfl) .nil)) ha1u1 ha2u1 ha3u1 ?_
  refine Calls.mono (ha4u1 m1 (q.sec * (q.hi + s)) _ (by omega)) ?_
  clear T; rintro e wc ⟨rfl, hb⟩ ac T
  replace M := M.call hb; clear hb
  refine Zso hK _ _ (MA.mk (fun _ => M.mask [true, true] rfl) (M.mask [false, true] rfl)) ?_; clear hK K
  refine gq T 21 4194303 rfl (fun _ _ _ _ _ => (rn_max2 rfl (T.e 1 rfl) (T.e 0 rfl))) ?_; clear T ac; intro ac T
  refine gq (v := (.agg #[.int .i64 (min (aft wy m0 (q.sec * (q.lo + s))) (aft wy m0 (q.sec * (q.hi + s)))), .int .i64 (max (aft wy m1 (q.sec * (q.lo + s))) (aft wy m1 (q.sec * (q.hi + s))))])) T 22 8388607 rfl (fun _ _ _ _ _ => (rn_build rfl (.cons (T.e 3 rfl) (.cons (T.e 0 rfl) .nil)) (fun _ => by kernel_rfl))) ?_; clear T ac; intro ac T
  refine gw 23 16777215 ?_; intro K hK
  refine Zos M T rfl rfl (T.e 28 rfl) (T.e 0 rfl) rfl .head rfl (by simp) rfl (by kernel_rfl) ?_; clear M T; intro wc ac M T
  refine Zso hK _ _ (MA.mk (fun h => (no_of (by kernel_rfl) h).elim) (M.mask [false, true] rfl)) ?_; clear hK K
  refine Zgd (by kernel_rfl) ?_
  replace T := T.pick [26, 27, 28, 29, 30, 31, 32] rfl
  refine nm_then ?_
  refine wp_region_lit ?_
  refine Zg2 T (Zq (Zrm rfl (T.e 3 rfl))) rfl (Zr M 0 3 rfl rfl rfl rfl) rfl ?_; clear T ac; intro ac T
  refine Zl2 ?_
  refine ow_bs (e := 23) [.int .i64 (min (aft wy m0 (q.sec * (q.lo + s))) (aft wy m0 (q.sec * (q.hi + s)))), .int .i64 (max (aft wy m1 (q.sec * (q.lo + s))) (aft wy m1 (q.sec * (q.hi + s))))] M T rfl rfl rfl rfl (.cons (T.e 0 rfl) .nil) (fun _ => by kernel_rfl) ?_; clear M T; intro g4 wc ac M T
  refine Zl2 ?_
  refine ow_app ([(g4, .cells [.int .i64 (min (aft wy m0 (q.sec * (q.lo + s))) (aft wy m0 (q.sec * (q.hi + s)))), .int .i64 (max (aft wy m1 (q.sec * (q.lo + s))) (aft wy m1 (q.sec * (q.hi + s))))]), (g2, .cells [.int .i64 (min (aft wy m0 (q.sec * (q.lo + s))) (aft wy m0 (q.sec * (q.hi + s)))), .int .i64 (max (aft wy m1 (q.sec * (q.lo + s))) (aft wy m1 (q.sec * (q.hi + s))))]), (g1, .cells [.int .i64 b.full, .int .i64 b.a0, .int .i64 b.a1, .slice A b.cs.length c, .slice D b.ts.length d, .slice P p.length pc, .int .i64 s])]) Try.info23 hsl M (by first | rfl | simp) T rfl rfl rfl rfl Try.underlying24 rfl rfl rfl (by omega) (T.e 2 rfl) (T.e 0 rfl) (Zne (i := 0) rfl) rfl rfl ?_; clear M T; intro ga1 cga1 wc ac M T
  refine l_q (v := (.slice (some ⟨ga1, 0, none⟩) (OL.length + 1) cga1)) (T.pick [0, 1, 2, 3, 4, 5, 6, 8, 9, 10] rfl) rfl rfl rfl rfl (Zra rfl (T.e 0 rfl)) ?_; clear T ac; intro ac T
  refine wpList_nil ?_
  replace T := T.pick [0, 5, 6, 7, 8, 9, 10] rfl
  replace M := M.mask [true, false, true, true] rfl
  refine Znb ?_
  refine nm_then ?_
  refine wp_region_lit ?_
  refine lq T (rn_add rfl (T.e 6 rfl) evc (by omega)) ?_; clear T ac; intro ac T
  refine l_q (v := (.int .i64 ((k : Int) + 1))) (T.pick [0, 1, 2, 3, 4, 5, 6] rfl) rfl rfl rfl rfl (Zrm rfl (T.e 0 rfl)) ?_; clear T ac; intro ac T
  replace T := T.pick [0, 2, 3, 4, 5, 6, 7] rfl
  refine Zln ?_
  have hlv : lv1 wy (m0, m1) q s = ((min (aft wy m0 (q.sec * (q.lo + s))) (aft wy m0 (q.sec * (q.hi + s)))), (max (aft wy m1 (q.sec * (q.lo + s))) (aft wy m1 (q.sec * (q.hi + s))))) := rfl
  have e9 : OL.length + 1 = (OL ++ [((min (aft wy m0 (q.sec * (q.lo + s))) (aft wy m0 (q.sec * (q.hi + s)))), (max (aft wy m1 (q.sec * (q.lo + s))) (aft wy m1 (q.sec * (q.hi + s)))))]).length := by simp
  have e8 : ((rc OL) ++ [.int .i64 (min (aft wy m0 (q.sec * (q.lo + s))) (aft wy m0 (q.sec * (q.hi + s)))), .int .i64 (max (aft wy m1 (q.sec * (q.lo + s))) (aft wy m1 (q.sec * (q.hi + s))))]) = rc (OL ++ [((min (aft wy m0 (q.sec * (q.lo + s))) (aft wy m0 (q.sec * (q.hi + s)))), (max (aft wy m1 (q.sec * (q.lo + s))) (aft wy m1 (q.sec * (q.hi + s)))))]) := by rw [← rc_snoc]
  rw [e9, e8] at M
  rw [e9] at T
  clear e9 e8
  exact ⟨_, by omega, k + 1, (min (aft wy m0 (q.sec * (q.lo + s))) (aft wy m0 (q.sec * (q.hi + s)))), (max (aft wy m1 (q.sec * (q.lo + s))) (aft wy m1 (q.sec * (q.hi + s)))), (OL ++ [((min (aft wy m0 (q.sec * (q.lo + s))) (aft wy m0 (q.sec * (q.hi + s)))), (max (aft wy m1 (q.sec * (q.lo + s))) (aft wy m1 (q.sec * (q.hi + s)))))]), _, _, [(ga1, .row 23 2 (OL ++ [((min (aft wy m0 (q.sec * (q.lo + s))) (aft wy m0 (q.sec * (q.hi + s)))), (max (aft wy m1 (q.sec * (q.lo + s))) (aft wy m1 (q.sec * (q.hi + s)))))]).length (rc (OL ++ [((min (aft wy m0 (q.sec * (q.lo + s))) (aft wy m0 (q.sec * (q.hi + s)))), (max (aft wy m1 (q.sec * (q.lo + s))) (aft wy m1 (q.sec * (q.hi + s)))))])) cga1)], rfl, (by omega), (by rw [← hlv, List.append_assoc]; exact hO), (by simp [hOl]), (by unfold aft; push_cast; split <;> omega), (Sl.row _ _ _ _ _ _), T.pick [2, 3, 4, 1, 5, 6, 0] rfl, ((M.permT [1, 2, 0] 3 rfl rfl rfl rfl).sub (Zsl ([(g2, .cells [.int .i64 (min (aft wy m0 (q.sec * (q.lo + s))) (aft wy m0 (q.sec * (q.hi + s)))), .int .i64 (max (aft wy m1 (q.sec * (q.lo + s))) (aft wy m1 (q.sec * (q.hi + s))))]), (g1, .cells [.int .i64 b.full, .int .i64 b.a0, .int .i64 b.a1, .slice A b.cs.length c, .slice D b.ts.length d, .slice P p.length pc, .int .i64 s]), (ga1, .row 23 2 (OL ++ [((min (aft wy m0 (q.sec * (q.lo + s))) (aft wy m0 (q.sec * (q.hi + s)))), (max (aft wy m1 (q.sec * (q.lo + s))) (aft wy m1 (q.sec * (q.hi + s)))))]).length (rc (OL ++ [((min (aft wy m0 (q.sec * (q.lo + s))) (aft wy m0 (q.sec * (q.hi + s)))), (max (aft wy m1 (q.sec * (q.lo + s))) (aft wy m1 (q.sec * (q.hi + s)))))])) cga1)] : List (Nat × BA)) _))⟩
 intro h1
 rw [List.drop_of_length_le (l := p) (by omega), levs_nil, List.append_nil] at hO
 refine wp_exit ?_
 refine Zet ?_
 refine Zet ?_
 refine ex_hit ?_
 refine nm_then ?_
 refine Zsr ?_
 refine Zg2 T (Zq (Zrm rfl (T.e 4 rfl))) rfl (Za 0 rfl rfl) rfl ?_; clear T ac; intro ac T
 refine wpList_nil ?_
 replace T := T.pick [0] rfl
 replace M := M.mask [false, false] rfl
 refine Znr ?_
 refine rt_1 T rfl (T.e 0 rfl) ?_
 obtain ⟨Aq, cq, hq, hCq⟩ := sl_cl hsl
 injection hq with hq1 _ hq2
 subst hq1 hq2
 rw [hO]
 exact ⟨_, _, Io, rfl, hCq, M.mask [] rfl⟩
theorem levs_len (s : Int) : ∀ (r : Int × Int) (p : List Nt) (g : List Int), (levs s r p g).length ≤ p.length
 | _, [], _ => by rw [levs_nil]; simp
 | _, _ :: _, [] => by unfold levs; simp
 | r, n :: p, w :: ws => by
  unfold levs
  have := levs_len s (lv1 w r n s) p ws
  simp only [List.length_cons]
  omega
theorem must_any (b : Bw) (A : Option Addr) (c : Nat) (D : Option Addr) (d : Nat) (p : List Nt) (P : Option Addr) (pc : Nat) (s : Int) (G : Option Addr) (n : Nat) (g : List Int)  (w : World) (hP9 : Rd w w.heap.size 4 P p.length (ntc p)) (hG : Rd w w.heap.size 1 G g.length (ic g)) (hgp : NtGood p) (hgb : BwAir b) (hs : 0 ≤ s ∧ s ≤ 20) (hgl : g.length = p.length)  :
   Calls Try.prog 130 #[.agg #[.int .i64 b.full, .int .i64 b.a0, .int .i64 b.a1, .slice A b.cs.length c, .slice D b.ts.length d, .slice P p.length pc, .int .i64 s], .slice G g.length n] w fun e w' => e = .returned (.bool (mustB b p g s)) ∧ Below w.heap.size w w' := by
 obtain ⟨bP, oP, SP⟩ := Sp.old hP9
 obtain ⟨bG, oG, SG⟩ := Sp.old hG
 refine Zpx noEx Try.func130 rfl 27 rfl [.agg #[.int .i64 b.full, .int .i64 b.a0, .int .i64 b.a1, .slice A b.cs.length c, .slice D b.ts.length d, .slice P p.length pc, .int .i64 s], .slice G g.length n] rfl rfl (Mem.init w _) ?_
 intro ac wc T M
 refine Zsr ?_
 refine Zl2 ?_
 refine Zob M T rfl rfl rfl rfl (T.e 0 rfl) rfl ?_; clear M T; intro g1 wc ac M T
 refine lq T (Zra rfl evc) ?_; clear T ac; intro ac T
 replace T := T.pick [1, 3] rfl
 refine Zln ?_
 refine wp_seq ?_
 refine Zsr ?_
 refine Zg2 T (Zq (Zrr (Mem.nth M 0 rfl) rfl (T.e 0 rfl) rfl)) rfl (Zm 2 rfl rfl) rfl ?_; clear T ac; intro ac T
 refine Zl2 ?_
 refine Zoc (first := []) (cap := []) T rfl rfl rfl rfl evf (.cons (T.e 1 rfl) (.cons (T.e 0 rfl) .nil)) Try.func92 rfl rfl ?_
 refine Calls.mono (levels_any b A c D d p P pc s G n g _ (SP.rd M (Zz9 _)) (SG.rd M (Zz9 _)) hgp hgb (by omega) hgl) ?_
 clear T; rintro e wc ⟨Acu1, ccu1, Icu1, rfl, hclu1, N⟩ ac T
 obtain ⟨rlu1, hrlu1⟩ : ∃ q, q = levs s (b.a0, b.a1) p g := ⟨_, rfl⟩
 rw [← hrlu1] at hclu1 T
 obtain ⟨bRu1, oRu1, SRu1⟩ := hclu1.spV (rc_length _)
 replace SRu1 := SRu1 w noEx
 replace M := (M.join N).swapI
 clear N
 replace M : Mem w noEx wc ((g1, .cells [.int .i64 b.full, .int .i64 b.a0, .int .i64 b.a1, .slice A b.cs.length c, .slice D b.ts.length d, .slice P p.length pc, .int .i64 s]) :: Icu1) := M
 refine Zg2 T (Zq (Zrl rfl Try.underlying24 (T.e 0 rfl))) rfl (fun _ T => Zq (Zrm rfl evc)) rfl ?_; clear T ac; intro ac T
 replace T := T.pick [0, 1, 2, 5] rfl
 refine Zln ?_
 refine wp_block ?_
 obtain ⟨MB, hMB⟩ : ∃ q : Int × Int → Bool, q = fun y : Int × Int => decide (0 ≤ y.1) && decide (y.2 ≤ b.full) := ⟨_, rfl⟩
 have hr6 : rlu1.length ≤ 6 := by rw [hrlu1]; exact Nat.le_trans (levs_len _ _ _ _) hgp.n6
 refine wp_loop_n (fun mz ac wc => ∃ (k : Nat), mz = rlu1.length - k ∧ (k ≤ rlu1.length) ∧ (rlu1.all MB = (rlu1.drop k).all MB) ∧ Tm ac 27 [(2, .pointer (some ⟨g1, 0, none⟩)), (9, .slice Acu1 rlu1.length ccu1), (10, .int .i64 ((rlu1.length : Nat) : Int)), (11, .int .i64 (k : Int))] ∧ Mem w noEx wc ((g1, .cells [.int .i64 b.full, .int .i64 b.a0, .int .i64 b.a1, .slice A b.cs.length c, .slice D b.ts.length d, .slice P p.length pc, .int .i64 s]) :: Icu1)) ?_ ?_
 ·exact ⟨_, 0, rfl, (Nat.zero_le _), rfl, T.pick [3, 2, 1, 0] rfl, M.mask [true] rfl⟩
 clear T M
 rintro mz ac wc ⟨k, hmm1, hk, H, T, M⟩
 refine Zsr ?_
 refine lq T (rn_lss rfl (T.e 3 rfl) (T.e 2 rfl)) ?_; clear T ac; intro ac T
 refine Zln ?_
 refine wp_seq ?_
 refine wp_if (T.e 0 rfl) ?_ ?_
 ·intro h1
  obtain ⟨y0, y1, hky, hd⟩ := rc_next (l := rlu1) (k := k) (by omega)
  rw [hd, List.all_cons] at H
  refine Zsk ?_
  refine wp_seq ?_
  refine wp_block ?_
  refine Zsr ?_
  refine Zg2 (v2 := (.agg #[.int .i64 y0, .int .i64 y1])) T (Zq (Zri (size := 2) k rfl (T.e 2 rfl) (T.e 4 rfl) ⟨_, Try.underlying24, by kernel_rfl⟩ rfl (by omega) (SRu1.at0 (by omega)))) rfl (fun _ T => Zq (rn_rowat (Sp.rcR SRu1 M (.cons _ (List.Sublist.refl _)) hky) rfl (T.e 0 rfl) rfl)) rfl ?_; clear T ac; intro ac T
  refine Zl2 ?_
  refine Zoa M T rfl rfl rfl rfl ?_; clear M T; intro g2 wc ac M T
  refine Zl2 ?_
  refine Zos M T rfl rfl (T.e 0 rfl) (T.e 1 rfl) rfl .head rfl (by simp) rfl (by kernel_rfl) ?_; clear M T; intro wc ac M T
  replace T := T.pick [0, 4, 5, 6, 7] rfl
  refine Zln ?_
  refine cut_seq (fun ac wc => Tm ac 27 [(2, .pointer (some ⟨g1, 0, none⟩)), (9, .slice Acu1 rlu1.length ccu1), (10, .int .i64 ((rlu1.length : Nat) : Int)), (11, .int .i64 (k : Int)), (25, .bool ((decide (y0 < 0)) || (decide (b.full < y1))))] ∧ Mem w noEx wc ((g1, .cells [.int .i64 b.full, .int .i64 b.a0, .int .i64 b.a1, .slice A b.cs.length c, .slice D b.ts.length d, .slice P p.length pc, .int .i64 s]) :: Icu1)) ?_ ?_
  ·refine wp_region_lit ?_
   refine Zg4 (v1 := (.pointer (some ⟨g2, 0, none⟩))) T (Zq (Zrf (off := 0) rfl (T.e 0 rfl) (fun _ _ _ => by kernel_rfl))) rfl (Zo M 0 0 rfl rfl rfl rfl) rfl (fun _ T => Zq (rn_lss rfl (T.e 0 rfl) evc)) rfl (Zm 0 rfl rfl) rfl ?_; clear T ac; intro ac T
   rcases Bool.eq_false_or_eq_true (decide (y0 < 0)) with h2 | h2
   ·replace h2 := of_decide_eq_true h2
    refine Zg7 T (Zp (Zwn rfl rfl (T.e 0 rfl) (Zdt h2))) rfl (fun _ T => Zp (Zwn rfl rfl (T.e 1 rfl) (Zdt h2))) rfl (fun _ T => Zp (Zwn rfl rfl (T.e 2 rfl) (Zdt h2))) rfl (fun _ T => Zp (Zwn rfl rfl (T.e 3 rfl) (Zdt h2))) rfl (fun _ T => Zp (Zwn rfl rfl (T.e 4 rfl) (Zdt h2))) rfl (fun _ T => Zp (Zwn rfl rfl (T.e 5 rfl) (Zdt h2))) rfl (fun _ T => Zq (Zr1 rfl (T.e 6 rfl) (Zdt h2) evc)) rfl ?_; clear T ac; intro ac T
    refine wpList_nil ?_
    replace T := T.pick [0, 1, 2, 3, 4, 5, 6, 12, 13, 14, 15] rfl
    replace M := M.mask [false, true] rfl
    exact ⟨(T.pick (E' := [(2, .pointer (some ⟨g1, 0, none⟩)), (9, .slice Acu1 rlu1.length ccu1), (10, .int .i64 ((rlu1.length : Nat) : Int)), (11, .int .i64 (k : Int)), (25, .bool true)]) [7, 8, 9, 10, 0] rfl).as (by (try rw [show (decide (y0 < 0)) = true from (Zdt h2)]); (try rfl)), M.mask [true] rfl⟩
   replace h2 := of_decide_eq_false h2
   refine Zg7 (v1 := (.pointer (some ⟨g2, 1, none⟩))) (v3 := (.pointer (some ⟨g1, 0, none⟩))) (v4 := (.pointer (some ⟨g1, 0, none⟩))) T (Zw (Zwy rfl rfl (T.e 0 rfl) (Zdf h2)) (Zrf (off := 1) rfl (T.e 4 rfl) (fun _ _ _ => by kernel_rfl))) rfl (fun _ T => Zw (Zwy rfl rfl (T.e 1 rfl) (Zdf h2)) (Zro (Mem.nth M 0 rfl) rfl (T.e 0 rfl) rfl)) rfl (fun _ T => Zw (Zwy rfl rfl (T.e 2 rfl) (Zdf h2)) (Zrf (off := 0) rfl (T.e 7 rfl) (fun _ _ _ => by kernel_rfl))) rfl (fun _ T => Zw (Zwy rfl rfl (T.e 3 rfl) (Zdf h2)) (Zrf (off := 0) rfl (T.e 0 rfl) (fun _ _ _ => by kernel_rfl))) rfl (fun _ T => Zw (Zwy rfl rfl (T.e 4 rfl) (Zdf h2)) (Zro (Mem.nth M 1 rfl) rfl (T.e 0 rfl) rfl)) rfl (fun _ T => Zw (Zwy rfl rfl (T.e 5 rfl) (Zdf h2)) (rn_gtr rfl (T.e 3 rfl) (T.e 0 rfl))) rfl (fun _ T => Zq (Zr0 rfl (T.e 6 rfl) (Zdf h2) (T.e 0 rfl))) rfl ?_; clear T ac; intro ac T
   refine wpList_nil ?_
   replace T := T.pick [0, 1, 2, 3, 4, 5, 6, 12, 13, 14, 15] rfl
   exact ⟨(T.pick (E' := [(2, .pointer (some ⟨g1, 0, none⟩)), (9, .slice Acu1 rlu1.length ccu1), (10, .int .i64 ((rlu1.length : Nat) : Int)), (11, .int .i64 (k : Int)), (25, .bool (decide (b.full < y1)))]) [7, 8, 9, 10, 0] rfl).as (by (try rw [show (decide (y0 < 0)) = false from (Zdf h2)]); (try rfl)), M.mask [false, true] rfl⟩
  clear T M
  rintro ac wc ⟨T, M⟩
  refine wp_cond_split (T.e 4 rfl) ?_ ?_
  ·intro h3
   (have h3' := h3; try simp only [Zb1, Zb2, Zb3, Zb4, Zb5, Zb6, Zb7] at h3')
   refine Zsr ?_
   refine lq T (Zra rfl evc) ?_; clear T ac; intro ac T
   refine wpList_nil ?_
   replace T := T.pick [0] rfl
   replace M := M.mask [false] rfl
   refine Znr ?_
   refine Zrb ?_
   refine Zrt ?_
   refine Zrt ?_
   refine Zrb ?_
   refine Zrt ?_
   refine rt_1 T rfl (T.e 0 rfl) ?_
   rw [show MB (y0, y1) = false by rw [hMB]; dsimp only; rw [Bool.and_eq_false_iff, decide_eq_false_iff_not, decide_eq_false_iff_not]; omega, Bool.false_and] at H
   refine ⟨ret_bool ?_, M.below⟩
   unfold mustB
   rw [← hrlu1, ← hMB, H]
  intro h3
  (have h3' := h3; try simp only [Zb1, Zb2, Zb3, Zb4, Zb5, Zb6, Zb7] at h3')
  refine wp_skip ?_
  refine Znb ?_
  refine nm_then ?_
  refine wp_region_lit ?_
  refine lq T (rn_add rfl (T.e 3 rfl) evc (by omega)) ?_; clear T ac; intro ac T
  refine l_q (v := (.int .i64 ((k : Int) + 1))) (T.pick [0, 1, 2, 3, 5] rfl) rfl rfl rfl rfl (Zrm rfl (T.e 0 rfl)) ?_; clear T ac; intro ac T
  replace T := T.pick [0, 2, 3, 4] rfl
  refine Zln ?_
  rw [show MB (y0, y1) = true by rw [hMB]; dsimp only; rw [Bool.and_eq_true, decide_eq_true_eq, decide_eq_true_eq]; omega, Bool.true_and] at H
  exact ⟨_, by omega, k + 1, rfl, (by omega), H, T.pick [1, 2, 3, 0] rfl, M.mask [true] rfl⟩
 intro h1
 rw [List.drop_of_length_le (by omega), List.all_nil] at H
 refine wp_exit ?_
 refine Zet ?_
 refine Zet ?_
 refine ex_hit ?_
 refine nm_then ?_
 refine Zsr ?_
 refine lq T (Zra rfl evc) ?_; clear T ac; intro ac T
 refine wpList_nil ?_
 replace T := T.pick [0] rfl
 replace M := M.mask [false] rfl
 refine Znr ?_
 refine rt_1 T rfl (T.e 0 rfl) ?_
 refine ⟨ret_bool ?_, M.below⟩
 unfold mustB
 rw [← hrlu1, ← hMB, H]
theorem always1_any (b : Bw) (A : Option Addr) (c : Nat) (D : Option Addr) (d : Nat) (p : List Nt) (P : Option Addr) (pc : Nat) (s : Int) (G : Option Addr) (n : Nat) (g : List Int) (gw : Nat)  (w : World) (hP9 : Rd w w.heap.size 4 P p.length (ntc p)) (hG : Rd w w.heap.size 1 G g.length (ic g)) (hgp : NtGood p) (hgb : BwAir b) (hs : 0 ≤ s ∧ s ≤ 20) (hgl : g.length = p.length) (q1 : Bk w gw #[.slice G g.length n])  :
  Calls Try.prog 129 #[.agg #[.int .i64 b.full, .int .i64 b.a0, .int .i64 b.a1, .slice A b.cs.length c, .slice D b.ts.length d, .slice P p.length pc, .int .i64 s], .pointer (some ⟨gw, 0, none⟩)] w fun e w' => e = .returned (.bool (!mustB b p g s)) ∧ Below w.heap.size w w' := by
 obtain ⟨bP, oP, SP⟩ := Sp.old hP9
 obtain ⟨bG, oG, SG⟩ := Sp.old hG
 refine Zpx noEx Try.func129 rfl 8 rfl [.agg #[.int .i64 b.full, .int .i64 b.a0, .int .i64 b.a1, .slice A b.cs.length c, .slice D b.ts.length d, .slice P p.length pc, .int .i64 s], .pointer (some ⟨gw, 0, none⟩)] rfl rfl (Mem.init w _) ?_
 intro ac wc T M
 refine Zsr ?_
 refine Zl2 ?_
 refine Zob M T rfl rfl rfl rfl (T.e 0 rfl) rfl ?_; clear M T; intro g1 wc ac M T
 refine lq T (Zra rfl evc) ?_; clear T ac; intro ac T
 replace T := T.pick [1, 3] rfl
 refine Zln ?_
 refine Zsr ?_
 refine Zg2 T (Zq (Zrr (Mem.nth M 0 rfl) rfl (T.e 0 rfl) rfl)) rfl (fun _ T => Zq (Zro (Mem.old M q1 (fun h => h)) rfl (T.e 2 rfl) rfl)) rfl ?_; clear T ac; intro ac T
 refine Zl2 ?_
 refine Zoc (first := []) (cap := []) T rfl rfl rfl rfl evf (.cons (T.e 1 rfl) (.cons (T.e 0 rfl) .nil)) Try.func130 rfl rfl ?_
 refine Calls.mono (must_any b A c D d p P pc s G n g _ (SP.rd M (Zz9 _)) (SG.rd M (Zz9 _)) hgp hgb (by omega) hgl) ?_
 clear T; rintro e wc ⟨rfl, hb⟩ ac T
 replace M := M.call hb; clear hb
 refine Zg2 T (Zq (rn_not rfl (T.e 0 rfl))) rfl (Za 0 rfl rfl) rfl ?_; clear T ac; intro ac T
 refine wpList_nil ?_
 replace T := T.pick [0] rfl
 replace M := M.mask [false] rfl
 refine Znr ?_
 refine rt_1 T rfl (T.e 0 rfl) ?_
 exact ⟨rfl, M.below⟩
theorem indexF_any (F : FuncId) (fn : Func) (cap : List Value) (pr : Pd → Bool) (l : List Pd) (B : Option Addr) (lc : Nat)  (w : World) (hL : Rd w w.heap.size 7 B l.length (pdc l)) (nL : l.length ≤ 1000000) (hF1 : Try.prog.funcs[F]? = some fn) (hF2 : (fn.name == "runtime.NumGoroutine") = false) (hF3 : fn.body.isNone = false) (hF : ∀ x ∈ l, ∀ w1, Below w.heap.size w w1 → Calls Try.prog F ([] ++ [(.agg #[.int .i64 x.b.full, .int .i64 x.b.a0, .int .i64 x.b.a1, .slice x.A x.b.cs.length x.c, .slice x.D x.b.ts.length x.d, .slice x.P x.l.length x.e, .int .i64 x.s] : Value)] ++ cap).toArray w1 fun e w2 => e = .returned (.bool (pr x)) ∧ Below w1.heap.size w1 w2)  :
   Calls Try.prog 144 #[.slice B l.length lc, .func (.func F) #[] cap.toArray] w fun e w' => ∃ k : Int, e = .returned (.int .i64 k) ∧ (0 ≤ k ↔ l.any pr = true) ∧ Below w.heap.size w w' := by
 obtain ⟨bL, oL, SL⟩ := Sp.old hL
 refine Zpx noEx Try.func144 rfl 19 rfl [.slice B l.length lc, .func (.func F) #[] cap.toArray] rfl rfl (Mem.init w _) ?_
 intro ac wc T M
 refine Zsr ?_
 refine lq T (Zra rfl evc) ?_; clear T ac; intro ac T
 replace T := T.pick [1, 2] rfl
 refine Zln ?_
 refine wp_seq ?_
 refine Zsr ?_
 refine Zg3 T (Zq (Zrm rfl (T.e 0 rfl))) rfl (Zl Try.underlying115 0 rfl rfl) rfl (fun _ T => Zq (Zrm rfl evc)) rfl ?_; clear T ac; intro ac T
 replace T := T.pick [0, 1, 3, 4] rfl
 refine Zln ?_
 refine wp_block ?_
 refine wp_loop_n (fun mz ac wc => ∃ (k : Nat), mz = l.length - k ∧ (k ≤ l.length) ∧ (l.any pr = (l.drop k).any pr) ∧ Tm ac 19 [(0, .slice B l.length lc), (1, .func (.func F) #[] cap.toArray), (7, .int .i64 ((l.length : Nat) : Int)), (8, .int .i64 (k : Int))] ∧ Mem w noEx wc []) ?_ ?_
 ·exact ⟨_, 0, rfl, (Nat.zero_le _), rfl, T.pick [2, 3, 1, 0] rfl, M.mask [] rfl⟩
 clear T M
 rintro mz ac wc ⟨k, hmm1, hk, H, T, M⟩
 refine Zsr ?_
 refine lq T (rn_lss rfl (T.e 3 rfl) (T.e 2 rfl)) ?_; clear T ac; intro ac T
 refine Zln ?_
 refine wp_seq ?_
 refine wp_if (T.e 0 rfl) ?_ ?_
 ·intro h1
  obtain ⟨x, hkx, hd⟩ := pdc_next (l := l) (k := k) (by omega)
  rw [hd, List.any_cons] at H
  refine Zsk ?_
  refine wp_seq ?_
  refine wp_block ?_
  refine Zsr ?_
  refine Zg2 T (Zq (Zrm rfl (T.e 4 rfl))) rfl (Za 0 rfl rfl) rfl ?_; clear T ac; intro ac T
  replace T := T.pick [0, 3, 4, 5, 6] rfl
  refine Zln ?_
  refine Zsr ?_
  refine Zg5 (v5 := (.agg #[.int .i64 x.b.full, .int .i64 x.b.a0, .int .i64 x.b.a1, .slice x.A x.b.cs.length x.c, .slice x.D x.b.ts.length x.d, .slice x.P x.l.length x.e, .int .i64 x.s])) T (Zq (Zrm rfl (T.e 2 rfl))) rfl (Zm 2 rfl rfl) rfl (Zm 2 rfl rfl) rfl (fun _ T => Zq (Zri (size := 7) k rfl (T.e 1 rfl) (T.e 0 rfl) ⟨_, Try.underlying115, by kernel_rfl⟩ rfl (by omega) (SL.at0 (by omega)))) rfl (fun _ T => Zq (rn_rowat (Sp.pdcR SL M (Zz9 _) hkx) rfl (T.e 0 rfl) rfl)) rfl ?_; clear T ac; intro ac T
  refine Zl2 ?_
  refine Zoc (first := []) (cap := cap) T rfl rfl rfl rfl (T.e 4 rfl) (.cons (T.e 0 rfl) .nil) hF1 hF2 hF3 ?_
  refine Calls.mono (hF x (List.mem_of_getElem? hkx) _ M.below) ?_
  clear T; rintro e wc ⟨rfl, hb⟩ ac T
  replace M := M.call hb; clear hb
  replace T := T.pick [0, 6, 7, 8, 9, 10] rfl
  refine Zln ?_
  refine wp_cond_split (T.e 0 rfl) ?_ ?_
  ·intro h2
   refine Zsr ?_
   refine Zg2 T (Zq (Zrm rfl (T.e 1 rfl))) rfl (Za 0 rfl rfl) rfl ?_; clear T ac; intro ac T
   replace T := T.pick [0] rfl
   refine Zln ?_
   refine wp_ret ?_
   refine Zrb ?_
   refine Zrt ?_
   refine Zrt ?_
   refine Zrb ?_
   refine Zrt ?_
   refine rt_1 T rfl (T.e 0 rfl) ?_
   exact ⟨_, rfl, ⟨fun _ => by rw [H, show pr x = true by simp_all, Bool.true_or], fun _ => by omega⟩, M.below⟩
  intro h2
  refine wp_skip ?_
  refine Znb ?_
  refine nm_then ?_
  refine wp_region_lit ?_
  refine lq T (rn_add rfl (T.e 5 rfl) evc (by omega)) ?_; clear T ac; intro ac T
  refine l_q (v := (.int .i64 ((k : Int) + 1))) (T.pick [0, 1, 2, 3, 4, 5] rfl) rfl rfl rfl rfl (Zrm rfl (T.e 0 rfl)) ?_; clear T ac; intro ac T
  replace T := T.pick [0, 4, 5, 6] rfl
  refine Zln ?_
  rw [show pr x = false by simp_all, Bool.false_or] at H
  exact ⟨_, by omega, k + 1, rfl, (by omega), H, T.pick [1, 2, 3, 0] rfl, M.mask [] rfl⟩
 intro h1
 rw [List.drop_of_length_le (by omega), List.any_nil] at H
 refine wp_exit ?_
 refine Zet ?_
 refine Zet ?_
 refine ex_hit ?_
 refine nm_then ?_
 refine Zsr ?_
 refine lq T (Zra rfl evc) ?_; clear T ac; intro ac T
 replace T := T.pick [0] rfl
 refine Zln ?_
 refine wp_ret ?_
 refine rt_1 T rfl (T.e 0 rfl) ?_
 exact ⟨-1, rfl, ⟨fun h9 => by omega, fun h9 => by rw [H] at h9; cases h9⟩, M.below⟩
theorem containsF_any (F : FuncId) (fn : Func) (cap : List Value) (pr : Pd → Bool) (l : List Pd) (B : Option Addr) (lc : Nat)  (w : World) (hL : Rd w w.heap.size 7 B l.length (pdc l)) (nL : l.length ≤ 1000000) (hF1 : Try.prog.funcs[F]? = some fn) (hF2 : (fn.name == "runtime.NumGoroutine") = false) (hF3 : fn.body.isNone = false) (hF : ∀ x ∈ l, ∀ w1, Below w.heap.size w w1 → Calls Try.prog F ([] ++ [(.agg #[.int .i64 x.b.full, .int .i64 x.b.a0, .int .i64 x.b.a1, .slice x.A x.b.cs.length x.c, .slice x.D x.b.ts.length x.d, .slice x.P x.l.length x.e, .int .i64 x.s] : Value)] ++ cap).toArray w1 fun e w2 => e = .returned (.bool (pr x)) ∧ Below w1.heap.size w1 w2)  :
  Calls Try.prog 128 #[.slice B l.length lc, .func (.func F) #[] cap.toArray] w fun e w' => e = .returned (.bool (l.any pr)) ∧ Below w.heap.size w w' := by
 obtain ⟨bL, oL, SL⟩ := Sp.old hL
 refine Zpx noEx Try.func128 rfl 9 rfl [.slice B l.length lc, .func (.func F) #[] cap.toArray] rfl rfl (Mem.init w _) ?_
 intro ac wc T M
 refine Zsr ?_
 refine lq T (Zra rfl evc) ?_; clear T ac; intro ac T
 replace T := T.pick [1, 2] rfl
 refine Zln ?_
 refine Zsr ?_
 refine Zg2 T (Zq (Zrm rfl (T.e 0 rfl))) rfl (Zm 2 rfl rfl) rfl ?_; clear T ac; intro ac T
 refine Zl2 ?_
 refine Zoc (first := []) (cap := []) T rfl rfl rfl rfl evf (.cons (T.e 1 rfl) (.cons (T.e 0 rfl) .nil)) Try.func144 rfl rfl ?_
 refine Calls.mono (indexF_any F fn cap pr l B lc _ (SL.rd M (Zz9 _)) nL hF1 hF2 hF3 (fun x hx w1 hb1 => hF x hx w1 (M.below.trans (hb1.mono M.size)))) ?_
 clear T; rintro e wc ⟨ku1, rfl, hku1, hb⟩ ac T
 replace M := M.call hb; clear hb
 refine Zg2 T (Zq (rn_geq rfl (T.e 0 rfl) evc)) rfl (Za 0 rfl rfl) rfl ?_; clear T ac; intro ac T
 replace T := T.pick [0] rfl
 refine Zln ?_
 refine wp_ret ?_
 refine rt_1 T rfl (T.e 0 rfl) ?_
 refine ⟨ret_bool ?_, M.below⟩
 rw [Bool.eq_iff_iff, decide_eq_true_eq]
 exact hku1
theorem alw_any {b : Bw} {A : Option Addr} {c : Nat} {D : Option Addr} {d : Nat} {P : Option Addr} {pc : Nat} {p : List Nt} {g : List Int} : ∀ ss : List Int, (!((ss.map (mkP b A c D d P pc p)).any fun x => !mustB x.b x.l g x.s)) = alwB b p ss g
 | [] => rfl
 | s :: ss => by
  have ih := alw_any (b := b) (A := A) (c := c) (D := D) (d := d) (P := P) (pc := pc) (p := p) (g := g) ss
  unfold alwB at ih ⊢
  rw [List.map_cons, List.any_cons, List.all_cons, ← ih]
  show (!(!mustB b p g s || _)) = _
  rw [Bool.not_or, Bool.not_not]
theorem always_any (b : Bw) (A : Option Addr) (c : Nat) (D : Option Addr) (d : Nat) (p : List Nt) (P : Option Addr) (pc : Nat) (ss : List Int) (B : Option Addr) (lc : Nat) (G : Option Addr) (n : Nat) (g : List Int)  (w : World) (hP9 : Rd w w.heap.size 4 P p.length (ntc p)) (hG : Rd w w.heap.size 1 G g.length (ic g)) (hL : Rd w w.heap.size 7 B ss.length (pdc (ss.map (mkP b A c D d P pc p)))) (nL : ss.length ≤ 1000000) (hgp : NtGood p) (hgb : BwAir b) (hss : ∀ s ∈ ss, 0 ≤ s ∧ s ≤ 20) (hgl : g.length = p.length)  :
  Calls Try.prog 87 #[.slice B ss.length lc, .slice G g.length n] w fun e w' => e = .returned (.bool (alwB b p ss g)) ∧ Below w.heap.size w w' := by
 obtain ⟨bP, oP, SP⟩ := Sp.old hP9
 obtain ⟨bG, oG, SG⟩ := Sp.old hG
 obtain ⟨bL, oL, SL⟩ := Sp.old hL
 refine Zpx noEx Try.func87 rfl 9 rfl [.slice B ss.length lc, .slice G g.length n] rfl rfl (Mem.init w _) ?_
 intro ac wc T M
 refine Zsr ?_
 refine Zl2 ?_
 refine Zob M T rfl rfl rfl rfl (T.e 1 rfl) rfl ?_; clear M T; intro g1 wc ac M T
 refine lq T (Zra rfl evc) ?_; clear T ac; intro ac T
 replace T := T.pick [1, 2] rfl
 refine Zln ?_
 refine Zsr ?_
 refine Zg2 (v2 := (.func (.func 129) #[] #[.pointer (some ⟨g1, 0, none⟩)])) T (Zq (Zrm rfl (T.e 1 rfl))) rfl (fun _ T => Zq (rn_makeFunc rfl .nil (.cons (T.e 1 rfl) .nil))) rfl ?_; clear T ac; intro ac T
 refine Zl2 ?_
 obtain ⟨l9, hl9⟩ : ∃ q, q = ss.map (mkP b A c D d P pc p) := ⟨_, rfl⟩
 have hL9 := SL.rd M (Zz9 _)
 rw [← hl9, show ss.length = l9.length by rw [hl9, List.length_map]] at hL9
 rw [show ss.length = l9.length by rw [hl9, List.length_map]] at T
 have q9 := M.nth 0 rfl
 have hP8 := SP.rd M (Zz9 _)
 have hG8 := SG.rd M (Zz9 _)
 refine Zoc (first := []) (cap := []) T rfl rfl rfl rfl evf (.cons (T.e 1 rfl) (.cons (T.e 0 rfl) .nil)) Try.func128 rfl rfl ?_
 refine Calls.mono (containsF_any 129 _ [.pointer (some ⟨g1, 0, none⟩)] (fun x => !mustB x.b x.l g x.s) l9 B lc _ hL9 (by rw [hl9, List.length_map]; exact nL) Try.func129 rfl rfl (fun x hx w1 hb1 => by rw [hl9] at hx; obtain ⟨s, hs9, rfl⟩ := List.mem_map.1 hx; exact always1_any b A c D d p P pc s G n g g1 w1 ((hP8.below hb1).more hb1.size) ((hG8.below hb1).more hb1.size) hgp hgb (hss s hs9) hgl (q9.below hb1))) ?_
 clear T; rintro e wc ⟨rfl, hb⟩ ac T
 replace M := M.call hb; clear hb
 refine Zg2 T (Zq (rn_not rfl (T.e 0 rfl))) rfl (Za 0 rfl rfl) rfl ?_; clear T ac; intro ac T
 refine wpList_nil ?_
 replace T := T.pick [0] rfl
 replace M := M.mask [false] rfl
 refine Znr ?_
 refine rt_1 T rfl (T.e 0 rfl) ?_
 refine ⟨ret_bool ?_, M.below⟩
 rw [hl9]
 exact alw_any ss
theorem Try.info122 : (Try.prog.info? 122).map (fun i => (i.zero, i.size, i.bytes)) = some (some (.agg #[.int .i64 0, .int .i64 0, .int .i64 0, .slice none 0 0, .slice none 0 0, .slice none 0 0, .int .i64 0]), 7, 104) := by kernel_rfl
def PlayPost (b : Bw) (A : Option Addr) (c : Nat) (D : Option Addr) (d : Nat) (p : List Nt) (P : Option Addr) (pc : Nat) (ss : List Int) (w : World) (e : Ending) (w' : World) : Prop := ∃ A' c' I, e = .returned (.slice A' ss.length c') ∧ Cl 122 7 A' ss.length c' (pdc (ss.map (mkP b A c D d P pc p))) I ∧ Mem w noEx w' I
theorem playedBy_any (b : Bw) (A : Option Addr) (c : Nat) (D : Option Addr) (d : Nat) (l : List L4) (B : Option Addr) (lc : Nat) (p : List Nt) (P : Option Addr) (pc : Nat) (G : Option Addr) (n : Nat) (g : List Int)  (w : World) (hL : Rd w w.heap.size 4 B l.length (l4c l)) (nL : l.length ≤ 1000000) (hl4 : ∀ x ∈ l, x.ok) (h4 : b.cs.length ≤ 4) (hG : Rd w w.heap.size 1 G g.length (ic g)) (nG : g.length ≤ 1000)  :
   Calls Try.prog 85 #[.agg #[.int .i64 b.full, .int .i64 b.a0, .int .i64 b.a1, .slice A b.cs.length c, .slice D b.ts.length d], .slice B l.length lc, .slice P p.length pc, .slice G g.length n] w (PlayPost b A c D d p P pc (sumsB (cornL b.cs.length g) l) w) := by
 obtain ⟨bL, oL, SL⟩ := Sp.old hL
 obtain ⟨bG, oG, SG⟩ := Sp.old hG
 refine Zpx noEx Try.func85 rfl 43 rfl [.agg #[.int .i64 b.full, .int .i64 b.a0, .int .i64 b.a1, .slice A b.cs.length c, .slice D b.ts.length d], .slice B l.length lc, .slice P p.length pc, .slice G g.length n] rfl rfl (Mem.init w _) ?_
 intro ac wc T M
 refine Zsr ?_
 refine Zl2 ?_
 refine Zob M T rfl rfl rfl rfl (T.e 0 rfl) rfl ?_; clear M T; intro g1 wc ac M T
 refine lq T (Zra rfl evc) ?_; clear T ac; intro ac T
 replace T := T.pick [1, 3, 4, 5] rfl
 refine Zln ?_
 refine Zsr ?_
 refine Zl2 ?_
 refine ow_mmN M T rfl Try.underlying145 rfl rfl rfl ?_; clear M T; intro g2 wc ac M T
 refine lq T (Zra rfl (T.e 0 rfl)) ?_; clear T ac; intro ac T
 replace T := T.pick [0, 2, 3, 4, 5] rfl
 refine Zln ?_
 refine Zsr ?_
 refine Zg2 T (Zq (Zrr (Mem.nth M 1 rfl) rfl (T.e 1 rfl) rfl)) rfl (Zm 5 rfl rfl) rfl ?_; clear T ac; intro ac T
 refine Zl2 ?_
 refine Zoc (first := []) (cap := []) T rfl rfl rfl rfl evf (.cons (T.e 1 rfl) (.cons (T.e 0 rfl) .nil)) Try.func78 rfl rfl ?_
 refine Calls.mono (corners_any b A c D d G n g _ (by omega) (SG.rd M (Zz9 _)) (by omega)) ?_
 clear T; rintro e wc ⟨Acu1, ccu1, Icu1, rfl, hclu1, N⟩ ac T
 obtain ⟨rlu1, hrlu1⟩ : ∃ q, q = cornL b.cs.length g := ⟨_, rfl⟩
 rw [← hrlu1] at hclu1 T
 have hnrlu1 : rlu1.length ≤ b.cs.length := by rw [hrlu1]; exact cornL_len _ _
 have hgrlu1 : ∀ c ∈ rlu1, 0 ≤ c ∧ c < 4 := fun c hc => by rw [hrlu1] at hc; have := cornL_mem hc; omega
 obtain ⟨bRu1, oRu1, SRu1⟩ := hclu1.spV (by simp [ic_length])
 replace SRu1 := SRu1 w noEx
 replace M := (M.join N).swapI
 clear N
 replace M : Mem w noEx wc ((g2, .any (numQ [])) :: (g1, .cells [.int .i64 b.full, .int .i64 b.a0, .int .i64 b.a1, .slice A b.cs.length c, .slice D b.ts.length d]) :: Icu1) := M
 refine lq T (Zra rfl (T.e 0 rfl)) ?_; clear T ac; intro ac T
 replace T := T.pick [0, 4, 5, 6, 7] rfl
 refine Zln ?_
 refine Zsr ?_
 refine lq T (Zra rfl evc) ?_; clear T ac; intro ac T
 refine Zln ?_
 refine wp_seq ?_
 refine Zsr ?_
 refine Zg3 T (Zq (Zrm rfl (T.e 4 rfl))) rfl (Zl Try.underlying104 0 rfl rfl) rfl (fun _ T => Zq (Zrm rfl evc)) rfl ?_; clear T ac; intro ac T
 replace T := T.pick [0, 1, 2, 3, 4, 5, 6, 8] rfl
 refine Zln ?_
 refine wp_block ?_
 refine wp_loop_n (fun mz ac wc => ∃ (k : Nat) (ss : List Int) (A3 : Option Addr) (c3 : Nat) (Io : List (Nat × BA)), mz = l.length - k ∧ (k ≤ l.length) ∧ (ss = sumsB rlu1 (l.take k)) ∧ (ss.length ≤ k) ∧ (Sl 122 7 (.slice A3 ss.length c3) ss.length (pdc (ss.map (mkP b A c D d P pc p))) Io) ∧ Tm ac 43 [(2, .slice P p.length pc), (4, .pointer (some ⟨g1, 0, none⟩)), (9, .map (some g2)), (10, .slice Acu1 rlu1.length ccu1), (11, .slice A3 ss.length c3), (19, .slice B l.length lc), (20, .int .i64 ((l.length : Nat) : Int)), (21, .int .i64 (k : Int))] ∧ Mem w noEx wc ((g2, .any (numQ ss)) :: (g1, .cells [.int .i64 b.full, .int .i64 b.a0, .int .i64 b.a1, .slice A b.cs.length c, .slice D b.ts.length d]) :: (Icu1 ++ Io))) ?_ ?_
 ·exact ⟨_, 0, [], none, 0, [], rfl, (Nat.zero_le _), rfl, (Nat.zero_le _), (Sl.nil _ _), T.pick [7, 6, 5, 4, 3, 2, 1, 0] rfl, (by simp only [List.append_nil]; exact M)⟩
 clear T M
 rintro mz ac wc ⟨k, ss, A3, c3, Io, hmm1, hk, hss, hsn, hsl, T, M⟩
 refine Zsr ?_
 refine lq T (rn_lss rfl (T.e 7 rfl) (T.e 6 rfl)) ?_; clear T ac; intro ac T
 refine Zln ?_
 refine wp_seq ?_
 refine wp_if (T.e 0 rfl) ?_ ?_
 ·intro h1
  obtain ⟨x, hkx, -⟩ := l4c_next (l := l) (k := k) (by omega)
  have hxx := hl4 x (List.mem_of_getElem? hkx)
  refine Zsk ?_
  refine wp_seq ?_
  refine wp_block ?_
  refine Zsr ?_
  refine Zg2 (v2 := (.agg #[.int .i64 x.a, .int .i64 x.b, .int .i64 x.c, .int .i64 x.d])) T (Zq (Zri (size := 4) k rfl (T.e 6 rfl) (T.e 8 rfl) ⟨_, Try.underlying104, by kernel_rfl⟩ rfl (by omega) (SL.at0 (by omega)))) rfl (fun _ T => Zq (rn_rowat (Sp.l4cR SL M (Zz9 _) hkx) rfl (T.e 0 rfl) rfl)) rfl ?_; clear T ac; intro ac T
  refine Zl2 ?_
  refine Zoa M T rfl rfl rfl rfl ?_; clear M T; intro g3 wc ac M T
  refine Zl2 ?_
  refine Zos M T rfl rfl (T.e 0 rfl) (T.e 1 rfl) rfl .head rfl (by simp) rfl (by kernel_rfl) ?_; clear M T; intro wc ac M T
  replace T := T.pick [0, 4, 5, 6, 7, 8, 9, 10, 11] rfl
  refine Zln ?_
  refine Zsr ?_
  refine Zg2 T (Zq (Zrr (Mem.nth M 0 rfl) rfl (T.e 0 rfl) rfl)) rfl (Zm 5 rfl rfl) rfl ?_; clear T ac; intro ac T
  refine Zl2 ?_
  refine Zoc (first := []) (cap := []) T rfl rfl rfl rfl evf (.cons (T.e 1 rfl) (.cons (T.e 0 rfl) .nil)) Try.func79 rfl rfl ?_
  refine Calls.mono (total_any x Acu1 ccu1 rlu1 _ hxx (SRu1.rd M (.cons _ (.cons _ (.cons _ (subL (List.Sublist.refl _)))))) (by omega) (hgrlu1)) ?_
  clear T; rintro e wc ⟨rfl, hb⟩ ac T
  replace M := M.call hb; clear hb
  have hBu2 := totL_bound (op := rlu1) hxx.all
  refine lq T (Zra rfl (T.e 0 rfl)) ?_; clear T ac; intro ac T
  refine wpList_nil ?_
  replace T := T.pick [0, 5, 6, 7, 8, 9, 10, 11, 12] rfl
  replace M := M.mask [false, true, true] rfl
  refine nm_then ?_
  refine Zsr ?_
  refine Zg2 T (Zq (Zrm rfl (T.e 3 rfl))) rfl (Zm 1 rfl rfl) rfl ?_; clear T ac; intro ac T
  refine Zl2 ?_
  refine ow_lkN M T Try.underlying3 Try.underlying145 Try.zeroBool (Zne (i := 0) rfl) rfl rfl rfl rfl (T.e 1 rfl) (T.e 0 rfl) (by omega) ?_; clear T; intro ac T
  refine lq T (rn_not rfl (T.e 0 rfl)) ?_; clear T ac; intro ac T
  replace T := T.pick [0, 4, 5, 6, 7, 8, 9, 10, 11, 12] rfl
  refine Zln ?_
  refine wp_ifn (T.e 0 rfl) ?_ ?_
  ·intro h2
   refine Zsr ?_
   refine Zg2 T (Zq (Zrm rfl (T.e 4 rfl))) rfl (Zm 2 rfl rfl) rfl ?_; clear T ac; intro ac T
   refine Zl2 ?_
   refine ow_muN M T Try.underlying3 Try.underlying145 rfl rfl (T.e 1 rfl) (T.e 0 rfl) evc .head (by omega) ?_; clear M T; intro wc ac M T
   replace T := T.pick [3, 4, 5, 6, 7, 8, 9, 10, 11] rfl
   refine Zln ?_
   refine wp_region_lit ?_
   refine Zg5 (v5 := (.agg #[.int .i64 b.full, .int .i64 b.a0, .int .i64 b.a1, .slice A b.cs.length c, .slice D b.ts.length d, .slice P p.length pc, .int .i64 (totL x.l rlu1)])) T (Zq (Zrm rfl (T.e 5 rfl))) rfl (Zr M 1 3 rfl rfl rfl rfl) rfl (Zm 3 rfl rfl) rfl (Zm 3 rfl rfl) rfl (fun _ T => Zq (rn_build rfl (.cons (T.e 2 rfl) (.cons (T.e 1 rfl) (.cons (T.e 0 rfl) .nil))) (fun _ => by kernel_rfl))) rfl ?_; clear T ac; intro ac T
   refine Zl2 ?_
   refine ow_bs (e := 122) [.int .i64 b.full, .int .i64 b.a0, .int .i64 b.a1, .slice A b.cs.length c, .slice D b.ts.length d, .slice P p.length pc, .int .i64 (totL x.l rlu1)] M T rfl rfl rfl rfl (.cons (T.e 0 rfl) .nil) (fun _ => by kernel_rfl) ?_; clear M T; intro g4 wc ac M T
   refine Zl2 ?_
   refine ow_app (((g4, .cells [.int .i64 b.full, .int .i64 b.a0, .int .i64 b.a1, .slice A b.cs.length c, .slice D b.ts.length d, .slice P p.length pc, .int .i64 (totL x.l rlu1)]) :: (g2, .any (numQ (ss ++ [(totL x.l rlu1)]))) :: (g1, .cells [.int .i64 b.full, .int .i64 b.a0, .int .i64 b.a1, .slice A b.cs.length c, .slice D b.ts.length d]) :: Icu1)) Try.info122 hsl M (by first | rfl | simp) T rfl rfl rfl rfl Try.underlying115 rfl rfl rfl (by omega) (T.e 5 rfl) (T.e 0 rfl) (Zne (i := 0) rfl) rfl rfl ?_; clear M T; intro ga1 cga1 wc ac M T
   refine l_q (v := (.slice (some ⟨ga1, 0, none⟩) (ss.length + 1) cga1)) (T.pick [0, 1, 2, 3, 4, 5, 6, 7, 8, 9, 10, 11, 13, 14, 15] rfl) rfl rfl rfl rfl (Zra rfl (T.e 0 rfl)) ?_; clear T ac; intro ac T
   refine wpList_nil ?_
   replace T := T.pick [0, 9, 10, 11, 12, 13, 14, 15] rfl
   replace M := M.mask [true, false, true, true] rfl
   refine Znb ?_
   refine nm_then ?_
   refine wp_region_lit ?_
   refine lq T (rn_add rfl (T.e 7 rfl) evc (by omega)) ?_; clear T ac; intro ac T
   refine l_q (v := (.int .i64 ((k : Int) + 1))) (T.pick [0, 1, 2, 3, 4, 5, 6, 7] rfl) rfl rfl rfl rfl (Zrm rfl (T.e 0 rfl)) ?_; clear T ac; intro ac T
   replace T := T.pick [0, 2, 3, 4, 5, 6, 7, 8] rfl
   refine Zln ?_
   have e9 : ss.length + 1 = (ss ++ [totL x.l rlu1]).length := by simp
   have e8 : ((pdc (ss.map (mkP b A c D d P pc p))) ++ [.int .i64 b.full, .int .i64 b.a0, .int .i64 b.a1, .slice A b.cs.length c, .slice D b.ts.length d, .slice P p.length pc, .int .i64 (totL x.l rlu1)]) = pdc ((ss ++ [totL x.l rlu1]).map (mkP b A c D d P pc p)) := by rw [List.map_append]; exact pdc_snoc (ss.map (mkP b A c D d P pc p)) (mkP b A c D d P pc p (totL x.l rlu1))
   rw [e9, e8] at M
   rw [e9] at T
   clear e9 e8
   exact ⟨_, by omega, k + 1, (ss ++ [totL x.l rlu1]), _, _, [(ga1, .row 122 7 (ss ++ [totL x.l rlu1]).length (pdc ((ss ++ [totL x.l rlu1]).map (mkP b A c D d P pc p))) cga1)], rfl, (by omega), (by rw [sumsB_succ hkx, ← hss, addS, if_neg (by assumption)]), (by simp; omega), (Sl.row _ _ _ _ _ _), T.pick [2, 3, 4, 5, 1, 6, 7, 0] rfl, (Mem.swapI (I := [(ga1, .row 122 7 (ss ++ [totL x.l rlu1]).length (pdc ((ss ++ [totL x.l rlu1]).map (mkP b A c D d P pc p))) cga1)]) (L := ((g2, .any (numQ (ss ++ [(totL x.l rlu1)]))) :: (g1, .cells [.int .i64 b.full, .int .i64 b.a0, .int .i64 b.a1, .slice A b.cs.length c, .slice D b.ts.length d]) :: Icu1)) (M.permT [0, 1, 2] 3 rfl rfl rfl rfl))⟩
  intro h2
  refine wp_skip ?_
  refine Znb ?_
  refine nm_then ?_
  refine wp_region_lit ?_
  refine lq T (rn_add rfl (T.e 9 rfl) evc (by omega)) ?_; clear T ac; intro ac T
  refine l_q (v := (.int .i64 ((k : Int) + 1))) (T.pick [0, 1, 2, 3, 4, 5, 6, 7, 8, 9] rfl) rfl rfl rfl rfl (Zrm rfl (T.e 0 rfl)) ?_; clear T ac; intro ac T
  replace T := T.pick [0, 4, 5, 6, 7, 8, 9, 10] rfl
  refine Zln ?_
  exact ⟨_, by omega, k + 1, ss, A3, c3, Io, rfl, (by omega), (by rw [sumsB_succ hkx, ← hss, addS, if_pos (by assumption)]), (by omega), hsl, T.pick [1, 2, 3, 4, 5, 6, 7, 0] rfl, M.permT [0, 1] 2 rfl rfl rfl rfl⟩
 intro h1
 rw [List.take_of_length_le (by omega)] at hss
 refine wp_exit ?_
 refine Zet ?_
 refine Zet ?_
 refine ex_hit ?_
 refine nm_then ?_
 refine Zsr ?_
 refine Zg2 T (Zq (Zrm rfl (T.e 5 rfl))) rfl (Za 0 rfl rfl) rfl ?_; clear T ac; intro ac T
 refine wpList_nil ?_
 replace T := T.pick [0] rfl
 replace M := M.mask [true, false] rfl
 refine Znr ?_
 refine rt_1 T rfl (T.e 0 rfl) ?_
 obtain ⟨Aq, cq, hq, hCq⟩ := sl_cl hsl
 injection hq with hq1 _ hq2
 subst hq1 hq2
 rw [← hrlu1, ← hss]
 exact ⟨_, _, Io, rfl, hCq, M.sub ((.cons _ (Zsq _ _)))⟩
theorem eqlS28 {x : Operand} (A : Option Addr) (m c : Nat) (w : World) : (do eqGuard .eql 28 x (.const (.slice none 0 0)) (.slice A m c) (.slice none 0 0); binOp .eql 28 (.slice A m c) (.slice none 0 0) : Sem Value).run Try.prog w = .ok (.bool (!A.isSome)) w := by
 cases A <;> kernel_rfl
theorem Try.append0_28 (A : Option Addr) (c g : Nat) (ty : TypeId) (w : World) : (Builtin.append_ #[28, 28] ty #[.slice (some ⟨g, 0, none⟩) 0 0, .slice A 0 c]).run Try.prog w = .ok (.slice (some ⟨g, 0, none⟩) 0 0) w := by
 cases A <;> kernel_rfl
theorem eqlS44 {x : Operand} (A : Option Addr) (m c : Nat) (w : World) : (do eqGuard .eql 44 x (.const (.slice none 0 0)) (.slice A m c) (.slice none 0 0); binOp .eql 44 (.slice A m c) (.slice none 0 0) : Sem Value).run Try.prog w = .ok (.bool (!A.isSome)) w := by
 cases A <;> kernel_rfl
theorem Try.append0_44 (A : Option Addr) (c g : Nat) (ty : TypeId) (w : World) : (Builtin.append_ #[44, 44] ty #[.slice (some ⟨g, 0, none⟩) 0 0, .slice A 0 c]).run Try.prog w = .ok (.slice (some ⟨g, 0, none⟩) 0 0) w := by
 cases A <;> kernel_rfl
theorem Try.info70 : (Try.prog.info? 70).map (fun i => (i.zero, i.size, i.bytes)) = some (some (.agg #[.int .i64 0, .int .i64 0, .int .i64 0, .bool false]), 4, 32) := by kernel_rfl
theorem Try.info75 : (Try.prog.info? 75).map (fun i => (i.zero, i.size, i.bytes)) = some (some (.agg #[.slice none 0 0, .int .i64 0, .int .i64 0, .int .i64 0]), 4, 48) := by kernel_rfl
def CloPost (e size : Nat) (n : Nat) (xs : List Value) (w : World) (e9 : Ending) (w' : World) : Prop := ∃ A c I, e9 = .returned (.slice A n c) ∧ Cl e size A n c xs I ∧ Mem w noEx w' I
theorem Rd.nil0 {w : World} {B size n : Nat} {xs : List Value} (h : Rd w B size none n xs) : n = 0 := by
 rcases Nat.eq_zero_or_pos n with h0 | h0
 ·exact h0
 ·obtain ⟨b, o, h1, -, -⟩ := h.2 h0
  cases h1
theorem icl_one (l : List Int) : ∀ u ∈ ic l, u.oneCell' = true := fun u hu => by
 obtain ⟨x, -, rfl⟩ := List.mem_map.1 hu
 rfl
theorem rc_one (l : List (Int × Int)) : ∀ u ∈ rc l, u.oneCell' = true := fun u hu => by
 obtain ⟨p, -, h⟩ := List.mem_flatMap.1 hu
 simp only [List.mem_cons, List.not_mem_nil, or_false] at h
 rcases h with rfl | rfl <;> rfl
theorem ntc_one (l : List Nt) : ∀ u ∈ ntc l, u.oneCell' = true := fun u hu => by
 obtain ⟨p, -, h⟩ := List.mem_flatMap.1 hu
 simp only [ntcE, List.mem_cons, List.not_mem_nil, or_false] at h
 rcases h with rfl | rfl | rfl | rfl <;> rfl
structure LsX where
 l : List Int
 A : Option Addr
 c : Nat
def lsV (x : LsX) : List Value := [.slice x.A x.l.length x.c]
def RdF (B : Nat) (w : World) (A : Option Addr) (n : Nat) (xs : List Value) : Prop := Rd w w.heap.size 1 A n xs ∧ ∀ b o, A = some ⟨b, o, none⟩ → 0 < n → B ≤ b
def LsOx (B : Nat) (Pr : List Int → Prop) (x : LsX) (W : World) : Prop := RdF B W x.A x.l.length (ic x.l) ∧ x.l.length ≤ x.c ∧ Pr x.l
theorem RdF.kpN {B B' n : Nat} {W W' : World} {A : Option Addr} {xs : List Value} (r : RdF B W A n xs) (hK : KpN B' W W') : RdF B W' A n xs := ⟨hK.rdS r.1, r.2⟩
theorem RdF.le {B B' n : Nat} {W : World} {A : Option Addr} {xs : List Value} (r : RdF B W A n xs) (h : B' ≤ B) : RdF B' W A n xs := ⟨r.1, fun b o h1 h2 => Nat.le_trans h (r.2 b o h1 h2)⟩
theorem LsOx.calm (B0 : Nat) (Pr : List Int → Prop) (B : Nat) : Calm B (LsOx B0 Pr) := fun x W W' h hk => ⟨h.1.kpN hk, h.2⟩
theorem KpB.of {l : Nat} {eb : Nat → Prop} {w wc : World} {L : List (Nat × BA)} (M : Mem w noEx wc L) : KpB l eb w wc :=
 ⟨M.os, M.tape, M.output, M.size, fun b hb _ => M.block b hb (fun h => h), fun p hp => absurd hp List.not_mem_nil, List.nodup_nil⟩
theorem KpB.trans {l : Nat} {eb : Nat → Prop} {x y z : World} (h : KpB l eb x y) (k : KpB l eb y z) : KpB l eb x z :=
 ⟨k.os.trans h.os, k.tape.trans h.tape, k.output.trans h.output, Nat.le_trans h.size k.size, fun b hb he => (k.block b (Nat.lt_of_lt_of_le hb h.size) he).trans (h.block b hb he), fun p hp => absurd hp List.not_mem_nil, List.nodup_nil⟩
theorem KpB.rdF {l B n : Nat} {eb : Nat → Prop} {w w' : World} {A : Option Addr} {xs : List Value} (h : KpB l eb w w') (hl : l < B) (he : ∀ b, eb b → b < B) (r : RdF B w A n xs) : RdF B w' A n xs :=
 ⟨⟨r.1.1, fun hn => by
  obtain ⟨b, o, h1, h2, h3⟩ := r.1.2 hn
  have hb := r.2 b o h1 hn
  refine ⟨b, o, h1, Nat.lt_of_lt_of_le h2 h.size, fun j u hu => (World.cell?_of_block (w := w) (a := ⟨b, o + j, none⟩) (h.block b h2 fun hh => ?_)).trans (h3 j u hu)⟩
  rcases hh with hh | hh
  ·omega
  ·have := he b hh
   omega⟩, r.2⟩
theorem RdF.mem {B n : Nat} {w w' : World} {A : Option Addr} {xs : List Value} {L : List (Nat × BA)} (r : RdF B w A n xs) (M : Mem w noEx w' L) : RdF B w' A n xs :=
 ⟨⟨r.1.1, fun hn => by
  obtain ⟨b, o, h1, h2, h3⟩ := r.1.2 hn
  exact ⟨b, o, h1, Nat.lt_of_lt_of_le h2 M.size, fun j u hu => (World.cell?_of_block (w := w) (a := ⟨b, o + j, none⟩) (M.block b h2 fun hh => hh)).trans (h3 j u hu)⟩⟩, r.2⟩
def nt0 : Nt := ⟨0, 0, 0, false⟩
def stepW (p : List Nt) (b : List Int) (w : Int) : Bool := decide (b.length = 0) || (p.getD b.length nt0).rest || decide (w = b.getD (b.length - 1) 0)
theorem stepW_eq {p : List Nt} {b : List Int} {q : Nt} {z : Int} (w : Int) (hq : p[b.length]? = some q) (hz : 0 < b.length → b[b.length - 1]? = some z) : stepW p b w = true ↔ b.length = 0 ∨ q.rest = true ∨ w = z := by
 unfold stepW
 rw [List.getD_eq_getElem?_getD, hq]
 rcases Nat.eq_zero_or_pos b.length with h | h
 ·simp [h]
 ·rw [List.getD_eq_getElem?_getD (l := b), hz h]
  simp [show ¬ b.length = 0 by omega]
def wayK (p : List Nt) (many : Int) : Nat → List Int → List (List Int)
 | 0, b => if turnW b = many then [b] else []
 | k + 1, b => (List.range 2).flatMap fun j : Nat => if stepW p b ((j : Int) + 1) = true then wayK p many k (b ++ [(j : Int) + 1]) else []
def wyN (p : List Nt) (many : Int) (k : Nat) (b : List Int) (x : Nat) : List (List Int) := (List.range x).flatMap fun j : Nat => if stepW p b ((j : Int) + 1) = true then wayK p many k (b ++ [(j : Int) + 1]) else []
theorem wyN_succ (p : List Nt) (many : Int) (k : Nat) (b : List Int) (x : Nat) : wyN p many k b (x + 1) = wyN p many k b x ++ if stepW p b ((x : Int) + 1) = true then wayK p many k (b ++ [(x : Int) + 1]) else [] := by
 unfold wyN
 rw [List.range_succ, List.flatMap_append]
 simp
theorem wyN_end (p : List Nt) (many : Int) (k : Nat) (b : List Int) : wayK p many (k + 1) b = wyN p many k b 2 := rfl
theorem wyN_mono {p : List Nt} {many : Int} {k : Nat} {b : List Int} {x : Nat} : ∀ y, wyN p many k b x <+: wyN p many k b (x + y)
 | 0 => List.prefix_refl _
 | y + 1 => (wyN_mono y).trans (by rw [← Nat.add_assoc, wyN_succ]; exact List.prefix_append _ _)
theorem wyN_pre {p : List Nt} {many : Int} {k : Nat} {b : List Int} {x : Nat} {t : List (List Int)} (hx : x < 2) (hs : stepW p b ((x : Int) + 1) = true) (h : t <+: wayK p many k (b ++ [(x : Int) + 1])) : wyN p many k b x ++ t <+: wayK p many (k + 1) b := by
 have h1 : wyN p many k b x ++ t <+: wyN p many k b (x + 1) := by rw [wyN_succ, if_pos hs]; exact (List.prefix_append_right_inj _).2 h
 have h2 := wyN_mono (p := p) (many := many) (k := k) (b := b) (x := x + 1) (2 - (x + 1))
 rw [show x + 1 + (2 - (x + 1)) = 2 by omega] at h2
 exact h1.trans h2
def choK (n : Nat) : Nat → Nat → List Int → List (List Int)
 | 0, _, b => [b]
 | k + 1, f, b => (List.range (n - f)).flatMap fun j : Nat => choK n k (f + j + 1) (b ++ [((f + j : Nat) : Int)])
def chN (n k f : Nat) (b : List Int) (x : Nat) : List (List Int) := (List.range x).flatMap fun j : Nat => choK n k (f + j + 1) (b ++ [((f + j : Nat) : Int)])
theorem chN_succ (n k f : Nat) (b : List Int) (x : Nat) : chN n k f b (x + 1) = chN n k f b x ++ choK n k (f + x + 1) (b ++ [((f + x : Nat) : Int)]) := by
 unfold chN
 rw [List.range_succ, List.flatMap_append]
 simp
theorem chN_end (n k f : Nat) (b : List Int) : choK n (k + 1) f b = chN n k f b (n - f) := rfl
theorem chN_mono {n k f : Nat} {b : List Int} {x : Nat} : ∀ y, chN n k f b x <+: chN n k f b (x + y)
 | 0 => List.prefix_refl _
 | y + 1 => (chN_mono y).trans (by rw [← Nat.add_assoc, chN_succ]; exact List.prefix_append _ _)
theorem chN_pre {n k f : Nat} {b : List Int} {x : Nat} {t : List (List Int)} (hx : x < n - f) (h : t <+: choK n k (f + x + 1) (b ++ [((f + x : Nat) : Int)])) : chN n k f b x ++ t <+: choK n (k + 1) f b := by
 have h1 : chN n k f b x ++ t <+: chN n k f b (x + 1) := by rw [chN_succ]; exact (List.prefix_append_right_inj _).2 h
 have h2 := chN_mono (n := n) (k := k) (f := f) (b := b) (x := x + 1) (n - f - (x + 1))
 rw [show x + 1 + (n - f - (x + 1)) = n - f by omega] at h2
 exact h1.trans h2
def NextR (J Jx : List LsX → World → Prop) (all : List (List Int)) (pre : List LsX) (r : Bool) (xs : List LsX) (W : World) : Prop := (r = true → xs.map LsX.l = all ∧ J (pre ++ xs) W) ∧ (r = false → xs.map LsX.l <+: all ∧ Jx (pre ++ xs) W)
def NextPost (J Jx : List LsX → World → Prop) (lr : Nat) (eb : Nat → Prop) (all : List (List Int)) (pre : List LsX) (w0 : World) (e : Ending) (W : World) : Prop := ∃ (r : Bool) (xs : List LsX), e = .returned (.bool r) ∧ KpB lr eb w0 W ∧ NextR J Jx all pre r xs W
theorem cloneI_any (G : Option Addr) (n : Nat) (g : List Int)  (w : World) (hG : Rd w w.heap.size 1 G g.length (ic g)) (nG : g.length ≤ 1000000) :
   Calls Try.prog 111 #[.slice G g.length n] w (CloPost 3 1 g.length (ic g) w) := by
 obtain ⟨bG, oG, SG⟩ := Sp.old hG
 refine Zpx noEx Try.func111 rfl 8 rfl [.slice G g.length n] rfl rfl (Mem.init w _) ?_
 intro ac wc T M
 refine Zsr ?_
 refine lq T (Zra rfl evc) ?_; clear T ac; intro ac T
 replace T := T.pick [1] rfl
 refine Zln ?_
 refine wp_seq ?_
 refine Zsr ?_
 refine Zg2 (v2 := (.bool (!G.isSome))) T (Zq (Zrm rfl (T.e 0 rfl))) rfl (fun _ T => Zq (rn_bin rfl (T.e 0 rfl) evc (eqlS28 _ _ _ _))) rfl ?_; clear T ac; intro ac T
 replace T := T.pick [0, 2] rfl
 refine Zln ?_
 refine wp_cond_split (T.e 0 rfl) ?_ ?_
 ·intro h1
  (have h1' := h1; try simp only [Zb1, Zb2, Zb3, Zb4, Zb5, Zb6, Zb7] at h1')
  refine Zsr ?_
  refine lq T (Zra rfl evc) ?_; clear T ac; intro ac T
  replace T := T.pick [0] rfl
  refine Zln ?_
  refine wp_ret ?_
  refine Zrt ?_
  refine rt_1 T rfl (T.e 0 rfl) ?_
  have hA9 : G = none := by cases G; rfl; simp at h1
  have hn9 : g.length = 0 := Rd.nil0 (hA9 ▸ hG)
  have hx9 : ic g = [] := List.eq_nil_of_length_eq_zero (by rw [(hG).1, hn9] <;> simp)
  rw [hn9, hx9]
  exact ⟨none, 0, [], rfl, .inl ⟨rfl, rfl, rfl, rfl, rfl⟩, M.mask [] rfl⟩
 intro h1
 (have h1' := h1; try simp only [Zb1, Zb2, Zb3, Zb4, Zb5, Zb6, Zb7] at h1')
 refine Zsk ?_
 refine Zsr ?_
 refine Zl2 ?_
 refine ow_bs0 (e := 3) M T rfl rfl rfl rfl (fun _ => by kernel_rfl) ?_; clear M T; intro g1 wc ac M T
 refine lq T (Zrm rfl (T.e 2 rfl)) ?_; clear T ac; intro ac T
 refine Zl2 ?_
 refine ow_appS Try.info3 M T rfl rfl rfl rfl (fun g w => Try.append0_28 _ _ g _ w) Try.underlying28 rfl rfl rfl (by omega) (T.e 1 rfl) (T.e 0 rfl) (SG.rd M (Zz9 _)) (icl_one _) ?_; clear M T; intro Augo1 cugo1 Iugo1 wc ac hSmgo1 M T
 replace M : Mem w noEx wc (Iugo1) := M.swapI
 refine lq T (Zra rfl (T.e 0 rfl)) ?_; clear T ac; intro ac T
 replace T := T.pick [0] rfl
 refine Zln ?_
 refine wp_ret ?_
 refine rt_1 T rfl (T.e 0 rfl) ?_
 exact ⟨Augo1, cugo1, Iugo1, rfl, .inr hSmgo1, M.sub (Zsq [] _)⟩
theorem cloneN_any (G : Option Addr) (n : Nat) (g : List Nt)  (w : World) (hG : Rd w w.heap.size 4 G g.length (ntc g)) (nG : g.length ≤ 1000000) :
   Calls Try.prog 90 #[.slice G g.length n] w (CloPost 70 4 g.length (ntc g) w) := by
 obtain ⟨bG, oG, SG⟩ := Sp.old hG
 refine Zpx noEx Try.func90 rfl 8 rfl [.slice G g.length n] rfl rfl (Mem.init w _) ?_
 intro ac wc T M
 refine Zsr ?_
 refine lq T (Zra rfl evc) ?_; clear T ac; intro ac T
 replace T := T.pick [1] rfl
 refine Zln ?_
 refine wp_seq ?_
 refine Zsr ?_
 refine Zg2 (v2 := (.bool (!G.isSome))) T (Zq (Zrm rfl (T.e 0 rfl))) rfl (fun _ T => Zq (rn_bin rfl (T.e 0 rfl) evc (eqlS44 _ _ _ _))) rfl ?_; clear T ac; intro ac T
 replace T := T.pick [0, 2] rfl
 refine Zln ?_
 refine wp_cond_split (T.e 0 rfl) ?_ ?_
 ·intro h1
  (have h1' := h1; try simp only [Zb1, Zb2, Zb3, Zb4, Zb5, Zb6, Zb7] at h1')
  refine Zsr ?_
  refine lq T (Zra rfl evc) ?_; clear T ac; intro ac T
  replace T := T.pick [0] rfl
  refine Zln ?_
  refine wp_ret ?_
  refine Zrt ?_
  refine rt_1 T rfl (T.e 0 rfl) ?_
  have hA9 : G = none := by cases G; rfl; simp at h1
  have hn9 : g.length = 0 := Rd.nil0 (hA9 ▸ hG)
  have hx9 : ntc g = [] := List.eq_nil_of_length_eq_zero (by rw [(hG).1, hn9] <;> simp)
  rw [hn9, hx9]
  exact ⟨none, 0, [], rfl, .inl ⟨rfl, rfl, rfl, rfl, rfl⟩, M.mask [] rfl⟩
 intro h1
 (have h1' := h1; try simp only [Zb1, Zb2, Zb3, Zb4, Zb5, Zb6, Zb7] at h1')
 refine Zsk ?_
 refine Zsr ?_
 refine Zl2 ?_
 refine ow_bs0 (e := 70) M T rfl rfl rfl rfl (fun _ => by kernel_rfl) ?_; clear M T; intro g1 wc ac M T
 refine lq T (Zrm rfl (T.e 2 rfl)) ?_; clear T ac; intro ac T
 refine Zl2 ?_
 refine ow_appS Try.info70 M T rfl rfl rfl rfl (fun g w => Try.append0_44 _ _ g _ w) Try.underlying44 rfl rfl rfl (by omega) (T.e 1 rfl) (T.e 0 rfl) (SG.rd M (Zz9 _)) (ntc_one _) ?_; clear M T; intro Augo1 cugo1 Iugo1 wc ac hSmgo1 M T
 replace M : Mem w noEx wc (Iugo1) := M.swapI
 refine lq T (Zra rfl (T.e 0 rfl)) ?_; clear T ac; intro ac T
 replace T := T.pick [0] rfl
 refine Zln ?_
 refine wp_ret ?_
 refine rt_1 T rfl (T.e 0 rfl) ?_
 exact ⟨Augo1, cugo1, Iugo1, rfl, .inr hSmgo1, M.sub (Zsq [] _)⟩
def NextW (lr gp gy gn B : Nat) (Pr : List Int → Prop) (eb : Nat → Prop) (J Jx : List LsX → World → Prop) (p : List Nt) (P : Option Addr) (pc : Nat) (many : Int) (k : Nat) : Prop := ∀ (b : List Int) (A : Option Addr) (m c : Nat) (pre : List LsX) (w0 w : World), m = b.length → m ≤ c → b.length + k = p.length → KpB lr eb w0 w → B ≤ w.heap.size → RdF B w A m (ic b) → J pre w → Rd w w.heap.size 4 P p.length (ntc p) →
 Bk w gp #[.slice P p.length pc] → Bk w gy #[.func (.yield lr) #[] #[]] → Bk w gn #[.func (.func 143) #[] #[.pointer (some ⟨gp, 0, none⟩), .pointer (some ⟨gy, 0, none⟩), .pointer (some ⟨gn, 0, none⟩)]] →
 Calls Try.prog 143 #[.slice A m c, .int .i64 many, .pointer (some ⟨gp, 0, none⟩), .pointer (some ⟨gy, 0, none⟩), .pointer (some ⟨gn, 0, none⟩)] w (NextPost J Jx lr eb (wayK p many k b) pre w0)
theorem pre_nil {J : List LsX → World → Prop} {pre : List LsX} {w : World} (h : J pre w) : J (pre ++ []) w := by simpa using h
set_option maxHeartbeats 4000000 in
theorem nextW_step (lr gp gy gn B : Nat) (Pr : List Int → Prop) (eb : Nat → Prop) (J Jx : List LsX → World → Prop) (p : List Nt) (P : Option Addr) (pc : Nat) (many : Int) (k : Nat) (b : List Int) (A : Option Addr) (c : Nat) (pre : List LsX) (w0 : World)  (w : World) (hlr : lr < B) (heb : ∀ b, eb b → b < B) (hxm : ¬ (gp = lr ∨ eb gp)) (hxy : ¬ (gy = lr ∨ eb gy)) (hxn : ¬ (gn = lr ∨ eb gn)) (hJ : Calm B J) (hJx : Calm B Jx)
   (hY : ∀ pre x W1, J pre W1 → LsOx B Pr x W1 → YieldAt Fence.wide 6 Try.prog lr (lsV x).toArray W1 fun e W' =>
     (e = .returned (.bool true) ∧ J (pre ++ [x]) W' ∧ KpB lr eb W1 W') ∨ (e = .returned (.bool false) ∧ Jx (pre ++ [x]) W' ∧ KpB lr eb W1 W'))
   (hpk : ∀ W W', KpB lr eb W W' → Rd W W.heap.size 4 P p.length (ntc p) → Rd W' W'.heap.size 4 P p.length (ntc p)) (hPr : ∀ b : List Int, b.length = p.length → Pr b) (h6 : p.length ≤ 6)
   (ih : ∀ k1, k = k1 + 1 → NextW lr gp gy gn B Pr eb J Jx p P pc many k1) (hbc : b.length ≤ c) (hm : b.length + k = p.length) (hk0 : KpB lr eb w0 w) (hB : B ≤ w.heap.size) (hb : RdF B w A b.length (ic b)) (hj : J pre w) (hP : Rd w w.heap.size 4 P p.length (ntc p)) (qm : Bk w gp #[.slice P p.length pc]) (qy : Bk w gy #[.func (.yield lr) #[] #[]]) (qn : Bk w gn #[.func (.func 143) #[] #[.pointer (some ⟨gp, 0, none⟩), .pointer (some ⟨gy, 0, none⟩), .pointer (some ⟨gn, 0, none⟩)]])  :
   Calls Try.prog 143 #[.slice A b.length c, .int .i64 many, .pointer (some ⟨gp, 0, none⟩), .pointer (some ⟨gy, 0, none⟩), .pointer (some ⟨gn, 0, none⟩)] w (NextPost J Jx lr eb (wayK p many k b) pre w0) := by
 obtain ⟨bG, oG, SG⟩ := Sp.old hb.1
 obtain ⟨bP, oP, SP⟩ := Sp.old hP
 refine Zpx noEx Try.func143 rfl 56 rfl [.slice A b.length c, .int .i64 many, .pointer (some ⟨gp, 0, none⟩), .pointer (some ⟨gy, 0, none⟩), .pointer (some ⟨gn, 0, none⟩)] rfl rfl (Mem.init w _) ?_
 intro ac wc T M
 refine Zsr ?_
 refine lq T (Zra rfl evc) ?_; clear T ac; intro ac T
 replace T := T.pick [1, 2, 3, 4, 5] rfl
 refine Zln ?_
 refine Zsr ?_
 refine Zg3 T (Zq (Zrm rfl (T.e 0 rfl))) rfl (Zl Try.underlying28 0 rfl rfl) rfl (Za 0 rfl rfl) rfl ?_; clear T ac; intro ac T
 replace T := T.pick [0, 3, 4, 5, 6, 7] rfl
 refine Zln ?_
 refine wp_seq ?_
 refine Zsr ?_
 refine Zg4 T (Zq (Zrm rfl (T.e 0 rfl))) rfl (fun _ T => Zq (Zro (Mem.old M qm (fun h => h)) rfl (T.e 4 rfl) rfl)) rfl (Zl Try.underlying44 0 rfl rfl) rfl (fun _ T => Zq (rn_eql rfl (T.e 2 rfl) (T.e 0 rfl))) rfl ?_; clear T ac; intro ac T
 replace T := T.pick [0, 4, 5, 6, 7, 8, 9] rfl
 refine Zln ?_
 refine wp_if (T.e 0 rfl) ?_ ?_
 ·intro h1
  obtain rfl : k = 0 := by omega
  refine wp_seq ?_
  refine fr_lit ?_
  refine fl_q T rfl rfl rfl rfl (Zrm rfl (T.e 2 rfl)) ?_; clear T ac; intro ac T
  refine fl_w rfl ?_; intro K hK
  refine Zoc (first := []) (cap := []) T rfl rfl rfl rfl evf (.cons (T.e 0 rfl) .nil) Try.func127 rfl rfl ?_
  refine Calls.mono (turns_any A c b _ (SG.rd M (Zz9 _)) (by omega)) ?_
  clear T; rintro e wc ⟨rfl, hb⟩ ac T
  replace M := M.call hb; clear hb
  refine Zso hK _ _ ?_; clear hK K
  refine fl_q T rfl rfl rfl rfl (Zrm rfl (T.e 5 rfl)) ?_; clear T ac; intro ac T
  refine fl_q T rfl rfl rfl rfl (rn_neq rfl (T.e 1 rfl) (T.e 0 rfl)) ?_; clear T ac; intro ac T
  refine fl_q T rfl rfl rfl rfl (Zrm rfl (T.e 0 rfl)) ?_; clear T ac; intro ac T
  rcases Bool.eq_false_or_eq_true (!(decide ((turnW b) = many))) with h2 | h2
  ·replace h2 : ¬ ((turnW b) = many) := by first | (rw [Bool.not_eq_true'] at h2; exact of_decide_eq_false h2) | simpa using h2
   refine fl_pass T (Zwn rfl rfl (T.e 0 rfl) (by simp [h2])) rfl rfl rfl ?_; clear T ac; intro ac T
   refine fl_pass T (Zwn rfl rfl (T.e 1 rfl) (by simp [h2])) rfl rfl rfl ?_; clear T ac; intro ac T
   refine fl_pass T (Zwn rfl rfl (T.e 2 rfl) (by simp [h2])) rfl rfl rfl ?_; clear T ac; intro ac T
   refine fl_q T rfl rfl rfl rfl (Zr1 rfl (T.e 3 rfl) (by simp [h2]) evc) ?_; clear T ac; intro ac T
   refine fl_q T rfl rfl rfl rfl (Zra rfl (T.e 0 rfl)) ?_; clear T ac; intro ac T
   refine fl_nil ?_
   replace T := T.pick [0] rfl
   refine Znr ?_
   refine Zrt ?_
   refine rt_1 T rfl (T.e 0 rfl) ?_
   refine ⟨true, [], rfl, hk0.trans (KpB.of M), fun _ => ⟨?_, pre_nil (hJ _ _ _ hj ((KpN.of_below M.below).mono hB))⟩, fun h => by cases h⟩
   unfold wayK
   rw [if_neg (by assumption)]
   rfl
  replace h2 : (turnW b) = many := by first | (rw [Bool.not_eq_false'] at h2; exact of_decide_eq_true h2) | simpa using h2
  refine fl_q T (Zwy rfl rfl (T.e 0 rfl) (by simp [h2])) rfl rfl rfl (Zro (Mem.old M qy (fun h => h)) rfl (T.e 10 rfl) rfl) ?_; clear T ac; intro ac T
  refine fl_q T (Zwy rfl rfl (T.e 1 rfl) (by simp [h2])) rfl rfl rfl (Zrm rfl (T.e 8 rfl)) ?_; clear T ac; intro ac T
  refine fl_y (Zwy rfl rfl (T.e 2 rfl) (by simp [h2])) ?_; intro K hK
  have hj9 := hJ _ _ _ hj ((KpN.of_below M.below).mono hB)
  have hb9 := hb.mem M
  have hk9 := hk0.trans (KpB.of M)
  have hB9 := Nat.le_trans hB M.size
  refine ow_yield T rfl rfl rfl rfl (T.e 1 rfl) (.cons (T.e 0 rfl) .nil) (hY pre ⟨b, A, c⟩ _ hj9 ⟨hb9, hbc, hPr b (by omega)⟩) ?_
  clear T M
  rintro e wc (⟨rfl, hj8, hkp⟩ | ⟨rfl, hj8, hkp⟩)
  ·refine ⟨_, rfl, ?_⟩
   intro ac T
   have M : Mem wc noEx wc [] := Mem.init wc _
   refine Zso hK _ _ ?_; clear hK K
   refine fl_q T rfl rfl rfl rfl (Zr0 rfl (T.e 3 rfl) (by simp [h2]) (T.e 0 rfl)) ?_; clear T ac; intro ac T
   refine fl_q T rfl rfl rfl rfl (Zra rfl (T.e 0 rfl)) ?_; clear T ac; intro ac T
   refine fl_nil ?_
   replace T := T.pick [0] rfl
   refine Znr ?_
   refine Zrt ?_
   refine rt_1 T rfl (T.e 0 rfl) ?_
   have hw9 : wayK p many 0 b = [b] := by unfold wayK; rw [if_pos (by omega)]
   rw [hw9]
   refine ⟨true, [⟨b, A, c⟩], rfl, (hk9.trans hkp).trans (KpB.of M), ?_, ?_⟩
   exact fun _ => ⟨rfl, hJ _ _ _ hj8 ((KpN.of_below M.below).mono (Nat.le_trans hB9 hkp.size))⟩
   exact fun h => by cases h
  refine ⟨_, rfl, ?_⟩
  intro ac T
  have M : Mem wc noEx wc [] := Mem.init wc _
  refine Zso hK _ _ ?_; clear hK K
  refine fl_q T rfl rfl rfl rfl (Zr0 rfl (T.e 3 rfl) (by simp [h2]) (T.e 0 rfl)) ?_; clear T ac; intro ac T
  refine fl_q T rfl rfl rfl rfl (Zra rfl (T.e 0 rfl)) ?_; clear T ac; intro ac T
  refine fl_nil ?_
  replace T := T.pick [0] rfl
  refine Znr ?_
  refine Zrt ?_
  refine rt_1 T rfl (T.e 0 rfl) ?_
  have hw9 : wayK p many 0 b = [b] := by unfold wayK; rw [if_pos (by omega)]
  rw [hw9]
  refine ⟨false, [⟨b, A, c⟩], rfl, (hk9.trans hkp).trans (KpB.of M), ?_, ?_⟩
  exact fun h => by cases h
  exact fun _ => ⟨List.prefix_refl _, hJx _ _ _ hj8 ((KpN.of_below M.below).mono (Nat.le_trans hB9 hkp.size))⟩
 intro h1
 obtain ⟨k1, rfl⟩ : ∃ k1, k = k1 + 1 := ⟨k - 1, by omega⟩
 refine Zsk ?_
 refine wp_seq ?_
 refine Zsr ?_
 refine lq T (Zra rfl evc) ?_; clear T ac; intro ac T
 replace T := T.pick [0, 2, 3, 4, 5, 7] rfl
 refine Zln ?_
 refine wp_block ?_
 refine wp_loop_n (fun mz ac wc => ∃ (w : World) (x : Nat) (xs : List LsX), mz = 2 - x ∧ (x ≤ 2) ∧ (xs.map LsX.l = wyN p many k1 b x) ∧ (J (pre ++ xs) w) ∧ (KpB lr eb w0 w) ∧ (B ≤ w.heap.size) ∧ (RdF B w A b.length (ic b)) ∧ (Rd w w.heap.size 4 P p.length (ntc p)) ∧ (Bk w gp #[.slice P p.length pc]) ∧ (Bk w gy #[.func (.yield lr) #[] #[]]) ∧ (Bk w gn #[.func (.func 143) #[] #[.pointer (some ⟨gp, 0, none⟩), .pointer (some ⟨gy, 0, none⟩), .pointer (some ⟨gn, 0, none⟩)]]) ∧ Tm ac 56 [(0, .slice A b.length c), (1, .int .i64 many), (2, .pointer (some ⟨gp, 0, none⟩)), (4, .pointer (some ⟨gn, 0, none⟩)), (8, .int .i64 ((b.length : Nat) : Int)), (9, .int .i64 ((x : Int) + 1))] ∧ Mem w noEx wc []) ?_ ?_
 ·exact ⟨_, w, 0, [], rfl, (by omega), rfl, (by simpa using hj), hk0, hB, hb, hP, qm, qy, qn, T.pick [2, 3, 4, 5, 1, 0] rfl, M.mask [] rfl⟩
 clear T M
 rintro mz ac wc ⟨w, x, xs, hmm1, hx, hp, hj, hk0, hB, hb, hP, qm, qy, qn, T, M⟩
 refine wp_seq ?_
 refine Zsr ?_
 refine Zg2 T (Zq (Zrm rfl (T.e 5 rfl))) rfl (fun _ T => Zq (rn_leq rfl (T.e 0 rfl) evc)) rfl ?_; clear T ac; intro ac T
 replace T := T.pick [0, 2, 3, 4, 5, 6, 7] rfl
 refine Zln ?_
 refine wp_if (T.e 0 rfl) ?_ ?_
 ·intro h3
  obtain ⟨bG, oG, SG⟩ := Sp.old hb.1
  obtain ⟨bP, oP, SP⟩ := Sp.old hP
  obtain ⟨q, hkq, -⟩ := ntc_next (l := p) (k := b.length) (by omega)
  obtain ⟨z, hkz⟩ : ∃ z, 0 < b.length → b[b.length - 1]? = some z := ⟨b.getD (b.length - 1) 0, fun h => by rw [List.getD_eq_getElem?_getD, List.getElem?_eq_getElem (by omega : b.length - 1 < b.length)]; rfl⟩
  have hste := stepW_eq ((x : Int) + 1) hkq hkz
  refine Zsk ?_
  refine wp_seq ?_
  refine wp_block ?_
  refine cut_seq (fun ac wc => Tm ac 56 [(0, .slice A b.length c), (1, .int .i64 many), (2, .pointer (some ⟨gp, 0, none⟩)), (4, .pointer (some ⟨gn, 0, none⟩)), (8, .int .i64 ((b.length : Nat) : Int)), (9, .int .i64 ((x : Int) + 1)), (46, .bool ((decide (((b.length : Nat) : Int) = 0)) || (q.rest || (decide (((x : Int) + 1) = z)))))] ∧ Mem w noEx wc []) ?_ ?_
  ·refine wp_region_lit ?_
   refine Zg3 T (Zq (Zrm rfl (T.e 5 rfl))) rfl (fun _ T => Zq (rn_eql rfl (T.e 0 rfl) evc)) rfl (Zm 0 rfl rfl) rfl ?_; clear T ac; intro ac T
   rcases Bool.eq_false_or_eq_true (decide (((b.length : Nat) : Int) = 0)) with h4 | h4
   ·replace h4 := of_decide_eq_true h4
    refine Zg8 T (Zp (Zwn rfl rfl (T.e 0 rfl) (Zdt h4))) rfl (fun _ T => Zp (Zwn rfl rfl (T.e 1 rfl) (Zdt h4))) rfl (fun _ T => Zp (Zwn rfl rfl (T.e 2 rfl) (Zdt h4))) rfl (fun _ T => Zp (Zwn rfl rfl (T.e 3 rfl) (Zdt h4))) rfl (fun _ T => Zp (Zwn rfl rfl (T.e 4 rfl) (Zdt h4))) rfl (fun _ T => Zq (Zr1 rfl (T.e 5 rfl) (Zdt h4) evc)) rfl (Zm 0 rfl rfl) rfl (fun _ T => Zp (Zwn rfl rfl (T.e 0 rfl) rfl)) rfl ?_; clear T ac; intro ac T
    refine Zg7 T (Zp (Zwn rfl rfl (T.e 1 rfl) rfl)) rfl (fun _ T => Zp (Zwn rfl rfl (T.e 2 rfl) rfl)) rfl (fun _ T => Zp (Zwn rfl rfl (T.e 3 rfl) rfl)) rfl (fun _ T => Zp (Zwn rfl rfl (T.e 4 rfl) rfl)) rfl (fun _ T => Zp (Zwn rfl rfl (T.e 5 rfl) rfl)) rfl (fun _ T => Zp (Zwn rfl rfl (T.e 6 rfl) rfl)) rfl (fun _ T => Zq (Zr1 rfl (T.e 7 rfl) rfl evc)) rfl ?_; clear T ac; intro ac T
    refine wpList_nil ?_
    replace T := T.pick [0, 1, 2, 3, 4, 5, 6, 7, 10, 11, 12, 13, 14, 19, 20, 21, 22, 23, 24] rfl
    exact ⟨(T.pick (E' := [(0, .slice A b.length c), (1, .int .i64 many), (2, .pointer (some ⟨gp, 0, none⟩)), (4, .pointer (some ⟨gn, 0, none⟩)), (8, .int .i64 ((b.length : Nat) : Int)), (9, .int .i64 ((x : Int) + 1)), (46, .bool true)]) [13, 14, 15, 16, 17, 18, 0] rfl).as (by (try rw [show (decide (((b.length : Nat) : Int) = 0)) = true from (Zdt h4)]); (try rfl)), M.mask [] rfl⟩
   replace h4 := of_decide_eq_false h4
   refine Zg7 T (Zw (Zwy rfl rfl (T.e 0 rfl) (Zdf h4)) (Zro (Mem.old M qm (fun h => h)) rfl (T.e 6 rfl) rfl)) rfl (fun _ T => Zw (Zwy rfl rfl (T.e 1 rfl) (Zdf h4)) (Zrm rfl (T.e 9 rfl))) rfl (fun _ T => Zw (Zwy rfl rfl (T.e 2 rfl) (Zdf h4)) (Zri (size := 4) b.length rfl (T.e 1 rfl) (T.e 0 rfl) ⟨_, Try.underlying44, by kernel_rfl⟩ rfl (by omega) (SP.at0 (by omega)))) rfl (fun _ T => Zw (Zwy rfl rfl (T.e 3 rfl) (Zdf h4)) (Zrf (off := 3) rfl (T.e 0 rfl) (fun _ _ _ => by kernel_rfl))) rfl (fun _ T => Zw (Zwy rfl rfl (T.e 4 rfl) (Zdf h4)) (rn_cell (Sp.ntcC3 SP M (Zz9 _) hkq) rfl (T.e 0 rfl))) rfl (fun _ T => Zq (Zr0 rfl (T.e 5 rfl) (Zdf h4) (T.e 0 rfl))) rfl (Zm 0 rfl rfl) rfl ?_; clear T ac; intro ac T
   rcases Bool.eq_false_or_eq_true q.rest with h5 | h5
   ·refine Zg8 T (Zp (Zwn rfl rfl (T.e 0 rfl) h5)) rfl (fun _ T => Zp (Zwn rfl rfl (T.e 1 rfl) h5)) rfl (fun _ T => Zp (Zwn rfl rfl (T.e 2 rfl) h5)) rfl (fun _ T => Zp (Zwn rfl rfl (T.e 3 rfl) h5)) rfl (fun _ T => Zp (Zwn rfl rfl (T.e 4 rfl) h5)) rfl (fun _ T => Zp (Zwn rfl rfl (T.e 5 rfl) h5)) rfl (fun _ T => Zp (Zwn rfl rfl (T.e 6 rfl) h5)) rfl (fun _ T => Zq (Zr1 rfl (T.e 7 rfl) h5 evc)) rfl ?_; clear T ac; intro ac T
    refine wpList_nil ?_
    replace T := T.pick [0, 1, 2, 3, 4, 5, 6, 7, 10, 11, 12, 13, 14, 19, 20, 21, 22, 23, 24] rfl
    exact ⟨(T.pick (E' := [(0, .slice A b.length c), (1, .int .i64 many), (2, .pointer (some ⟨gp, 0, none⟩)), (4, .pointer (some ⟨gn, 0, none⟩)), (8, .int .i64 ((b.length : Nat) : Int)), (9, .int .i64 ((x : Int) + 1)), (46, .bool true)]) [13, 14, 15, 16, 17, 18, 0] rfl).as (by (try rw [show (decide (((b.length : Nat) : Int) = 0)) = false from (Zdf h4)]); (try rw [show q.rest = true from h5]); (try rfl)), M.mask [] rfl⟩
   refine Zg8 T (Zw (Zwy rfl rfl (T.e 0 rfl) h5) (Zrm rfl (T.e 16 rfl))) rfl (fun _ T => Zw (Zwy rfl rfl (T.e 1 rfl) h5) (Zrm rfl (T.e 12 rfl))) rfl (fun _ T => Zw (Zwy rfl rfl (T.e 2 rfl) h5) (Zrm rfl (T.e 17 rfl))) rfl (fun _ T => Zw (Zwy rfl rfl (T.e 3 rfl) h5) (rn_sub rfl (T.e 0 rfl) evc (by omega))) rfl (fun _ T => Zw (Zwy rfl rfl (T.e 4 rfl) h5) (Zri (size := 1) (b.length - 1) rfl (T.e 2 rfl) (T.e 0 rfl) ⟨_, Try.underlying28, by kernel_rfl⟩ (by omega) (by omega) (SG.at0 (by omega)))) rfl (fun _ T => Zw (Zwy rfl rfl (T.e 5 rfl) h5) (rn_cell (Sp.ic0 SG M (Zz9 _) (hkz (by omega))) rfl (T.e 0 rfl))) rfl (fun _ T => Zw (Zwy rfl rfl (T.e 6 rfl) h5) (rn_eql rfl (T.e 5 rfl) (T.e 0 rfl))) rfl (fun _ T => Zq (Zr0 rfl (T.e 7 rfl) h5 (T.e 0 rfl))) rfl ?_; clear T ac; intro ac T
   refine wpList_nil ?_
   replace T := T.pick [0, 1, 2, 3, 4, 5, 6, 7, 10, 11, 12, 13, 14, 19, 20, 21, 22, 23, 24] rfl
   exact ⟨(T.pick (E' := [(0, .slice A b.length c), (1, .int .i64 many), (2, .pointer (some ⟨gp, 0, none⟩)), (4, .pointer (some ⟨gn, 0, none⟩)), (8, .int .i64 ((b.length : Nat) : Int)), (9, .int .i64 ((x : Int) + 1)), (46, .bool (decide (((x : Int) + 1) = z)))]) [13, 14, 15, 16, 17, 18, 0] rfl).as (by (try rw [show (decide (((b.length : Nat) : Int) = 0)) = false from (Zdf h4)]); (try rw [show q.rest = false from h5]); (try rfl)), M.mask [] rfl⟩
  clear T M
  rintro ac wc ⟨T, M⟩
  refine wp_cond_split (T.e 6 rfl) ?_ ?_
  ·intro h6
   (have h6' := h6; try simp only [Zb1, Zb2, Zb3, Zb4, Zb5, Zb6, Zb7] at h6')
   refine wp_seq ?_
   refine g_startT M 9 (by kernel_rfl) rfl (by kernel_rfl) ?_
   clear M; intro wc M
   refine g_addG 7 M ?_
   refine g_have (fun ac wc => ∃ (Acur8_2 : Option Addr), ∃ (ccur8_2 : Nat), ∃ (Icur8_2 : List (Nat × BA)), (Cl 3 1 Acur8_2 b.length ccur8_2 (ic b) Icur8_2) ∧ ∃ (gr8_4 : Nat), Tm ac 56 [(51, .slice (some ⟨gr8_4, 0, none⟩) 1 1), (49, .slice Acur8_2 b.length ccur8_2), (53, .int .i64 many), (50, .int .i64 ((x : Int) + 1)), (48, .slice A b.length c), (47, .func (.func 143) #[] #[.pointer (some ⟨gp, 0, none⟩), .pointer (some ⟨gy, 0, none⟩), .pointer (some ⟨gn, 0, none⟩)]), (0, .slice A b.length c), (1, .int .i64 many), (2, .pointer (some ⟨gp, 0, none⟩)), (4, .pointer (some ⟨gn, 0, none⟩)), (8, .int .i64 ((b.length : Nat) : Int)), (9, .int .i64 ((x : Int) + 1)), (46, .bool ((decide (((b.length : Nat) : Int) = 0)) || (q.rest || (decide (((x : Int) + 1) = z)))))] ∧ Mem w noEx wc ((gr8_4, .cells [.int .i64 ((x : Int) + 1)]) :: Icur8_2)) (Zpb 9 95) 3 ?_ ?_
   ·clear T M
    rintro ac wc ⟨Acur8_2, ccur8_2, Icur8_2, hclur8_2, gr8_4, T, M⟩
    refine gw 5 127 ?_; intro K hK
    refine ow_appC ([(gr8_4, .cells [.int .i64 ((x : Int) + 1)])]) Try.info3 hclur8_2 M (by first | rfl | simp) T rfl rfl rfl rfl Try.underlying28 rfl rfl rfl (by omega) (T.e 1 rfl) (T.e 0 rfl) (Zne (i := 0) rfl) rfl rfl ?_; clear M T; intro ga1 cga1 wc ac M T
    refine Zso hK _ _ (MA.mk (fun _ => M.mask [false, false] rfl) trivial) ?_; clear hK K
    refine gw 7 255 ?_; intro K hK
    refine Zoc (first := []) (cap := [.pointer (some ⟨gp, 0, none⟩), .pointer (some ⟨gy, 0, none⟩), .pointer (some ⟨gn, 0, none⟩)]) T rfl rfl rfl rfl (T.e 6 rfl) (.cons (T.e 0 rfl) (.cons (T.e 3 rfl) .nil)) Try.func143 rfl rfl ?_
    refine Calls.mono (ih k1 rfl (b ++ [(x : Int) + 1]) _ _ _ (pre ++ xs) _ _ (by simp) ((Cl.row _ _ ga1 _ _ _).capLe M (List.Sublist.cons_cons _ (Zz9 _))) (by simp; omega) (KpB.of (Mem.init _ _)) (Nat.le_trans hB M.size) ⟨by rw [← ic_snoc]; exact M.rdRow (Zne (i := 0) rfl), fun b9 o9 h9 _ => by injection h9 with h9; injection h9 with h9 _ _; rw [← h9]; exact Nat.le_trans hB (M.ge (Zne (i := 0) rfl))⟩ (hJ _ _ _ hj ((KpN.of_below M.below).mono hB)) (hpk _ _ (KpB.of M) hP) (M.old qm (fun h => h)) (M.old qy (fun h => h)) (M.old qn (fun h => h))) ?_
    clear T; rintro e wc ⟨rur8_7, xsur8_7, rfl, hkpur8_7, hnrur8_7⟩ ac T
    have hkpur8_7 := (KpB.of M).trans hkpur8_7
    clear M
    have qm := Mem.old hkpur8_7 qm hxm
    have qy := Mem.old hkpur8_7 qy hxy
    have qn := Mem.old hkpur8_7 qn hxn
    have hP := hpk _ _ hkpur8_7 hP
    have hb := hkpur8_7.rdF hlr heb hb
    have hk0 := hk0.trans hkpur8_7
    have hB := Nat.le_trans hB hkpur8_7.size
    obtain ⟨w, hwe⟩ : ∃ q : World, q = wc := ⟨_, rfl⟩
    have M : Mem w noEx wc [] := by rw [hwe]; exact Mem.init wc _
    rw [← hwe] at qm qy qn hP hb hB hk0 hnrur8_7
    clear hwe hkpur8_7
    refine Zso hK _ _ (MA.mk (fun h => (no_of (by kernel_rfl) h).elim) trivial) ?_; clear hK K
    refine g_q (T := T) (i := 8) rfl (by kernel_rfl) (by kernel_rfl : (Zpb 9 255).setIfInBounds 8 true = Zpb 9 511) (si_and (si_G rfl) si_T) (fun _ _ _ h => h) rfl rfl rfl rfl (fun _ _ _ _ _ => (rn_not rfl (T.e 0 rfl))) ?_; clear T ac; intro ac T
    refine Zgd (by kernel_rfl) ?_
    replace T := T.pick [0, 9, 10, 11, 12, 13, 14] rfl
    refine nm_then ?_
    refine wp_cond_split (T.e 0 rfl) ?_ ?_
    ·intro h7
     (have h7' := h7; try simp only [Zb1, Zb2, Zb3, Zb4, Zb5, Zb6, Zb7] at h7')
     refine Zsr ?_
     refine lq T (Zra rfl evc) ?_; clear T ac; intro ac T
     replace T := T.pick [0] rfl
     refine Zln ?_
     refine wp_ret ?_
     refine Zrb ?_
     refine Zrt ?_
     refine Zrt ?_
     refine Zrb ?_
     refine Zrt ?_
     refine rt_1 T rfl (T.e 0 rfl) ?_
     have hr9 : rur8_7 = false := by simp_all
     have h8 := hnrur8_7.2 hr9
     refine ⟨false, xs ++ xsur8_7, rfl, hk0.trans (KpB.of M), (fun h => by cases h), fun _ => ⟨(by rw [List.map_append, hp]; exact wyN_pre (by omega) (hste.2 (by rcases h6' with h9 | h9 | h9; exact .inl (by omega); exact .inr (.inl h9); exact .inr (.inr h9))) h8.1), ?_⟩⟩
     rw [← List.append_assoc]
     exact hJx _ _ _ h8.2 ((KpN.of_below M.below).mono hB)
    intro h7
    (have h7' := h7; try simp only [Zb1, Zb2, Zb3, Zb4, Zb5, Zb6, Zb7] at h7')
    refine wp_skip ?_
    refine Znb ?_
    refine nm_then ?_
    refine wp_region_lit ?_
    refine Zg2 T (Zq (Zrm rfl (T.e 6 rfl))) rfl (fun _ T => Zq (rn_add rfl (T.e 0 rfl) evc (by omega))) rfl ?_; clear T ac; intro ac T
    refine l_q (v := (.int .i64 (((x : Int) + 1) + 1))) (T.pick [0, 1, 2, 3, 4, 5, 6, 7] rfl) rfl rfl rfl rfl (Zra rfl (T.e 0 rfl)) ?_; clear T ac; intro ac T
    replace T := T.pick [0, 4, 5, 6, 7, 8] rfl
    refine Zln ?_
    exact ⟨_, by omega, _, x + 1, (xs ++ xsur8_7), rfl, (by omega), (by rw [List.map_append, hp, (hnrur8_7.1 (by simp_all)).1, wyN_succ, if_pos (hste.2 (by rcases h6' with h9 | h9 | h9; exact .inl (by omega); exact .inr (.inl h9); exact .inr (.inr h9)))]), (by rw [← List.append_assoc]; exact (hnrur8_7.1 (by simp_all)).2), hk0, hB, hb, hP, qm, qy, qn, T.pick [1, 2, 3, 4, 5, 0] rfl, M.mask [] rfl⟩
   intro H0
   refine g_q (T := T) (i := 0) rfl (by kernel_rfl) (by kernel_rfl : (Zpb 9 0).setIfInBounds 0 true = Zpb 9 1) (si_and (si_G rfl) si_T) (fun _ _ _ h => h) rfl rfl rfl rfl (fun B w' hD hl hS => (Zro (Mem.old (show Mem w noEx w' _ from ((MA.lft hS) (hD.wait (i := 0) (m := 7) (by kernel_rfl) hl))) qn (fun h => h)) rfl (T.e 3 rfl) rfl)) ?_; clear T ac; intro ac T
   refine g_q (T := T) (i := 1) rfl (by kernel_rfl) (by kernel_rfl : (Zpb 9 1).setIfInBounds 1 true = Zpb 9 3) (si_and (si_G rfl) si_T) (fun _ _ _ h => h) rfl rfl rfl rfl (fun _ _ _ _ _ => (Zrm rfl (T.e 1 rfl))) ?_; clear T ac; intro ac T
   refine g_q (T := T) (i := 3) rfl (by kernel_rfl) (by kernel_rfl : (Zpb 9 3).setIfInBounds 3 true = Zpb 9 11) (si_and (si_G rfl) si_T) (fun _ _ _ h => h) rfl rfl rfl rfl (fun _ _ _ _ _ => (Zrm rfl (T.e 7 rfl))) ?_; clear T ac; intro ac T
   refine g_q (T := T) (i := 6) rfl (by kernel_rfl) (by kernel_rfl : (Zpb 9 11).setIfInBounds 6 true = Zpb 9 75) (si_and (si_G rfl) si_T) (fun _ _ _ h => h) rfl rfl rfl rfl (fun _ _ _ _ _ => (Zrm rfl (T.e 4 rfl))) ?_; clear T ac; intro ac T
   refine g_m2 (i := 2) (j := 4) (by kernel_rfl) ?_ ?_
   ·refine gi 79 ?_; intro K hK
    refine Zoc (first := []) (cap := []) T rfl rfl rfl rfl evf (.cons (T.e 2 rfl) .nil) Try.func111 rfl rfl ?_
    refine Calls.mono (cloneI_any A c b _ (SG.rd M (Zz9 _)) (by omega)) ?_
    clear T; rintro e wc ⟨Acur8_2, ccur8_2, Icur8_2, rfl, hclur8_2, N⟩ ac T
    replace M := (M.join N).swapI
    clear N
    replace M : Mem w noEx wc (Icur8_2) := M
    refine Zso hK _ _ (MA.mk (fun _ => M.perm [] rfl rfl) trivial) ?_; clear hK K
    refine gw 4 95 ?_; intro K hK
    refine ow_bs (e := 3) [.int .i64 ((x : Int) + 1)] M T rfl rfl rfl rfl (.cons (T.e 2 rfl) .nil) (fun _ => by kernel_rfl) ?_; clear M T; intro gr8_4 wc ac M T
    refine Zso hK _ _ (MA.mk (fun _ => M.perm [] rfl rfl) trivial) ?_; clear hK K
    exact H0 _ _ ⟨Acur8_2, ccur8_2, Icur8_2, hclur8_2, gr8_4, T, M⟩
   refine gi 91 ?_; intro K hK
   refine ow_bs (e := 3) [.int .i64 ((x : Int) + 1)] M T rfl rfl rfl rfl (.cons (T.e 1 rfl) .nil) (fun _ => by kernel_rfl) ?_; clear M T; intro gr8_4 wc ac M T
   refine Zso hK _ _ (MA.mk (fun _ => M.mask [false] rfl) trivial) ?_; clear hK K
   refine gw 2 95 ?_; intro K hK
   refine Zoc (first := []) (cap := []) T rfl rfl rfl rfl evf (.cons (T.e 3 rfl) .nil) Try.func111 rfl rfl ?_
   refine Calls.mono (cloneI_any A c b _ (SG.rd M (Zz9 _)) (by omega)) ?_
   clear T; rintro e wc ⟨Acur8_2, ccur8_2, Icur8_2, rfl, hclur8_2, N⟩ ac T
   replace M := (M.join N).swapI
   clear N
   replace M : Mem w noEx wc ((gr8_4, .cells [.int .i64 ((x : Int) + 1)]) :: Icur8_2) := M
   refine Zso hK _ _ (MA.mk (fun _ => M.perm [] rfl rfl) trivial) ?_; clear hK K
   exact H0 _ _ ⟨Acur8_2, ccur8_2, Icur8_2, hclur8_2, gr8_4, T.pick [1, 0, 2, 3, 4, 5, 6, 7, 8, 9, 10, 11, 12] rfl, M⟩
  intro h6
  (have h6' := h6; try simp only [Zb1, Zb2, Zb3, Zb4, Zb5, Zb6, Zb7] at h6')
  refine wp_skip ?_
  refine Znb ?_
  refine nm_then ?_
  refine wp_region_lit ?_
  refine Zg2 T (Zq (Zrm rfl (T.e 5 rfl))) rfl (fun _ T => Zq (rn_add rfl (T.e 0 rfl) evc (by omega))) rfl ?_; clear T ac; intro ac T
  refine l_q (v := (.int .i64 (((x : Int) + 1) + 1))) (T.pick [0, 1, 2, 3, 4, 5, 6, 8] rfl) rfl rfl rfl rfl (Zra rfl (T.e 0 rfl)) ?_; clear T ac; intro ac T
  replace T := T.pick [0, 3, 4, 5, 6, 7] rfl
  refine Zln ?_
  exact ⟨_, by omega, w, x + 1, xs, rfl, (by omega), (by rw [hp, wyN_succ, if_neg (fun h9 => by rw [hste] at h9; rw [Bool.or_eq_false_iff, Bool.or_eq_false_iff, decide_eq_false_iff_not, decide_eq_false_iff_not] at h6; obtain ⟨k1, k2, k3⟩ := h6; rcases h9 with h9 | h9 | h9; exact k1 (by omega); rw [k2] at h9; cases h9; exact k3 h9), List.append_nil]), hj, hk0, hB, hb, hP, qm, qy, qn, T.pick [1, 2, 3, 4, 5, 0] rfl, M.mask [] rfl⟩
 intro h3
 refine wp_exit ?_
 refine Zet ?_
 refine Zet ?_
 refine ex_hit ?_
 refine nm_then ?_
 refine Zsr ?_
 refine lq T (Zra rfl evc) ?_; clear T ac; intro ac T
 replace T := T.pick [0] rfl
 refine Zln ?_
 refine wp_ret ?_
 refine rt_1 T rfl (T.e 0 rfl) ?_
 refine ⟨true, xs, rfl, hk0.trans (KpB.of M), fun _ => ⟨(by rw [wyN_end, hp, show x = 2 by omega]), hJ _ _ _ hj ((KpN.of_below M.below).mono hB)⟩, (fun h => by cases h)⟩
def NextL (lr gp gy gn B : Nat) (Pr : List Int → Prop) (eb : Nat → Prop) (J Jx : List LsX → World → Prop) (n : Nat) (k : Nat) : Prop := ∀ (f : Nat) (b : List Int) (A : Option Addr) (m c : Nat) (pre : List LsX) (w0 w : World), f ≤ n → m = b.length → m ≤ c → (∀ x ∈ b, 0 ≤ x ∧ x < (n : Int)) → b.length + k ≤ n → KpB lr eb w0 w → B ≤ w.heap.size → RdF B w A m (ic b) → J pre w →
 Bk w gp #[.int .i64 (n : Int)] → Bk w gy #[.func (.yield lr) #[] #[]] → Bk w gn #[.func (.func 146) #[] #[.pointer (some ⟨gy, 0, none⟩), .pointer (some ⟨gp, 0, none⟩), .pointer (some ⟨gn, 0, none⟩)]] →
 Calls Try.prog 146 #[.slice A m c, .int .i64 (f : Int), .int .i64 (k : Int), .pointer (some ⟨gy, 0, none⟩), .pointer (some ⟨gp, 0, none⟩), .pointer (some ⟨gn, 0, none⟩)] w (NextPost J Jx lr eb (choK n k f b) pre w0)
set_option maxHeartbeats 4000000 in
theorem nextL_step (lr gp gy gn B : Nat) (Pr : List Int → Prop) (eb : Nat → Prop) (J Jx : List LsX → World → Prop) (n : Nat) (k f : Nat) (b : List Int) (A : Option Addr) (c : Nat) (pre : List LsX) (w0 : World)  (w : World) (hlr : lr < B) (heb : ∀ b, eb b → b < B) (hxm : ¬ (gp = lr ∨ eb gp)) (hxy : ¬ (gy = lr ∨ eb gy)) (hxn : ¬ (gn = lr ∨ eb gn)) (hJ : Calm B J) (hJx : Calm B Jx)
   (hY : ∀ pre x W1, J pre W1 → LsOx B Pr x W1 → YieldAt Fence.wide 6 Try.prog lr (lsV x).toArray W1 fun e W' =>
     (e = .returned (.bool true) ∧ J (pre ++ [x]) W' ∧ KpB lr eb W1 W') ∨ (e = .returned (.bool false) ∧ Jx (pre ++ [x]) W' ∧ KpB lr eb W1 W'))
   (hPr : ∀ b : List Int, (∀ x ∈ b, 0 ≤ x ∧ x < (n : Int)) → b.length ≤ n → Pr b) (h6 : n ≤ 1000)
   (ih : ∀ k1, k = k1 + 1 → NextL lr gp gy gn B Pr eb J Jx n k1) (hbc : b.length ≤ c) (hbe : ∀ x ∈ b, 0 ≤ x ∧ x < (n : Int)) (hm : b.length + k ≤ n) (hf : f ≤ n) (hk0 : KpB lr eb w0 w) (hB : B ≤ w.heap.size) (hb : RdF B w A b.length (ic b)) (hj : J pre w) (qm : Bk w gp #[.int .i64 (n : Int)]) (qy : Bk w gy #[.func (.yield lr) #[] #[]]) (qn : Bk w gn #[.func (.func 146) #[] #[.pointer (some ⟨gy, 0, none⟩), .pointer (some ⟨gp, 0, none⟩), .pointer (some ⟨gn, 0, none⟩)]])  :
   Calls Try.prog 146 #[.slice A b.length c, .int .i64 (f : Int), .int .i64 (k : Int), .pointer (some ⟨gy, 0, none⟩), .pointer (some ⟨gp, 0, none⟩), .pointer (some ⟨gn, 0, none⟩)] w (NextPost J Jx lr eb (choK n k f b) pre w0) := by
 obtain ⟨bG, oG, SG⟩ := Sp.old hb.1
 refine Zpx noEx Try.func146 rfl 34 rfl [.slice A b.length c, .int .i64 (f : Int), .int .i64 (k : Int), .pointer (some ⟨gy, 0, none⟩), .pointer (some ⟨gp, 0, none⟩), .pointer (some ⟨gn, 0, none⟩)] rfl rfl (Mem.init w _) ?_
 intro ac wc T M
 refine Zsr ?_
 refine lq T (Zra rfl evc) ?_; clear T ac; intro ac T
 replace T := T.pick [1, 2, 3, 4, 5, 6] rfl
 refine Zln ?_
 refine wp_seq ?_
 refine Zsr ?_
 refine Zg2 T (Zq (Zrm rfl (T.e 2 rfl))) rfl (fun _ T => Zq (rn_eql rfl (T.e 0 rfl) evc)) rfl ?_; clear T ac; intro ac T
 replace T := T.pick [0, 2, 3, 4, 5, 6, 7] rfl
 refine Zln ?_
 refine wp_if (T.e 0 rfl) ?_ ?_
 ·intro h1
  refine wp_seq ?_
  refine fr_lit ?_
  refine fl_q T rfl rfl rfl rfl (Zro (Mem.old M qy (fun h => h)) rfl (T.e 4 rfl) rfl) ?_; clear T ac; intro ac T
  refine fl_q T rfl rfl rfl rfl (Zrm rfl (T.e 2 rfl)) ?_; clear T ac; intro ac T
  refine fl_y rfl ?_; intro K hK
  have hj9 := hJ _ _ _ hj ((KpN.of_below M.below).mono hB)
  have hb9 := hb.mem M
  have hk9 := hk0.trans (KpB.of M)
  have hB9 := Nat.le_trans hB M.size
  refine ow_yield T rfl rfl rfl rfl (T.e 1 rfl) (.cons (T.e 0 rfl) .nil) (hY pre ⟨b, A, c⟩ _ hj9 ⟨hb9, hbc, hPr b hbe (by omega)⟩) ?_
  clear T M
  rintro e wc (⟨rfl, hj8, hkp⟩ | ⟨rfl, hj8, hkp⟩)
  ·refine ⟨_, rfl, ?_⟩
   intro ac T
   have M : Mem wc noEx wc [] := Mem.init wc _
   refine Zso hK _ _ ?_; clear hK K
   refine fl_q T rfl rfl rfl rfl (Zra rfl (T.e 0 rfl)) ?_; clear T ac; intro ac T
   refine fl_nil ?_
   replace T := T.pick [0] rfl
   refine Znr ?_
   refine Zrt ?_
   refine rt_1 T rfl (T.e 0 rfl) ?_
   have hw9 : choK n k f b = [b] := by rw [show k = 0 by omega]; rfl
   rw [hw9]
   refine ⟨true, [⟨b, A, c⟩], rfl, (hk9.trans hkp).trans (KpB.of M), ?_, ?_⟩
   exact fun _ => ⟨rfl, hJ _ _ _ hj8 ((KpN.of_below M.below).mono (Nat.le_trans hB9 hkp.size))⟩
   exact fun h => by cases h
  refine ⟨_, rfl, ?_⟩
  intro ac T
  have M : Mem wc noEx wc [] := Mem.init wc _
  refine Zso hK _ _ ?_; clear hK K
  refine fl_q T rfl rfl rfl rfl (Zra rfl (T.e 0 rfl)) ?_; clear T ac; intro ac T
  refine fl_nil ?_
  replace T := T.pick [0] rfl
  refine Znr ?_
  refine Zrt ?_
  refine rt_1 T rfl (T.e 0 rfl) ?_
  have hw9 : choK n k f b = [b] := by rw [show k = 0 by omega]; rfl
  rw [hw9]
  refine ⟨false, [⟨b, A, c⟩], rfl, (hk9.trans hkp).trans (KpB.of M), ?_, ?_⟩
  exact fun h => by cases h
  exact fun _ => ⟨List.prefix_refl _, hJx _ _ _ hj8 ((KpN.of_below M.below).mono (Nat.le_trans hB9 hkp.size))⟩
 intro h1
 obtain ⟨k1, hk1⟩ : ∃ k1, k = k1 + 1 := ⟨k - 1, by omega⟩
 refine Zsk ?_
 refine wp_seq ?_
 refine Zsr ?_
 refine Zg2 T (Zq (Zrm rfl (T.e 2 rfl))) rfl (Za 0 rfl rfl) rfl ?_; clear T ac; intro ac T
 replace T := T.pick [0, 3, 5, 7, 8] rfl
 refine Zln ?_
 refine wp_block ?_
 refine wp_loop_n (fun mz ac wc => ∃ (w : World) (x : Nat) (xs : List LsX), mz = n - f - x ∧ (x ≤ n - f) ∧ (xs.map LsX.l = chN n k1 f b x) ∧ (J (pre ++ xs) w) ∧ (KpB lr eb w0 w) ∧ (B ≤ w.heap.size) ∧ (RdF B w A b.length (ic b)) ∧ (Bk w gp #[.int .i64 (n : Int)]) ∧ (Bk w gy #[.func (.yield lr) #[] #[]]) ∧ (Bk w gn #[.func (.func 146) #[] #[.pointer (some ⟨gy, 0, none⟩), .pointer (some ⟨gp, 0, none⟩), .pointer (some ⟨gn, 0, none⟩)]]) ∧ Tm ac 34 [(0, .slice A b.length c), (2, .int .i64 (k : Int)), (4, .pointer (some ⟨gp, 0, none⟩)), (5, .pointer (some ⟨gn, 0, none⟩)), (10, .int .i64 ((f + x : Nat) : Int))] ∧ Mem w noEx wc []) ?_ ?_
 ·exact ⟨_, w, 0, [], rfl, (by omega), rfl, (by simpa using hj), hk0, hB, hb, qm, qy, qn, T.pick [1, 2, 3, 4, 0] rfl, M.mask [] rfl⟩
 clear T M
 rintro mz ac wc ⟨w, x, xs, hmm1, hx, hp, hj, hk0, hB, hb, qm, qy, qn, T, M⟩
 refine wp_seq ?_
 refine Zsr ?_
 refine Zg3 T (Zq (Zrm rfl (T.e 4 rfl))) rfl (fun _ T => Zq (Zro (Mem.old M qm (fun h => h)) rfl (T.e 3 rfl) rfl)) rfl (fun _ T => Zq (rn_lss rfl (T.e 1 rfl) (T.e 0 rfl))) rfl ?_; clear T ac; intro ac T
 replace T := T.pick [0, 3, 4, 5, 6, 7] rfl
 refine Zln ?_
 refine wp_if (T.e 0 rfl) ?_ ?_
 ·intro h2
  obtain ⟨bG, oG, SG⟩ := Sp.old hb.1
  refine Zsk ?_
  refine wp_seq ?_
  refine wp_block ?_
  refine wp_seq ?_
  refine g_startT M 12 (by kernel_rfl) rfl (by kernel_rfl) ?_
  clear M; intro wc M
  refine g_addG 10 M ?_
  refine g_have (fun ac wc => ∃ (Acur6_2 : Option Addr), ∃ (ccur6_2 : Nat), ∃ (Icur6_2 : List (Nat × BA)), (Cl 3 1 Acur6_2 b.length ccur6_2 (ic b) Icur6_2) ∧ ∃ (gr6_4 : Nat), Tm ac 34 [(26, .slice (some ⟨gr6_4, 0, none⟩) 1 1), (24, .slice Acur6_2 b.length ccur6_2), (31, .int .i64 ((k : Int) - 1)), (30, .int .i64 (k : Int)), (29, .int .i64 (((f + x : Nat) : Int) + 1)), (28, .int .i64 ((f + x : Nat) : Int)), (25, .int .i64 ((f + x : Nat) : Int)), (23, .slice A b.length c), (22, .func (.func 146) #[] #[.pointer (some ⟨gy, 0, none⟩), .pointer (some ⟨gp, 0, none⟩), .pointer (some ⟨gn, 0, none⟩)]), (19, .bool (decide (((f + x : Nat) : Int) < (n : Int)))), (0, .slice A b.length c), (2, .int .i64 (k : Int)), (4, .pointer (some ⟨gp, 0, none⟩)), (5, .pointer (some ⟨gn, 0, none⟩)), (10, .int .i64 ((f + x : Nat) : Int))] ∧ Mem w noEx wc ((gr6_4, .cells [.int .i64 ((f + x : Nat) : Int)]) :: Icur6_2)) (Zpb 12 991) 3 ?_ ?_
  ·clear T M
   rintro ac wc ⟨Acur6_2, ccur6_2, Icur6_2, hclur6_2, gr6_4, T, M⟩
   refine gw 5 1023 ?_; intro K hK
   refine ow_appC ([(gr6_4, .cells [.int .i64 ((f + x : Nat) : Int)])]) Try.info3 hclur6_2 M (by first | rfl | simp) T rfl rfl rfl rfl Try.underlying28 rfl rfl rfl (by omega) (T.e 1 rfl) (T.e 0 rfl) (Zne (i := 0) rfl) rfl rfl ?_; clear M T; intro ga1 cga1 wc ac M T
   refine Zso hK _ _ (MA.mk (fun _ => M.mask [false, false] rfl) trivial) ?_; clear hK K
   refine gw 10 2047 ?_; intro K hK
   have e9 : ((f + x : Nat) : Int) + 1 = ((f + x + 1 : Nat) : Int) := by omega
   have e8 : (k : Int) - 1 = (k1 : Int) := by omega
   rw [e9, e8] at T
   refine Zoc (first := []) (cap := [.pointer (some ⟨gy, 0, none⟩), .pointer (some ⟨gp, 0, none⟩), .pointer (some ⟨gn, 0, none⟩)]) T rfl rfl rfl rfl (T.e 9 rfl) (.cons (T.e 0 rfl) (.cons (T.e 5 rfl) (.cons (T.e 3 rfl) .nil))) Try.func146 rfl rfl ?_
   refine Calls.mono (ih k1 hk1 (f + x + 1) (b ++ [((f + x : Nat) : Int)]) _ _ _ (pre ++ xs) _ _ (by omega) (by simp) ((Cl.row _ _ ga1 _ _ _).capLe M (List.Sublist.cons_cons _ (Zz9 _))) (fun y hy => by rcases List.mem_append.1 hy with hy | hy; exact hbe y hy; rw [List.mem_singleton.1 hy]; omega) (by simp; omega) (KpB.of (Mem.init _ _)) (Nat.le_trans hB M.size) ⟨by rw [← ic_snoc]; exact M.rdRow (Zne (i := 0) rfl), fun b9 o9 h9 _ => by injection h9 with h9; injection h9 with h9 _ _; rw [← h9]; exact Nat.le_trans hB (M.ge (Zne (i := 0) rfl))⟩ (hJ _ _ _ hj ((KpN.of_below M.below).mono hB)) (M.old qm (fun h => h)) (M.old qy (fun h => h)) (M.old qn (fun h => h))) ?_
   clear T; rintro e wc ⟨rur6_10, xsur6_10, rfl, hkpur6_10, hnrur6_10⟩ ac T
   have hkpur6_10 := (KpB.of M).trans hkpur6_10
   clear M
   have qm := Mem.old hkpur6_10 qm hxm
   have qy := Mem.old hkpur6_10 qy hxy
   have qn := Mem.old hkpur6_10 qn hxn
   have hb := hkpur6_10.rdF hlr heb hb
   have hk0 := hk0.trans hkpur6_10
   have hB := Nat.le_trans hB hkpur6_10.size
   obtain ⟨w, hwe⟩ : ∃ q : World, q = wc := ⟨_, rfl⟩
   have M : Mem w noEx wc [] := by rw [hwe]; exact Mem.init wc _
   rw [← hwe] at qm qy qn hb hB hk0 hnrur6_10
   clear hwe hkpur6_10
   refine Zso hK _ _ (MA.mk (fun h => (no_of (by kernel_rfl) h).elim) trivial) ?_; clear hK K
   refine g_q (T := T) (i := 11) rfl (by kernel_rfl) (by kernel_rfl : (Zpb 12 2047).setIfInBounds 11 true = Zpb 12 4095) (si_and (si_G rfl) si_T) (fun _ _ _ h => h) rfl rfl rfl rfl (fun _ _ _ _ _ => (rn_not rfl (T.e 0 rfl))) ?_; clear T ac; intro ac T
   refine Zgd (by kernel_rfl) ?_
   replace T := T.pick [0, 13, 14, 15, 16, 17] rfl
   refine nm_then ?_
   refine wp_cond_split (T.e 0 rfl) ?_ ?_
   ·intro h3
    (have h3' := h3; try simp only [Zb1, Zb2, Zb3, Zb4, Zb5, Zb6, Zb7] at h3')
    refine Zsr ?_
    refine lq T (Zra rfl evc) ?_; clear T ac; intro ac T
    replace T := T.pick [0] rfl
    refine Zln ?_
    refine wp_ret ?_
    refine Zrb ?_
    refine Zrt ?_
    refine Zrt ?_
    refine Zrb ?_
    refine Zrt ?_
    refine rt_1 T rfl (T.e 0 rfl) ?_
    have hr9 : rur6_10 = false := by simp_all
    have h8 := hnrur6_10.2 hr9
    rw [hk1]
    refine ⟨false, xs ++ xsur6_10, rfl, hk0.trans (KpB.of M), (fun h => by cases h), fun _ => ⟨(by rw [List.map_append, hp]; exact chN_pre (by omega) h8.1), ?_⟩⟩
    rw [← List.append_assoc]
    exact hJx _ _ _ h8.2 ((KpN.of_below M.below).mono hB)
   intro h3
   (have h3' := h3; try simp only [Zb1, Zb2, Zb3, Zb4, Zb5, Zb6, Zb7] at h3')
   refine wp_skip ?_
   refine Znb ?_
   refine nm_then ?_
   refine wp_region_lit ?_
   refine Zg2 T (Zq (Zrm rfl (T.e 5 rfl))) rfl (fun _ T => Zq (rn_add rfl (T.e 0 rfl) evc (by omega))) rfl ?_; clear T ac; intro ac T
   refine l_q (v := (.int .i64 (((f + x : Nat) : Int) + 1))) (T.pick [0, 1, 2, 3, 4, 5, 6] rfl) rfl rfl rfl rfl (Zra rfl (T.e 0 rfl)) ?_; clear T ac; intro ac T
   replace T := T.pick [0, 4, 5, 6, 7] rfl
   refine Zln ?_
   exact ⟨_, by omega, _, x + 1, (xs ++ xsur6_10), rfl, (by omega), (by rw [List.map_append, hp, (hnrur6_10.1 (by simp_all)).1, chN_succ]), (by rw [← List.append_assoc]; exact (hnrur6_10.1 (by simp_all)).2), hk0, hB, hb, qm, qy, qn, T.pick [1, 2, 3, 4, 0] rfl, M.mask [] rfl⟩
  intro H0
  refine g_q (T := T) (i := 0) rfl (by kernel_rfl) (by kernel_rfl : (Zpb 12 0).setIfInBounds 0 true = Zpb 12 1) (si_and (si_G rfl) si_T) (fun _ _ _ h => h) rfl rfl rfl rfl (fun B w' hD hl hS => (Zro (Mem.old (show Mem w noEx w' _ from ((MA.lft hS) (hD.wait (i := 0) (m := 10) (by kernel_rfl) hl))) qn (fun h => h)) rfl (T.e 4 rfl) rfl)) ?_; clear T ac; intro ac T
  refine g_q (T := T) (i := 1) rfl (by kernel_rfl) (by kernel_rfl : (Zpb 12 1).setIfInBounds 1 true = Zpb 12 3) (si_and (si_G rfl) si_T) (fun _ _ _ h => h) rfl rfl rfl rfl (fun _ _ _ _ _ => (Zrm rfl (T.e 2 rfl))) ?_; clear T ac; intro ac T
  refine g_q (T := T) (i := 3) rfl (by kernel_rfl) (by kernel_rfl : (Zpb 12 3).setIfInBounds 3 true = Zpb 12 11) (si_and (si_G rfl) si_T) (fun _ _ _ h => h) rfl rfl rfl rfl (fun _ _ _ _ _ => (Zrm rfl (T.e 7 rfl))) ?_; clear T ac; intro ac T
  refine g_q (T := T) (i := 6) rfl (by kernel_rfl) (by kernel_rfl : (Zpb 12 11).setIfInBounds 6 true = Zpb 12 75) (si_and (si_G rfl) si_T) (fun _ _ _ h => h) rfl rfl rfl rfl (fun _ _ _ _ _ => (Zrm rfl (T.e 8 rfl))) ?_; clear T ac; intro ac T
  refine g_q (T := T) (i := 7) rfl (by kernel_rfl) (by kernel_rfl : (Zpb 12 75).setIfInBounds 7 true = Zpb 12 203) (si_and (si_G rfl) si_T) (fun _ _ _ h => h) rfl rfl rfl rfl (fun _ _ _ _ _ => (rn_add rfl (T.e 0 rfl) evc (by omega))) ?_; clear T ac; intro ac T
  refine g_q (T := T) (i := 8) rfl (by kernel_rfl) (by kernel_rfl : (Zpb 12 203).setIfInBounds 8 true = Zpb 12 459) (si_and (si_G rfl) si_T) (fun _ _ _ h => h) rfl rfl rfl rfl (fun _ _ _ _ _ => (Zrm rfl (T.e 7 rfl))) ?_; clear T ac; intro ac T
  refine g_q (T := T) (i := 9) rfl (by kernel_rfl) (by kernel_rfl : (Zpb 12 459).setIfInBounds 9 true = Zpb 12 971) (si_and (si_G rfl) si_T) (fun _ _ _ h => h) rfl rfl rfl rfl (fun _ _ _ _ _ => (rn_sub rfl (T.e 0 rfl) evc (by omega))) ?_; clear T ac; intro ac T
  refine g_m2 (i := 2) (j := 4) (by kernel_rfl) ?_ ?_
  ·refine gi 975 ?_; intro K hK
   refine Zoc (first := []) (cap := []) T rfl rfl rfl rfl evf (.cons (T.e 5 rfl) .nil) Try.func111 rfl rfl ?_
   refine Calls.mono (cloneI_any A c b _ (SG.rd M (Zz9 _)) (by omega)) ?_
   clear T; rintro e wc ⟨Acur6_2, ccur6_2, Icur6_2, rfl, hclur6_2, N⟩ ac T
   replace M := (M.join N).swapI
   clear N
   replace M : Mem w noEx wc (Icur6_2) := M
   refine Zso hK _ _ (MA.mk (fun _ => M.perm [] rfl rfl) trivial) ?_; clear hK K
   refine gw 4 991 ?_; intro K hK
   refine ow_bs (e := 3) [.int .i64 ((f + x : Nat) : Int)] M T rfl rfl rfl rfl (.cons (T.e 5 rfl) .nil) (fun _ => by kernel_rfl) ?_; clear M T; intro gr6_4 wc ac M T
   refine Zso hK _ _ (MA.mk (fun _ => M.perm [] rfl rfl) trivial) ?_; clear hK K
   exact H0 _ _ ⟨Acur6_2, ccur6_2, Icur6_2, hclur6_2, gr6_4, T, M⟩
  refine gi 987 ?_; intro K hK
  refine ow_bs (e := 3) [.int .i64 ((f + x : Nat) : Int)] M T rfl rfl rfl rfl (.cons (T.e 4 rfl) .nil) (fun _ => by kernel_rfl) ?_; clear M T; intro gr6_4 wc ac M T
  refine Zso hK _ _ (MA.mk (fun _ => M.mask [false] rfl) trivial) ?_; clear hK K
  refine gw 2 991 ?_; intro K hK
  refine Zoc (first := []) (cap := []) T rfl rfl rfl rfl evf (.cons (T.e 6 rfl) .nil) Try.func111 rfl rfl ?_
  refine Calls.mono (cloneI_any A c b _ (SG.rd M (Zz9 _)) (by omega)) ?_
  clear T; rintro e wc ⟨Acur6_2, ccur6_2, Icur6_2, rfl, hclur6_2, N⟩ ac T
  replace M := (M.join N).swapI
  clear N
  replace M : Mem w noEx wc ((gr6_4, .cells [.int .i64 ((f + x : Nat) : Int)]) :: Icur6_2) := M
  refine Zso hK _ _ (MA.mk (fun _ => M.perm [] rfl rfl) trivial) ?_; clear hK K
  exact H0 _ _ ⟨Acur6_2, ccur6_2, Icur6_2, hclur6_2, gr6_4, T.pick [1, 0, 2, 3, 4, 5, 6, 7, 8, 9, 10, 11, 12, 13, 14] rfl, M⟩
 intro h2
 refine wp_exit ?_
 refine Zet ?_
 refine Zet ?_
 refine ex_hit ?_
 refine nm_then ?_
 refine Zsr ?_
 refine lq T (Zra rfl evc) ?_; clear T ac; intro ac T
 replace T := T.pick [0] rfl
 refine Zln ?_
 refine wp_ret ?_
 refine rt_1 T rfl (T.e 0 rfl) ?_
 rw [hk1]
 refine ⟨true, xs, rfl, hk0.trans (KpB.of M), fun _ => ⟨(by rw [chN_end, hp, show x = n - f by omega]), hJ _ _ _ hj ((KpN.of_below M.below).mono hB)⟩, (fun h => by cases h)⟩
theorem nextW_any (lr gp gy gn B : Nat) (Pr : List Int → Prop) (eb : Nat → Prop) (J Jx : List LsX → World → Prop) (p : List Nt) (P : Option Addr) (pc : Nat) (many : Int) (hlr : lr < B) (heb : ∀ b, eb b → b < B) (hxm : ¬ (gp = lr ∨ eb gp)) (hxy : ¬ (gy = lr ∨ eb gy)) (hxn : ¬ (gn = lr ∨ eb gn)) (hJ : Calm B J) (hJx : Calm B Jx)
  (hY : ∀ pre x W1, J pre W1 → LsOx B Pr x W1 → YieldAt Fence.wide 6 Try.prog lr (lsV x).toArray W1 fun e W' =>
   (e = .returned (.bool true) ∧ J (pre ++ [x]) W' ∧ KpB lr eb W1 W') ∨ (e = .returned (.bool false) ∧ Jx (pre ++ [x]) W' ∧ KpB lr eb W1 W'))
  (hpk : ∀ W W', KpB lr eb W W' → Rd W W.heap.size 4 P p.length (ntc p) → Rd W' W'.heap.size 4 P p.length (ntc p)) (hPr : ∀ b : List Int, b.length = p.length → Pr b) (h6 : p.length ≤ 6) (k : Nat) : NextW lr gp gy gn B Pr eb J Jx p P pc many k := by
 induction k with
 | zero =>
  intro b A m c pre w0 w hm hc hk hk0 hB hb hj hP qm qy qn
  subst hm
  exact nextW_step lr gp gy gn B Pr eb J Jx p P pc many 0 b A c pre w0 w hlr heb hxm hxy hxn hJ hJx hY hpk hPr h6 (fun k1 h => by omega) hc hk hk0 hB hb hj hP qm qy qn
 | succ k ih =>
  intro b A m c pre w0 w hm hc hk hk0 hB hb hj hP qm qy qn
  subst hm
  exact nextW_step lr gp gy gn B Pr eb J Jx p P pc many (k + 1) b A c pre w0 w hlr heb hxm hxy hxn hJ hJx hY hpk hPr h6 (fun k1 h => by
   obtain rfl : k = k1 := by omega
   exact ih) hc hk hk0 hB hb hj hP qm qy qn
theorem nextL_any (lr gp gy gn B : Nat) (Pr : List Int → Prop) (eb : Nat → Prop) (J Jx : List LsX → World → Prop) (n : Nat) (hlr : lr < B) (heb : ∀ b, eb b → b < B) (hxm : ¬ (gp = lr ∨ eb gp)) (hxy : ¬ (gy = lr ∨ eb gy)) (hxn : ¬ (gn = lr ∨ eb gn)) (hJ : Calm B J) (hJx : Calm B Jx)
  (hY : ∀ pre x W1, J pre W1 → LsOx B Pr x W1 → YieldAt Fence.wide 6 Try.prog lr (lsV x).toArray W1 fun e W' =>
   (e = .returned (.bool true) ∧ J (pre ++ [x]) W' ∧ KpB lr eb W1 W') ∨ (e = .returned (.bool false) ∧ Jx (pre ++ [x]) W' ∧ KpB lr eb W1 W'))
  (hPr : ∀ b : List Int, (∀ x ∈ b, 0 ≤ x ∧ x < (n : Int)) → b.length ≤ n → Pr b) (h6 : n ≤ 1000) (k : Nat) : NextL lr gp gy gn B Pr eb J Jx n k := by
 induction k with
 | zero =>
  intro f b A m c pre w0 w hf hm hc hbe hk hk0 hB hb hj qm qy qn
  subst hm
  exact nextL_step lr gp gy gn B Pr eb J Jx n 0 f b A c pre w0 w hlr heb hxm hxy hxn hJ hJx hY hPr h6 (fun k1 h => by omega) hc hbe hk hf hk0 hB hb hj qm qy qn
 | succ k ih =>
  intro f b A m c pre w0 w hf hm hc hbe hk hk0 hB hb hj qm qy qn
  subst hm
  exact nextL_step lr gp gy gn B Pr eb J Jx n (k + 1) f b A c pre w0 w hlr heb hxm hxy hxn hJ hJx hY hPr h6 (fun k1 h => by
   obtain rfl : k = k1 := by omega
   exact ih) hc hbe hk hf hk0 hB hb hj qm qy qn
def bysN (p : List Nt) (x : Nat) : List (List Int) := (List.range x).flatMap fun m : Nat => wayK p (m : Int) p.length []
def bysT (p : List Nt) : List (List Int) := bysN p (max p.length 1)
theorem bysN_succ (p : List Nt) (x : Nat) : bysN p (x + 1) = bysN p x ++ wayK p (x : Int) p.length [] := by
 unfold bysN
 rw [List.range_succ, List.flatMap_append]
 simp
theorem bysN_mono {p : List Nt} {x : Nat} : ∀ y, bysN p x <+: bysN p (x + y)
 | 0 => List.prefix_refl _
 | y + 1 => (bysN_mono y).trans (by rw [← Nat.add_assoc, bysN_succ]; exact List.prefix_append _ _)
theorem bysN_pre {p : List Nt} {x : Nat} {t : List (List Int)} (hx : x < max p.length 1) (h : t <+: wayK p (x : Int) p.length []) : bysN p x ++ t <+: bysT p := by
 have h1 : bysN p x ++ t <+: bysN p (x + 1) := by rw [bysN_succ]; exact (List.prefix_append_right_inj _).2 h
 have h2 := bysN_mono (p := p) (x := x + 1) (max p.length 1 - (x + 1))
 rw [show x + 1 + (max p.length 1 - (x + 1)) = max p.length 1 by omega] at h2
 exact h1.trans h2
def lisN (n x : Nat) : List (List Int) := (List.range x).flatMap fun m : Nat => choK n m 0 []
def lisT (n : Nat) : List (List Int) := lisN n (n + 1)
theorem lisN_succ (n x : Nat) : lisN n (x + 1) = lisN n x ++ choK n x 0 [] := by
 unfold lisN
 rw [List.range_succ, List.flatMap_append]
 simp
theorem lisN_mono {n x : Nat} : ∀ y, lisN n x <+: lisN n (x + y)
 | 0 => List.prefix_refl _
 | y + 1 => (lisN_mono y).trans (by rw [← Nat.add_assoc, lisN_succ]; exact List.prefix_append _ _)
theorem lisN_pre {n x : Nat} {t : List (List Int)} (hx : x < n + 1) (h : t <+: choK n x 0 []) : lisN n x ++ t <+: lisT n := by
 have h1 : lisN n x ++ t <+: lisN n (x + 1) := by rw [lisN_succ]; exact (List.prefix_append_right_inj _).2 h
 have h2 := lisN_mono (n := n) (x := x + 1) (n + 1 - (x + 1))
 rw [show x + 1 + (n + 1 - (x + 1)) = n + 1 by omega] at h2
 exact h1.trans h2
theorem rd_kpB {l size n : Nat} {eb : Nat → Prop} {W W' : World} {P : Option Addr} {xs : List Value} (h : KpB l eb W W') (hx : ∀ b o, P = some ⟨b, o, none⟩ → 0 < n → ¬ (b = l ∨ eb b)) (r : Rd W W.heap.size size P n xs) : Rd W' W'.heap.size size P n xs :=
 ⟨r.1, fun hn => by
  obtain ⟨b, o, h1, h2, h3⟩ := r.2 hn
  exact ⟨b, o, h1, Nat.lt_of_lt_of_le h2 h.size, fun j u hu => (World.cell?_of_block (w := W) (a := ⟨b, o + j, none⟩) (h.block b h2 (hx b o h1 hn))).trans (h3 j u hu)⟩⟩
set_option maxHeartbeats 2000000 in
theorem itW_in (lr b1 B : Nat) (Pr : List Int → Prop) (eb : Nat → Prop) (J Jx : List LsX → World → Prop) (p : List Nt) (P : Option Addr) (pc : Nat)  (w : World) (hx1 : ¬ (b1 = lr ∨ eb b1)) (hlr : lr < B) (heb : ∀ b, eb b → b < B) (hB : B ≤ w.heap.size) (hJ : Calm B J) (hJx : Calm B Jx)
   (hY : ∀ pre x W1, J pre W1 → LsOx B Pr x W1 → YieldAt Fence.wide 6 Try.prog lr (lsV x).toArray W1 fun e W' =>
     (e = .returned (.bool true) ∧ J (pre ++ [x]) W' ∧ KpB lr eb W1 W') ∨ (e = .returned (.bool false) ∧ Jx (pre ++ [x]) W' ∧ KpB lr eb W1 W'))
   (q1 : Bk w b1 #[.slice P p.length pc]) (hj : J [] w) (hP : Rd w w.heap.size 4 P p.length (ntc p)) (hpx : ∀ b o, P = some ⟨b, o, none⟩ → 0 < p.length → ¬ (b = lr ∨ eb b)) (hPr : ∀ b : List Int, b.length = p.length → Pr b) (h6 : p.length ≤ 6)  :
   Calls Try.prog 142 #[.func (.yield lr) #[] #[], .pointer (some ⟨b1, 0, none⟩)] w fun e W' => (∃ v, e = .returned v) ∧ ((∃ xs : List LsX, xs.map LsX.l = bysT p ∧ J xs W') ∨ (∃ pre : List LsX, pre.map LsX.l <+: bysT p ∧ Jx pre W')) := by
 obtain ⟨bP, oP, SP⟩ := Sp.old hP
 refine Zpx noEx Try.func142 rfl 17 rfl [.func (.yield lr) #[] #[], .pointer (some ⟨b1, 0, none⟩)] rfl rfl (Mem.init w _) ?_
 intro ac wc T M
 refine Zsr ?_
 refine Zl2 ?_
 refine Zob M T rfl rfl rfl rfl (T.e 0 rfl) rfl ?_; clear M T; intro g1 wc ac M T
 replace T := T.pick [0, 2] rfl
 refine Zln ?_
 refine Zsr ?_
 refine Zl2 ?_
 refine Zoa M T rfl rfl rfl rfl ?_; clear M T; intro g2 wc ac M T
 refine Zln ?_
 refine Zsr ?_
 refine lq (v := (.func (.func 143) #[] #[.pointer (some ⟨b1, 0, none⟩), .pointer (some ⟨g1, 0, none⟩), .pointer (some ⟨g2, 0, none⟩)])) T (rn_makeFunc rfl .nil (.cons (T.e 2 rfl) (.cons (T.e 1 rfl) (.cons (T.e 0 rfl) .nil)))) ?_; clear T ac; intro ac T
 refine Zl2 ?_
 refine Zos M T rfl rfl (T.e 1 rfl) (T.e 0 rfl) rfl .head rfl (by simp) rfl (by kernel_rfl) ?_; clear M T; intro wc ac M T
 replace T := T.pick [1, 3] rfl
 refine Zln ?_
 refine Zsr ?_
 refine Zg4 T (Zq (Zro (Mem.old M q1 (fun h => h)) rfl (T.e 1 rfl) rfl)) rfl (Zl Try.underlying44 0 rfl rfl) rfl (fun _ T => Zq (rn_max2 rfl (T.e 0 rfl) evc)) rfl (fun _ T => Zq (Zrm rfl evc)) rfl ?_; clear T ac; intro ac T
 replace T := T.pick [0, 1, 4] rfl
 refine Zln ?_
 refine wp_block ?_
 have hgy := Nat.le_trans hB (M.ge (Zne (i := 1) rfl))
 have hgn := Nat.le_trans hB (M.ge (Zne (i := 0) rfl))
 have qy := M.nth 1 rfl
 have qn := M.nth 0 rfl
 have q1 := M.old q1 (fun h => h)
 have hj := hJ _ _ _ hj ((KpN.of_below M.below).mono hB)
 have hP := SP.rd M (Zz9 _)
 have hB := Nat.le_trans hB M.size
 clear M
 obtain ⟨w, hwe⟩ : ∃ q : World, q = wc := ⟨_, rfl⟩
 have M : Mem w noEx wc [] := by rw [hwe]; exact Mem.init wc _
 rw [← hwe] at q1 qy qn hj hB hP
 clear hwe
 refine wp_loop_n (fun mz ac wc => ∃ (w : World) (x : Nat) (xs : List LsX), mz = max p.length 1 - x ∧ (x ≤ max p.length 1) ∧ (xs.map LsX.l = bysN p x) ∧ (J xs w) ∧ (B ≤ w.heap.size) ∧ (Bk w b1 #[.slice P p.length pc]) ∧ (Bk w g1 #[.func (.yield lr) #[] #[]]) ∧ (Bk w g2 #[.func (.func 143) #[] #[.pointer (some ⟨b1, 0, none⟩), .pointer (some ⟨g1, 0, none⟩), .pointer (some ⟨g2, 0, none⟩)]]) ∧ (Rd w w.heap.size 4 P p.length (ntc p)) ∧ Tm ac 17 [(3, .pointer (some ⟨g2, 0, none⟩)), (8, .int .i64 (max ((p.length : Nat) : Int) 1)), (9, .int .i64 (x : Int))] ∧ Mem w noEx wc []) ?_ ?_
 ·exact ⟨_, w, 0, [], rfl, (Nat.zero_le _), rfl, hj, hB, q1, qy, qn, hP, T.pick [2, 1, 0] rfl, M.mask [] rfl⟩
 clear T M
 rintro mz ac wc ⟨w, x, xs, hmm1, hx, hp, hj, hB, q1, qy, qn, hP, T, M⟩
 refine Zsr ?_
 refine lq T (rn_lss rfl (T.e 2 rfl) (T.e 1 rfl)) ?_; clear T ac; intro ac T
 refine Zln ?_
 refine wp_seq ?_
 refine wp_if (T.e 0 rfl) ?_ ?_
 ·intro h1
  obtain ⟨bP, oP, SP⟩ := Sp.old hP
  refine Zsk ?_
  refine wp_seq ?_
  refine wp_block ?_
  refine Zsr ?_
  refine Zg2 T (Zq (Zrm rfl (T.e 3 rfl))) rfl (Za 0 rfl rfl) rfl ?_; clear T ac; intro ac T
  replace T := T.pick [0, 3, 4, 5] rfl
  refine Zln ?_
  refine Zsr ?_
  refine Zg2 T (Zq (Zro (Mem.old M qn (fun h => h)) rfl (T.e 1 rfl) rfl)) rfl (Zm 1 rfl rfl) rfl ?_; clear T ac; intro ac T
  refine Zl2 ?_
  refine Zoc (first := []) (cap := [.pointer (some ⟨b1, 0, none⟩), .pointer (some ⟨g1, 0, none⟩), .pointer (some ⟨g2, 0, none⟩)]) T rfl rfl rfl rfl (T.e 1 rfl) (.cons evc (.cons (T.e 0 rfl) .nil)) Try.func143 rfl rfl ?_
  refine Calls.mono (nextW_any lr b1 g1 g2 B Pr eb J Jx p P pc (x : Int) hlr heb hx1 (fun h9 => h9.elim (fun h9 => by omega) (fun h9 => by have := heb _ h9; omega)) (fun h9 => h9.elim (fun h9 => by omega) (fun h9 => by have := heb _ h9; omega)) hJ hJx hY (fun _ _ h r => rd_kpB h hpx r) hPr h6 p.length [] none 0 0 xs _ _ rfl (Nat.le_refl _) (by simp) (KpB.of (Mem.init _ _)) (Nat.le_trans hB M.size) ⟨⟨by simp [ic], fun h => absurd h (by omega)⟩, fun _ _ h => by cases h⟩ (hJ _ _ _ hj ((KpN.of_below M.below).mono hB)) (SP.rd M (Zz9 _)) (M.old q1 (fun h => h)) (M.old qy (fun h => h)) (M.old qn (fun h => h))) ?_
  clear T; rintro e wc ⟨ru1, xsu1, rfl, hkpu1, hnru1⟩ ac T
  have hkpu1 := (KpB.of M).trans hkpu1
  clear M
  have q1 := Mem.old hkpu1 q1 hx1
  have qy := Mem.old hkpu1 qy (fun h9 => h9.elim (fun h9 => by omega) (fun h9 => by have := heb _ h9; omega))
  have qn := Mem.old hkpu1 qn (fun h9 => h9.elim (fun h9 => by omega) (fun h9 => by have := heb _ h9; omega))
  have hP := rd_kpB hkpu1 hpx hP
  have hB := Nat.le_trans hB hkpu1.size
  obtain ⟨w, hwe⟩ : ∃ q : World, q = wc := ⟨_, rfl⟩
  have M : Mem w noEx wc [] := by rw [hwe]; exact Mem.init wc _
  rw [← hwe] at q1 qy qn hB hnru1 hP
  clear hwe hkpu1
  refine lq T (rn_not rfl (T.e 0 rfl)) ?_; clear T ac; intro ac T
  replace T := T.pick [0, 5, 6, 7] rfl
  refine Zln ?_
  refine wp_cond_split (T.e 0 rfl) ?_ ?_
  ·intro h2
   (have h2' := h2; try simp only [Zb1, Zb2, Zb3, Zb4, Zb5, Zb6, Zb7] at h2')
   refine wp_ret ?_
   refine Zrb ?_
   refine Zrt ?_
   refine Zrt ?_
   refine Zrb ?_
   refine rt_0 T rfl ?_
   have hr9 : ru1 = false := by simp_all
   have h8 := hnru1.2 hr9
   exact ⟨⟨_, rfl⟩, .inr ⟨xs ++ xsu1, (by rw [List.map_append, hp]; exact bysN_pre (by omega) h8.1), hJx _ _ _ h8.2 ((KpN.of_below M.below).mono hB)⟩⟩
  intro h2
  (have h2' := h2; try simp only [Zb1, Zb2, Zb3, Zb4, Zb5, Zb6, Zb7] at h2')
  refine wp_skip ?_
  refine Znb ?_
  refine nm_then ?_
  refine wp_region_lit ?_
  refine lq T (rn_add rfl (T.e 3 rfl) evc (by omega)) ?_; clear T ac; intro ac T
  refine l_q (v := (.int .i64 ((x : Int) + 1))) (T.pick [0, 1, 2, 3] rfl) rfl rfl rfl rfl (Zrm rfl (T.e 0 rfl)) ?_; clear T ac; intro ac T
  replace T := T.pick [0, 3, 4] rfl
  refine Zln ?_
  exact ⟨_, by omega, _, x + 1, (xs ++ xsu1), rfl, (by omega), (by rw [List.map_append, hp, (hnru1.1 (by simp_all)).1, bysN_succ]), (hnru1.1 (by simp_all)).2, hB, q1, qy, qn, hP, T.pick [1, 2, 0] rfl, M.mask [] rfl⟩
 intro h1
 refine wp_exit ?_
 refine Zet ?_
 refine Zet ?_
 refine ex_hit ?_
 refine nm_0 T rfl ?_
 refine ⟨⟨_, rfl⟩, .inl ⟨xs, ?_, hJ _ _ _ hj ((KpN.of_below M.below).mono hB)⟩⟩
 rw [hp]
 unfold bysT
 congr 1
 omega
set_option maxHeartbeats 2000000 in
theorem itL_in (lr b1 B : Nat) (Pr : List Int → Prop) (eb : Nat → Prop) (J Jx : List LsX → World → Prop) (n : Nat)  (w : World) (hx1 : ¬ (b1 = lr ∨ eb b1)) (hlr : lr < B) (heb : ∀ b, eb b → b < B) (hB : B ≤ w.heap.size) (hJ : Calm B J) (hJx : Calm B Jx)
   (hY : ∀ pre x W1, J pre W1 → LsOx B Pr x W1 → YieldAt Fence.wide 6 Try.prog lr (lsV x).toArray W1 fun e W' =>
     (e = .returned (.bool true) ∧ J (pre ++ [x]) W' ∧ KpB lr eb W1 W') ∨ (e = .returned (.bool false) ∧ Jx (pre ++ [x]) W' ∧ KpB lr eb W1 W'))
   (q1 : Bk w b1 #[.int .i64 (n : Int)]) (hj : J [] w) (hPr : ∀ b : List Int, (∀ x ∈ b, 0 ≤ x ∧ x < (n : Int)) → b.length ≤ n → Pr b) (h6 : n ≤ 1000)  :
   Calls Try.prog 145 #[.func (.yield lr) #[] #[], .pointer (some ⟨b1, 0, none⟩)] w fun e W' => (∃ v, e = .returned v) ∧ ((∃ xs : List LsX, xs.map LsX.l = lisT n ∧ J xs W') ∨ (∃ pre : List LsX, pre.map LsX.l <+: lisT n ∧ Jx pre W')) := by
 refine Zpx noEx Try.func145 rfl 16 rfl [.func (.yield lr) #[] #[], .pointer (some ⟨b1, 0, none⟩)] rfl rfl (Mem.init w _) ?_
 intro ac wc T M
 refine Zsr ?_
 refine Zl2 ?_
 refine Zob M T rfl rfl rfl rfl (T.e 0 rfl) rfl ?_; clear M T; intro g1 wc ac M T
 replace T := T.pick [0, 2] rfl
 refine Zln ?_
 refine Zsr ?_
 refine Zl2 ?_
 refine Zoa M T rfl rfl rfl rfl ?_; clear M T; intro g2 wc ac M T
 refine Zln ?_
 refine Zsr ?_
 refine lq (v := (.func (.func 146) #[] #[.pointer (some ⟨g1, 0, none⟩), .pointer (some ⟨b1, 0, none⟩), .pointer (some ⟨g2, 0, none⟩)])) T (rn_makeFunc rfl .nil (.cons (T.e 1 rfl) (.cons (T.e 2 rfl) (.cons (T.e 0 rfl) .nil)))) ?_; clear T ac; intro ac T
 refine Zl2 ?_
 refine Zos M T rfl rfl (T.e 1 rfl) (T.e 0 rfl) rfl .head rfl (by simp) rfl (by kernel_rfl) ?_; clear M T; intro wc ac M T
 replace T := T.pick [1, 3] rfl
 refine Zln ?_
 refine Zsr ?_
 refine Zg3 T (Zq (Zro (Mem.old M q1 (fun h => h)) rfl (T.e 1 rfl) rfl)) rfl (fun _ T => Zq (rn_add rfl (T.e 0 rfl) evc (by omega))) rfl (fun _ T => Zq (Zrm rfl evc)) rfl ?_; clear T ac; intro ac T
 replace T := T.pick [0, 1, 3] rfl
 refine Zln ?_
 refine wp_block ?_
 have hgy := Nat.le_trans hB (M.ge (Zne (i := 1) rfl))
 have hgn := Nat.le_trans hB (M.ge (Zne (i := 0) rfl))
 have qy := M.nth 1 rfl
 have qn := M.nth 0 rfl
 have q1 := M.old q1 (fun h => h)
 have hj := hJ _ _ _ hj ((KpN.of_below M.below).mono hB)
 have hB := Nat.le_trans hB M.size
 clear M
 obtain ⟨w, hwe⟩ : ∃ q : World, q = wc := ⟨_, rfl⟩
 have M : Mem w noEx wc [] := by rw [hwe]; exact Mem.init wc _
 rw [← hwe] at q1 qy qn hj hB
 clear hwe
 refine wp_loop_n (fun mz ac wc => ∃ (w : World) (x : Nat) (xs : List LsX), mz = n + 1 - x ∧ (x ≤ n + 1) ∧ (xs.map LsX.l = lisN n x) ∧ (J xs w) ∧ (B ≤ w.heap.size) ∧ (Bk w b1 #[.int .i64 (n : Int)]) ∧ (Bk w g1 #[.func (.yield lr) #[] #[]]) ∧ (Bk w g2 #[.func (.func 146) #[] #[.pointer (some ⟨g1, 0, none⟩), .pointer (some ⟨b1, 0, none⟩), .pointer (some ⟨g2, 0, none⟩)]]) ∧ Tm ac 16 [(3, .pointer (some ⟨g2, 0, none⟩)), (7, .int .i64 ((n : Int) + 1)), (8, .int .i64 (x : Int))] ∧ Mem w noEx wc []) ?_ ?_
 ·exact ⟨_, w, 0, [], rfl, (Nat.zero_le _), rfl, hj, hB, q1, qy, qn, T.pick [2, 1, 0] rfl, M.mask [] rfl⟩
 clear T M
 rintro mz ac wc ⟨w, x, xs, hmm1, hx, hp, hj, hB, q1, qy, qn, T, M⟩
 refine Zsr ?_
 refine lq T (rn_lss rfl (T.e 2 rfl) (T.e 1 rfl)) ?_; clear T ac; intro ac T
 refine Zln ?_
 refine wp_seq ?_
 refine wp_if (T.e 0 rfl) ?_ ?_
 ·intro h1
  refine Zsk ?_
  refine wp_seq ?_
  refine wp_block ?_
  refine Zsr ?_
  refine Zg2 T (Zq (Zrm rfl (T.e 3 rfl))) rfl (Za 0 rfl rfl) rfl ?_; clear T ac; intro ac T
  replace T := T.pick [0, 3, 4, 5] rfl
  refine Zln ?_
  refine Zsr ?_
  refine Zg2 T (Zq (Zro (Mem.old M qn (fun h => h)) rfl (T.e 1 rfl) rfl)) rfl (Zm 1 rfl rfl) rfl ?_; clear T ac; intro ac T
  refine Zl2 ?_
  refine Zoc (first := []) (cap := [.pointer (some ⟨g1, 0, none⟩), .pointer (some ⟨b1, 0, none⟩), .pointer (some ⟨g2, 0, none⟩)]) T rfl rfl rfl rfl (T.e 1 rfl) (.cons evc (.cons evc (.cons (T.e 0 rfl) .nil))) Try.func146 rfl rfl ?_
  refine Calls.mono (nextL_any lr b1 g1 g2 B Pr eb J Jx n hlr heb hx1 (fun h9 => h9.elim (fun h9 => by omega) (fun h9 => by have := heb _ h9; omega)) (fun h9 => h9.elim (fun h9 => by omega) (fun h9 => by have := heb _ h9; omega)) hJ hJx hY hPr h6 x 0 [] none 0 0 xs _ _ (Nat.zero_le _) rfl (Nat.le_refl _) (fun y hy => by cases hy) (by simp only [List.length_nil]; omega) (KpB.of (Mem.init _ _)) (Nat.le_trans hB M.size) ⟨⟨by simp [ic], fun h => absurd h (by omega)⟩, fun _ _ h => by cases h⟩ (hJ _ _ _ hj ((KpN.of_below M.below).mono hB)) (M.old q1 (fun h => h)) (M.old qy (fun h => h)) (M.old qn (fun h => h))) ?_
  clear T; rintro e wc ⟨ru1, xsu1, rfl, hkpu1, hnru1⟩ ac T
  have hkpu1 := (KpB.of M).trans hkpu1
  clear M
  have q1 := Mem.old hkpu1 q1 hx1
  have qy := Mem.old hkpu1 qy (fun h9 => h9.elim (fun h9 => by omega) (fun h9 => by have := heb _ h9; omega))
  have qn := Mem.old hkpu1 qn (fun h9 => h9.elim (fun h9 => by omega) (fun h9 => by have := heb _ h9; omega))
  have hB := Nat.le_trans hB hkpu1.size
  obtain ⟨w, hwe⟩ : ∃ q : World, q = wc := ⟨_, rfl⟩
  have M : Mem w noEx wc [] := by rw [hwe]; exact Mem.init wc _
  rw [← hwe] at q1 qy qn hB hnru1
  clear hwe hkpu1
  refine lq T (rn_not rfl (T.e 0 rfl)) ?_; clear T ac; intro ac T
  replace T := T.pick [0, 5, 6, 7] rfl
  refine Zln ?_
  refine wp_cond_split (T.e 0 rfl) ?_ ?_
  ·intro h2
   (have h2' := h2; try simp only [Zb1, Zb2, Zb3, Zb4, Zb5, Zb6, Zb7] at h2')
   refine wp_ret ?_
   refine Zrb ?_
   refine Zrt ?_
   refine Zrt ?_
   refine Zrb ?_
   refine rt_0 T rfl ?_
   have hr9 : ru1 = false := by simp_all
   have h8 := hnru1.2 hr9
   exact ⟨⟨_, rfl⟩, .inr ⟨xs ++ xsu1, (by rw [List.map_append, hp]; exact lisN_pre (by omega) h8.1), hJx _ _ _ h8.2 ((KpN.of_below M.below).mono hB)⟩⟩
  intro h2
  (have h2' := h2; try simp only [Zb1, Zb2, Zb3, Zb4, Zb5, Zb6, Zb7] at h2')
  refine wp_skip ?_
  refine Znb ?_
  refine nm_then ?_
  refine wp_region_lit ?_
  refine lq T (rn_add rfl (T.e 3 rfl) evc (by omega)) ?_; clear T ac; intro ac T
  refine l_q (v := (.int .i64 ((x : Int) + 1))) (T.pick [0, 1, 2, 3] rfl) rfl rfl rfl rfl (Zrm rfl (T.e 0 rfl)) ?_; clear T ac; intro ac T
  replace T := T.pick [0, 3, 4] rfl
  refine Zln ?_
  exact ⟨_, by omega, _, x + 1, (xs ++ xsu1), rfl, (by omega), (by rw [List.map_append, hp, (hnru1.1 (by simp_all)).1, lisN_succ]), (hnru1.1 (by simp_all)).2, hB, q1, qy, qn, T.pick [1, 2, 0] rfl, M.mask [] rfl⟩
 intro h1
 refine wp_exit ?_
 refine Zet ?_
 refine Zet ?_
 refine ex_hit ?_
 refine nm_0 T rfl ?_
 refine ⟨⟨_, rfl⟩, .inl ⟨xs, ?_, hJ _ _ _ hj ((KpN.of_below M.below).mono hB)⟩⟩
 rw [hp]
 unfold lisT
 congr 1
 omega
section
variable {P : Program} {fn : Func} {R : Ending → World → Prop} {a : Act} {w0 w : World} {ex : Nat → Prop} {L : List (Nat × BA)} {n : Nat} {E : List (Nat × Value)}
theorem rt_cc {t t' : Tmp} {ty ty' : TypeId} {g g' : Nat} {v v' : Value} [OneTy P ty] [OneTy P ty'] (M : Mem w0 ex w L) (T : Tm a n E) (hr : fn.results = #[.cell t ty, .cell t' ty'])
  (hx : a.eval (.tmp t) = .pointer (some ⟨g, 0, none⟩)) (hx' : a.eval (.tmp t') = .pointer (some ⟨g', 0, none⟩)) (hm : (g, BA.cells [v]) ∈ L) (hm' : (g', BA.cells [v']) ∈ L)
  (h : R (.returned (.tuple #[v, v'])) w) : bodyPost P fn R .ret a w := by
 refine ⟨T.defers, .tuple #[v, v'], ?_, h⟩
 have hl := run_load_one (P := P) (ty := ty) (o := 0) (M.get hm) (cs := [v]) rfl
 have hl' := run_load_one (P := P) (ty := ty') (o := 0) (M.get hm') (cs := [v']) rfl
 have e : a.tmps[t]?.getD undef = .pointer (some ⟨g, 0, none⟩) := by simpa [Act.eval] using hx
 have e' : a.tmps[t']?.getD undef = .pointer (some ⟨g', 0, none⟩) := by simpa [Act.eval] using hx'
 simp [results, hr, e, e', asAddr, hl, hl', Sem.run_bind]
end
theorem Mem.other {w0 w : World} {ex : Nat → Prop} {L : List (Nat × BA)} {g : Nat} {p : BA} {bs : List Nat} (M : Mem w0 ex w L) (i : Nat) (h : nthE L i = some (g, p)) (hb : bs = (L.eraseIdx i).map (·.1)) : g ∉ bs := fun hg => by
 subst hb
 have hnd := M.nd
 have hL : L = L.take i ++ (g, p) :: L.drop (i + 1) := by
   have hi := (List.getElem?_eq_some_iff.1 (nthE_get h))
   obtain ⟨h1, h2⟩ := hi
   rw [← h2, List.getElem_cons_drop, List.take_append_drop]
 rw [List.eraseIdx_eq_take_drop_succ] at hg
 rw [hL, List.map_append, List.map_cons] at hnd
 obtain ⟨-, h3, h4⟩ := List.nodup_append.1 hnd
 rw [List.map_append, List.mem_append] at hg
 rcases hg with hg | hg
 · exact h4 _ hg _ Zz2 rfl
 · exact (List.nodup_cons.1 h3).1 hg
theorem Mem.lts {w0 w : World} {ex : Nat → Prop} {L : List (Nat × BA)} {bs : List Nat} (M : Mem w0 ex w L) (hb : bs = L.map (·.1)) : ∀ b, b ∈ bs → b < w.heap.size := fun b h => by
 subst hb
 obtain ⟨p, hp, rfl⟩ := List.mem_map.1 h
 exact M.lt hp
theorem Mem.ges {n1 : Nat} {w0 w : World} {ex : Nat → Prop} {L : List (Nat × BA)} {bs : List Nat} (M : Mem w0 ex w L) (h0 : n1 ≤ w0.heap.size) (hx : ∀ b, ex b → n1 ≤ b) (hb : bs = L.map (·.1)) : ∀ b, b ∈ bs → n1 ≤ b := fun b h => by
 subst hb
 obtain ⟨p, hp, rfl⟩ := List.mem_map.1 h
 rcases (M.blk p hp).1 with h | h
 · omega
 · exact hx _ h
theorem Rd.memR {n1 size n : Nat} {w w' : World} {B : Option Addr} {xs : List Value} {ex : Nat → Prop} {L : List (Nat × BA)} (h : Rd w n1 size B n xs) (M : Mem w ex w' L) (hx : ∀ b o, B = some ⟨b, o, none⟩ → 0 < n → ¬ ex b) (hle : n1 ≤ w.heap.size) : Rd w' n1 size B n xs :=
 ⟨h.1, fun hn => by
  obtain ⟨b, o, h1, h2, h3⟩ := h.2 hn
  exact ⟨b, o, h1, h2, fun j u hu => (World.cell?_of_block (w := w) (a := ⟨b, o + j, none⟩) (M.block b (by omega) (hx b o h1 hn))).trans (h3 j u hu)⟩⟩
theorem RdF.memX {B n : Nat} {w w' : World} {A : Option Addr} {xs : List Value} {ex : Nat → Prop} {L : List (Nat × BA)} (r : RdF B w A n xs) (M : Mem w ex w' L) (hx : ∀ b, ex b → b < B) : RdF B w' A n xs :=
 ⟨(r.1.memR M (fun b o h1 h2 he => by have := hx b he; have := r.2 b o h1 h2; omega) (Nat.le_refl _)).more M.size, r.2⟩
theorem RdF.tail {B n : Nat} {w0 w : World} {A : Option Addr} {xs : List Value} {ex : Nat → Prop} {L : List (Nat × BA)} (r : RdF B w A n xs) (hB : w0.heap.size ≤ B) (hl : xs.length = n) (M : Mem w0 ex w L) (hL : ∀ p ∈ L, p.1 < B ∨ p.2 = dfA) : ∃ I : List (Nat × BA), (∃ b o, ∀ (w1 : World) (ex : Nat → Prop), Sp w1 ex I A n 1 b o xs) ∧ Mem w0 ex w (L ++ I) := by
 rcases Nat.eq_zero_or_pos n with rfl | hn
 ·have hx : xs = [] := List.eq_nil_of_length_eq_zero hl
  subst hx
  exact ⟨[], ⟨0, 0, fun w1 ex => Sp.nil⟩, by rw [List.append_nil]; exact M⟩
 ·obtain ⟨b, o, h1, h2, h3⟩ := r.1.2 hn
  have hb := r.2 b o h1 hn
  refine ⟨[(b, .any fun ob => ob = w.heap[b])], ⟨b, o, fun w1 ex => ⟨fun _ => h1, r.1.1, fun w' L M' hI _ => BA.lt (M'.blk _ (hI.subset Zz2)).2, fun w' L M' hI j u hu => ?_⟩⟩, (M.add (by omega) (p := .any fun ob => ob = w.heap[b]) ⟨_, Array.getElem?_eq_getElem h2, rfl⟩ (fun q hq e => ?_)).swapI (I := [(b, .any fun ob => ob = w.heap[b])])⟩
  ·obtain ⟨ob, ho, he⟩ := M'.at (hI.subset Zz2)
   subst he
   exact (World.cell?_of_block (w := w) (a := ⟨b, o + j, none⟩) (ho.trans (Array.getElem?_eq_getElem h2).symm)).trans (h3 j u hu)
  ·rcases hL q hq with h | h
   ·omega
   ·have hq2 : (q.1, dfA) ∈ L := by rw [← h]; exact hq
    obtain ⟨ob, ho, he⟩ := M.at hq2
    have hc := h3 0 xs[0] (List.getElem?_eq_getElem (by omega))
    obtain ⟨ob2, ho2, hc2⟩ := cell_isC hc
    rw [e] at ho
    rw [ho] at ho2
    injection ho2 with ho2
    rw [← ho2, he] at hc2
    cases hc2
theorem Rd.blk {w : World} {B size n : Nat} {A : Option Addr} {xs : List Value} (h : Rd w B size A n xs) : ∀ b o, A = some ⟨b, o, none⟩ → 0 < n → b < B := fun b o ha hn => by
 obtain ⟨b', o', h1, h2, -⟩ := h.2 hn
 rw [ha] at h1
 injection h1 with h1
 injection h1 with h1 _ _
 omega
theorem belowKpN {B : Nat} {w0 W W' : World} (h : Below w0.heap.size w0 W) (hK : KpN B W W') (hB : w0.heap.size ≤ B) : Below w0.heap.size w0 W' :=
 ⟨hK.1.trans h.os, hK.2.1.trans h.tape, hK.2.2.1.trans h.output, Nat.le_trans h.size hK.2.2.2.1, fun b hb => by
  have h1 : b < W.heap.size := Nat.lt_of_lt_of_le hb h.size
  exact (hK.2.2.2.2 b _ (Array.getElem?_eq_getElem h1) (.inl (by omega))).trans ((Array.getElem?_eq_getElem h1).symm.trans (h.block b hb))⟩
theorem belowMem {w0 W W' : World} {ex : Nat → Prop} {L : List (Nat × BA)} (h : Below w0.heap.size w0 W) (M : Mem W ex W' L) (hx : ∀ b, ex b → w0.heap.size ≤ b) : Below w0.heap.size w0 W' :=
 ⟨M.os.trans h.os, M.tape.trans h.tape, M.output.trans h.output, Nat.le_trans h.size M.size, fun b hb => (M.block b (Nat.lt_of_lt_of_le hb h.size) (fun he => by have := hx b he; omega)).trans (h.block b hb)⟩
def PrW (p : List Nt) (b : List Int) : Prop := b.length = p.length
def PrL (n : Nat) (b : List Int) : Prop := (∀ x ∈ b, 0 ≤ x ∧ x < (n : Int)) ∧ b.length ≤ n
theorem byT_seq (b1 : Nat) (eb : Nat → Prop) (p : List Nt) (P : Option Addr) (pc : Nat) (w : World) (h6 : p.length ≤ 6) (hx1 : ¬ eb b1) (heb : ∀ b, eb b → b < w.heap.size) (q1 : Bk w b1 #[.slice P p.length pc]) (hP : Rd w w.heap.size 4 P p.length (ntc p)) (hpx : ∀ b o, P = some ⟨b, o, none⟩ → 0 < p.length → ¬ eb b) :
  SeqB (α := LsX) Try.prog 142 #[.pointer (some ⟨b1, 0, none⟩)] (fun x => (lsV x).toArray) eb (LsOx w.heap.size (PrW p)) (fun xs => xs.map LsX.l = bysT p) (fun pre => pre.map LsX.l <+: bysT p) w :=
 fun lr J Jx W hW hl1 hl2 hJ hJx hY hj => itW_in lr b1 W.heap.size (PrW p) eb J Jx p P pc W (fun h => h.elim (fun h => by have := q1.lt; omega) hx1) hl2 (fun b h => Nat.lt_of_lt_of_le (heb b h) hW.size) (Nat.le_refl _) hJ hJx (fun pre x W1 h1 h2 => hY pre x W1 h1 ⟨h2.1.le hW.size, h2.2⟩) (q1.below hW) hj ((hP.below hW).more hW.size) (fun b o h1 h2 h => h.elim (fun h => by have := hP.blk b o h1 h2; omega) (hpx b o h1 h2)) (fun _ h => h) h6
theorem lis_seq (b1 : Nat) (eb : Nat → Prop) (n : Nat) (w : World) (h6 : n ≤ 1000) (hx1 : ¬ eb b1) (heb : ∀ b, eb b → b < w.heap.size) (q1 : Bk w b1 #[.int .i64 (n : Int)]) :
  SeqB (α := LsX) Try.prog 145 #[.pointer (some ⟨b1, 0, none⟩)] (fun x => (lsV x).toArray) eb (LsOx w.heap.size (PrL n)) (fun xs => xs.map LsX.l = lisT n) (fun pre => pre.map LsX.l <+: lisT n) w :=
 fun lr J Jx W hW hl1 hl2 hJ hJx hY hj => itL_in lr b1 W.heap.size (PrL n) eb J Jx n W (fun h => h.elim (fun h => by have := q1.lt; omega) hx1) hl2 (fun b h => Nat.lt_of_lt_of_le (heb b h) hW.size) (Nat.le_refl _) hJ hJx (fun pre x W1 h1 h2 => hY pre x W1 h1 ⟨h2.1.le hW.size, h2.2⟩) (q1.below hW) hj (fun _ h1 h2 => ⟨h1, h2⟩) h6
def ByPost (p : List Nt) (P : Option Addr) (pc : Nat) (w : World) (e : Ending) (w' : World) : Prop := ∃ g, e = .returned (.func (.func 142) #[] #[.pointer (some ⟨g, 0, none⟩)]) ∧ Mem w noEx w' [(g, .cells [.slice P p.length pc])]
def LiPost (n : Nat) (w : World) (e : Ending) (w' : World) : Prop := ∃ g, e = .returned (.func (.func 145) #[] #[.pointer (some ⟨g, 0, none⟩)]) ∧ Mem w noEx w' [(g, .cells [.int .i64 (n : Int)])]
def FirstPost (all : List (List Int)) (Pr : List Int → Prop) (pr : List Int → Bool) (w : World) (e : Ending) (w' : World) : Prop :=
 ∃ (A : Option Addr) (c : Nat) (rl : List Int) (r : Bool) (I : List (Nat × BA)), e = .returned (.tuple #[.slice A rl.length c, .bool r]) ∧ all.find? pr = (if r = true then some rl else none) ∧ (r = false → A = none ∧ rl = []) ∧ (r = true → Pr rl) ∧ rl.length ≤ c ∧ (∃ b o, ∀ (w1 : World) (ex : Nat → Prop), Sp w1 ex I A rl.length 1 b o (ic rl)) ∧ Mem w noEx w' I
theorem find_pre {all pre : List (List Int)} {x : List Int} {pr : List Int → Bool} (h : pre ++ [x] <+: all) (h1 : ∀ z ∈ pre, pr z = false) (h2 : pr x = true) : all.find? pr = some x := by
 obtain ⟨t, rfl⟩ := h
 rw [List.append_assoc, List.find?_append, List.find?_eq_none.2 (fun z hz => by simp [h1 z hz])]
 simp [h2]
theorem find_no {all : List (List Int)} {pr : List Int → Bool} (h1 : ∀ z ∈ all, pr z = false) : all.find? pr = none := List.find?_eq_none.2 fun z hz => by simp [h1 z hz]
theorem byTurns_any (p : List Nt) (P : Option Addr) (pc : Nat)  (w : World)  :
  Calls Try.prog 124 #[.slice P p.length pc] w (ByPost p P pc w) := by
 refine Zpx noEx Try.func124 rfl 4 rfl [.slice P p.length pc] rfl rfl (Mem.init w _) ?_
 intro ac wc T M
 refine Zsr ?_
 refine Zl2 ?_
 refine Zob M T rfl rfl rfl rfl (T.e 0 rfl) rfl ?_; clear M T; intro g1 wc ac M T
 refine lq T (Zra rfl evc) ?_; clear T ac; intro ac T
 replace T := T.pick [1] rfl
 refine Zln ?_
 refine Zsr ?_
 refine Zg2 (v1 := (.func (.func 142) #[] #[.pointer (some ⟨g1, 0, none⟩)])) T (Zq (rn_makeFunc rfl .nil (.cons (T.e 0 rfl) .nil))) rfl (Za 0 rfl rfl) rfl ?_; clear T ac; intro ac T
 replace T := T.pick [0] rfl
 refine Zln ?_
 refine wp_ret ?_
 refine rt_1 T rfl (T.e 0 rfl) ?_
 exact ⟨g1, rfl, M⟩
theorem lists_any (n : Nat)  (w : World)  :
  Calls Try.prog 131 #[.int .i64 (n : Int)] w (LiPost n w) := by
 refine Zpx noEx Try.func131 rfl 4 rfl [.int .i64 (n : Int)] rfl rfl (Mem.init w _) ?_
 intro ac wc T M
 refine Zsr ?_
 refine Zl2 ?_
 refine Zob M T rfl rfl rfl rfl (T.e 0 rfl) rfl ?_; clear M T; intro g1 wc ac M T
 refine lq T (Zra rfl evc) ?_; clear T ac; intro ac T
 replace T := T.pick [1] rfl
 refine Zln ?_
 refine Zsr ?_
 refine Zg2 (v1 := (.func (.func 145) #[] #[.pointer (some ⟨g1, 0, none⟩)])) T (Zq (rn_makeFunc rfl .nil (.cons (T.e 0 rfl) .nil))) rfl (Za 0 rfl rfl) rfl ?_; clear T ac; intro ac T
 replace T := T.pick [0] rfl
 refine Zln ?_
 refine wp_ret ?_
 refine rt_1 T rfl (T.e 0 rfl) ?_
 exact ⟨g1, rfl, M⟩
set_option maxHeartbeats 4000000 in
theorem firstW_any (p : List Nt) (P : Option Addr) (pc : Nat) (b1 : Nat) (F : FuncId) (fn : Func) (cap : List Value) (pr : List Int → Bool)  (w : World) (h6 : p.length ≤ 6) (hP : Rd w w.heap.size 4 P p.length (ntc p)) (q1 : Bk w b1 #[.slice P p.length pc]) (hF1 : Try.prog.funcs[F]? = some fn) (hF2 : (fn.name == "runtime.NumGoroutine") = false) (hF3 : fn.body.isNone = false)
   (hF : ∀ (x : LsX) (W : World), Below w.heap.size w W → Rd W W.heap.size 1 x.A x.l.length (ic x.l) → (PrW p) x.l → Calls Try.prog F ([] ++ [Value.slice x.A x.l.length x.c] ++ cap).toArray W fun e W2 => e = .returned (.bool (pr x.l)) ∧ Below W.heap.size W W2)  :
   Calls Try.prog 123 #[.func (.func 142) #[] #[.pointer (some ⟨b1, 0, none⟩)], .func (.func F) #[] cap.toArray] w (FirstPost (bysT p) (PrW p) pr w) := by
 obtain ⟨bP, oP, SP⟩ := Sp.old hP
 refine px_enterM noEx Try.func123 rfl 15 rfl [.func (.func 142) #[] #[.pointer (some ⟨b1, 0, none⟩)], .func (.func F) #[] cap.toArray] rfl rfl (Mem.init w _) ?_
 intro ac wc T M
 refine Zsr ?_
 refine Zl2 ?_
 refine Zob M T rfl rfl rfl rfl (T.e 1 rfl) rfl ?_; clear M T; intro g1 wc ac M T
 refine Zl2 ?_
 refine Zoa M T rfl rfl rfl rfl ?_; clear M T; intro g2 wc ac M T
 refine Zl2 ?_
 refine Zoa M T rfl rfl rfl rfl ?_; clear M T; intro g3 wc ac M T
 replace T := T.pick [0, 1, 2, 3] rfl
 refine Zln ?_
 refine wp_scope_straight ?_
 refine wp_seq ?_
 refine wp_label ?_
 refine Zns ?_
 refine Zsr ?_
 refine lq T (Zrm rfl (T.e 3 rfl)) ?_; clear T ac; intro ac T
 replace T := T.pick [0, 1, 2, 3] rfl
 refine Zln ?_
 refine wp_block ?_
 obtain ⟨n9, hn9⟩ : ∃ q : Nat, q = wc.heap.size := ⟨_, rfl⟩
 have hn9w : w.heap.size ≤ n9 := by rw [hn9]; exact M.size
 obtain ⟨we, hwe⟩ : ∃ q : World, q = w := ⟨_, rfl⟩
 have hbe := M.below
 have q10 := M.old q1 (fun h => h)
 have hP0 := SP.rd M (Zz9 _)
 have qw0 := M.nth 2 rfl
 have hnw : g1 ∉ ([g3, g2] : List Nat) := M.other 2 rfl (bs := [g3, g2]) rfl ∘ (fun h => by simp only [List.mem_cons, List.not_mem_nil, or_false] at h ⊢; omega)
 have hown : ∀ b, b ∈ ([g3, g2] : List Nat) → w.heap.size ≤ b := fun b hb => M.ges (Nat.le_refl _) (fun _ h => h.elim) (bs := [g3, g2, g1]) rfl b (by simp only [List.mem_cons, List.not_mem_nil, or_false] at hb ⊢; omega)
 have hownl : ∀ b, b ∈ ([g3, g2] : List Nat) → b < n9 := fun b hb => by rw [hn9]; exact M.lts (bs := [g3, g2, g1]) rfl b (by simp only [List.mem_cons, List.not_mem_nil, or_false] at hb ⊢; omega)
 have hng1 : b1 ∉ ([g3, g2] : List Nat) := fun h => by have := hown _ h; have := q1.lt; omega
 have hle9 : we.heap.size ≤ wc.heap.size := by rw [hwe]; exact M.size
 rw [← hwe] at hbe hF hown
 replace T := T.pick [3, 2, 1, 0] rfl
 replace M := M.mask [true, true, false] rfl
 have hlt_g3 := M.lt (Zne (i := 0) rfl)
 have hlt_g2 := M.lt (Zne (i := 1) rfl)
 refine px_rangeB (α := LsX) (γ := Unit) (n := 15) T (T.e 3 rfl) (enters_of Try.func142 (by kernel_rfl) rfl) (fun b => b ∈ ([g3, g2] : List Nat)) (byT_seq b1 (fun b => b ∈ ([g3, g2] : List Nat)) p P pc _ h6 hng1 (fun b h => by rw [← hn9]; exact hownl b h) q10 hP0 (fun b o h1 h2 h3 => by have := hP.blk b o h1 h2; have := hown b h3; rw [hwe] at this; omega)) (fun _ => rfl) (fun (pre : List (LsX)) (Lx : List (Nat × BA)) (W : World) => (∀ z ∈ pre.map LsX.l, pr z = false) ∧ (Below we.heap.size we W) ∧ (Bk W g1 #[.func (.func F) #[] cap.toArray]) ∧ Lx = [(g3, .cells [.bool false]), (g2, .cells [.slice none 0 0])]) (fun c9 pre Lx W => c9 = .ret ∧ ∃ (x : LsX) (l0 : List (List Int)), pre.map LsX.l = l0 ++ [x.l] ∧ (∀ z ∈ l0, pr z = false) ∧ pr x.l = true ∧ RdF n9 W x.A x.l.length (ic x.l) ∧ x.l.length ≤ x.c ∧ (PrW p) x.l ∧ Lx = [(g3, .cells [.bool true]), (g2, .cells [.slice x.A x.l.length x.c])])
   (fun x => [(8, .slice x.A x.l.length x.c), (3, .pointer (some ⟨g1, 0, none⟩)), (4, .pointer (some ⟨g2, 0, none⟩)), (5, .pointer (some ⟨g3, 0, none⟩)), (7, .func (.func 142) #[] #[.pointer (some ⟨b1, 0, none⟩)])]) (fun x _ => [(6, .slice x.A x.l.length x.c), (3, .pointer (some ⟨g1, 0, none⟩)), (4, .pointer (some ⟨g2, 0, none⟩)), (5, .pointer (some ⟨g3, 0, none⟩))]) (fun x _ => []) ?_ ?_ ?_ ?_ ?_ ?_ ?_ ?_ M ?_ ?_ ?_ ?_ ?_ ?_ ?_
 ·rintro pre Lx W ⟨hno, hbe, qw, rfl⟩ p hp
  rcases List.mem_cons.1 hp with rfl | hp
  · exact hlt_g3
  rcases List.mem_cons.1 hp with rfl | hp
  · exact hlt_g2
  cases hp
 ·rintro c9 pre Lx W ⟨rfl, x9, l9, -, -, -, -, -, -, rfl⟩ p hp
  rw [← hn9]
  exact hownl _ (List.mem_map_of_mem (f := fun q : Nat × BA => q.1) hp)
 ·rintro pre Lx W ⟨hno, hbe, qw, rfl⟩ p hp
  exact List.mem_map.2 ⟨p, hp, rfl⟩
 ·intro b hb
  simp only [List.mem_cons, List.not_mem_nil, or_false] at hb
  rcases hb with rfl | rfl
  · exact hlt_g3
  · exact hlt_g2
 ·intro b hb
  simp only [List.mem_cons, List.not_mem_nil, or_false] at hb
  rcases hb with rfl | rfl
  · exact (M.blk _ (Zne (i := 0) rfl)).1.symm
  · exact (M.blk _ (Zne (i := 1) rfl)).1.symm
 ·exact LsOx.calm _ _ _
 ·rintro pre Lx W W' ⟨hno, hbe, qw, rfl⟩ hK
  exact ⟨hno, (belowKpN hbe hK hle9), (hK.bk qw), rfl⟩
 ·rintro c9 pre Lx W W' ⟨h1, x9, l9, h2, h3, h4, hR, h5, h6, h7⟩ hK
  exact ⟨h1, x9, l9, h2, h3, h4, hR.kpN hK, h5, h6, h7⟩
 ·exact ⟨(by simp), hbe, qw0, rfl⟩
 ·exact fun x => T.round1 _ rfl rfl
 ·intro x c p hp
  cases hp
 ·intro lp9 x wc K1 ac T hK1
  have M := Mem.init wc noEx
  refine ri_lit (fun _ _ h => h) rfl ?_
  refine lq T (Zra rfl (T.e 0 rfl)) ?_; clear T ac; intro ac T
  replace T := T.pick [0, 2, 3, 4] rfl
  refine Zln ?_
  exact hK1 () _ _ (T.pick [0, 1, 2, 3] rfl) (M.mask [] rfl)
 ·rintro lp9 pre x ⟨⟩ Lx ac w hj hox hz hlp M0 hnl9 exb wc hexb hwc T M
  obtain ⟨hno, hbe, qw, rfl⟩ := hj
  replace T : TmD [] ac 15 [(6, .slice x.A x.l.length x.c), (3, .pointer (some ⟨g1, 0, none⟩)), (4, .pointer (some ⟨g2, 0, none⟩)), (5, .pointer (some ⟨g3, 0, none⟩))] := T
  replace M : Mem w exb wc [(g3, .cells [.bool false]), (g2, .cells [.slice none 0 0])] := M
  have hxb : ∀ b, exb b → we.heap.size ≤ b := by rw [hexb]; exact hown
  have hxl : ∀ b, exb b → b < n9 := by rw [hexb]; exact hownl
  have hnw9 : ¬ exb g1 := by rw [hexb]; exact hnw
  have hRx := hox.1
  rw [← hn9] at hRx
  have hxr := hox.1.1
  rw [← hwc] at hxr
  have hbw := belowMem hbe M hxb
  refine wpIn_block ?_
  refine wpIn_seq ?_
  refine wpIn_seq ?_
  refine ri_lit (fun _ _ h => h) rfl ?_
  refine Zg2 T (Zq (Zro (Mem.old M qw hnw9) rfl (T.e 1 rfl) rfl)) rfl (Zm 1 rfl rfl) rfl ?_; clear T ac; intro ac T
  refine Zl2 ?_
  refine Zoc (first := []) (cap := cap) T rfl rfl rfl rfl (T.e 1 rfl) (.cons (T.e 0 rfl) .nil) hF1 hF2 hF3 ?_
  refine Calls.mono (hF x _ hbw hxr hox.2.2) ?_
  clear T; rintro e wc ⟨rfl, hb⟩ ac T
  replace M := M.call hb; clear hb
  refine lq T (rn_not rfl (T.e 0 rfl)) ?_; clear T ac; intro ac T
  replace T := T.pick [0, 4, 5, 6, 7] rfl
  refine Zln ?_
  refine wpIn_cond_split (T.e 0 rfl) ?_ ?_
  ·intro h1
   (have h1' := h1; try simp only [Zb1, Zb2, Zb3, Zb4, Zb5, Zb6, Zb7] at h1')
   refine wpIn_exit ?_
   refine Zet ?_
   refine ex_hit ?_
   refine rb_nm (L := [(g3, .cells [.bool false]), (g2, .cells [.slice none 0 0])]) ?_ (M.mask [true, true] rfl)
   exact ⟨(by rw [List.map_append]; intro z hz9; rcases List.mem_append.1 hz9 with hz9 | hz9; exact hno z hz9; rw [List.mem_singleton.1 hz9]; simp_all), (belowMem hbe M hxb), (M.old qw hnw9), rfl⟩
  intro h1
  (have h1' := h1; try simp only [Zb1, Zb2, Zb3, Zb4, Zb5, Zb6, Zb7] at h1')
  refine wpIn_skip ?_
  refine nm_then ?_
  refine wpIn_seq ?_
  refine ri_lit (fun _ _ h => h) rfl ?_
  refine lq T (Zrm rfl (T.e 1 rfl)) ?_; clear T ac; intro ac T
  refine Zl2 ?_
  refine Zos M T rfl rfl (T.e 4 rfl) (T.e 0 rfl) rfl (.tail .head) rfl (by simp) rfl (by kernel_rfl) ?_; clear M T; intro wc ac M T
  refine Zl2 ?_
  refine Zos M T rfl rfl (T.e 5 rfl) evc rfl .head rfl (by simp) rfl (by kernel_rfl) ?_; clear M T; intro wc ac M T
  replace T := T.pick [4, 5] rfl
  refine Zln ?_
  refine wpIn_ret ?_
  refine Zrb ?_
  refine rb_ret (L := [(g3, .cells [.bool true]), (g2, .cells [.slice x.A x.l.length x.c])]) ⟨rfl, x, pre.map LsX.l, by rw [List.map_append]; rfl, hno, by simp_all, hRx.memX M hxl, hox.2.1, hox.2.2, rfl⟩ (M.perm [0, 1] rfl rfl)
 ·rintro D1 pre Lx ac wc hDn hSd hj hz T M
  obtain ⟨hno, hbe, qw, rfl⟩ := hj
  replace T : TmD ((([D1] : List Nat)).map dfD) ac 15 [(3, .pointer (some ⟨g1, 0, none⟩)), (4, .pointer (some ⟨g2, 0, none⟩)), (5, .pointer (some ⟨g3, 0, none⟩)), (7, .func (.func 142) #[] #[.pointer (some ⟨b1, 0, none⟩)])] := T
  have hf8 : (bysT p).find? pr = none := find_no (by rw [← hSd]; exact hno)
  replace T := T.pick [1, 2] rfl
  refine Znb ?_
  refine nm_then ?_
  refine Zsr ?_
  refine lq T (Zro (Mem.nth M 2 rfl) rfl (T.e 0 rfl) rfl) ?_; clear T ac; intro ac T
  refine Zl2 ?_
  refine Zos M T rfl rfl (T.e 1 rfl) (T.e 0 rfl) rfl (.tail (.tail .head)) rfl (by simp) rfl (by kernel_rfl) ?_; clear M T; intro wc ac M T
  refine Zl2 ?_
  refine Zos M T rfl rfl (T.e 2 rfl) evc rfl (.tail .head) rfl (by simp) rfl (by kernel_rfl) ?_; clear M T; intro wc ac M T
  replace T := T.pick [1, 2] rfl
  refine Zln ?_
  refine wp_ret ?_
  refine rt_ng ?_
  refine rtM (L := [(g3, .cells [.bool false]), (g2, .cells [.slice none 0 0])]) (([D1] : List Nat)) T (M.perm [1, 2, 0] rfl rfl) ?_; clear T M; intro wc ac T M
  refine rt_cc M T rfl (T.e 0 rfl) (T.e 1 rfl) (Zne (i := 1) rfl) (Zne (i := 0) rfl) ?_
  exact ⟨none, 0, [], false, [], rfl, hf8, (fun _ => ⟨rfl, rfl⟩), (fun h => by cases h), Nat.le_refl _, ⟨0, 0, fun w1 ex => Sp.nil⟩, M.mask [false, false] rfl⟩
 ·rintro D1 c9 pre Lx ac wc hDn hSp ⟨rfl, x8, l8, hl8, hn8, hp8, hR8, hc8, hq8, rfl⟩ hz T M
  replace T : TmD ((([D1] : List Nat)).map dfD) ac 15 [(3, .pointer (some ⟨g1, 0, none⟩)), (4, .pointer (some ⟨g2, 0, none⟩)), (5, .pointer (some ⟨g3, 0, none⟩)), (7, .func (.func 142) #[] #[.pointer (some ⟨b1, 0, none⟩)])] := T
  have hf8 : (bysT p).find? pr = some x8.l := find_pre (hl8 ▸ hSp) hn8 hp8
  obtain ⟨IR, SR, M⟩ := hR8.tail hn9w (ic_length _) M (fun p hp => by rcases List.mem_cons.1 hp with rfl | hp; exact .inr rfl; exact .inl (hownl _ (List.mem_map_of_mem (f := fun q : Nat × BA => q.1) hp)))
  replace M : Mem w noEx wc ((D1, dfA) :: (g3, .cells [.bool true]) :: (g2, .cells [.slice x8.A x8.l.length x8.c]) :: IR) := M
  refine wp_ret ?_
  refine Zrb ?_
  refine Zrt ?_
  refine rt_ng ?_
  refine rtM (L := ((g3, .cells [.bool true]) :: (g2, .cells [.slice x8.A x8.l.length x8.c]) :: IR)) (([D1] : List Nat)) T (Mem.swapI (I := dfT (([D1] : List Nat))) (L := ((g3, .cells [.bool true]) :: (g2, .cells [.slice x8.A x8.l.length x8.c]) :: IR)) (M.permT [0, 1, 2] 3 rfl rfl rfl rfl)) ?_; clear T M; intro wc ac T M
  refine rt_cc M T rfl (T.e 1 rfl) (T.e 2 rfl) (Zne (i := 1) rfl) (Zne (i := 0) rfl) ?_
  exact ⟨x8.A, x8.c, x8.l, true, IR, rfl, hf8, (fun h => by cases h), (fun _ => hq8), hc8, SR, M.sub ((.cons _ (.cons _ (List.Sublist.refl _))))⟩
set_option maxHeartbeats 4000000 in
theorem firstL_any (n : Nat) (b1 : Nat) (F : FuncId) (fn : Func) (cap : List Value) (pr : List Int → Bool)  (w : World) (h6 : n ≤ 1000) (q1 : Bk w b1 #[.int .i64 (n : Int)]) (hF1 : Try.prog.funcs[F]? = some fn) (hF2 : (fn.name == "runtime.NumGoroutine") = false) (hF3 : fn.body.isNone = false)
   (hF : ∀ (x : LsX) (W : World), Below w.heap.size w W → Rd W W.heap.size 1 x.A x.l.length (ic x.l) → (PrL n) x.l → Calls Try.prog F ([] ++ [Value.slice x.A x.l.length x.c] ++ cap).toArray W fun e W2 => e = .returned (.bool (pr x.l)) ∧ Below W.heap.size W W2)  :
   Calls Try.prog 123 #[.func (.func 145) #[] #[.pointer (some ⟨b1, 0, none⟩)], .func (.func F) #[] cap.toArray] w (FirstPost (lisT n) (PrL n) pr w) := by
 refine px_enterM noEx Try.func123 rfl 15 rfl [.func (.func 145) #[] #[.pointer (some ⟨b1, 0, none⟩)], .func (.func F) #[] cap.toArray] rfl rfl (Mem.init w _) ?_
 intro ac wc T M
 refine Zsr ?_
 refine Zl2 ?_
 refine Zob M T rfl rfl rfl rfl (T.e 1 rfl) rfl ?_; clear M T; intro g1 wc ac M T
 refine Zl2 ?_
 refine Zoa M T rfl rfl rfl rfl ?_; clear M T; intro g2 wc ac M T
 refine Zl2 ?_
 refine Zoa M T rfl rfl rfl rfl ?_; clear M T; intro g3 wc ac M T
 replace T := T.pick [0, 1, 2, 3] rfl
 refine Zln ?_
 refine wp_scope_straight ?_
 refine wp_seq ?_
 refine wp_label ?_
 refine Zns ?_
 refine Zsr ?_
 refine lq T (Zrm rfl (T.e 3 rfl)) ?_; clear T ac; intro ac T
 replace T := T.pick [0, 1, 2, 3] rfl
 refine Zln ?_
 refine wp_block ?_
 obtain ⟨n9, hn9⟩ : ∃ q : Nat, q = wc.heap.size := ⟨_, rfl⟩
 have hn9w : w.heap.size ≤ n9 := by rw [hn9]; exact M.size
 obtain ⟨we, hwe⟩ : ∃ q : World, q = w := ⟨_, rfl⟩
 have hbe := M.below
 have q10 := M.old q1 (fun h => h)
 have qw0 := M.nth 2 rfl
 have hnw : g1 ∉ ([g3, g2] : List Nat) := M.other 2 rfl (bs := [g3, g2]) rfl ∘ (fun h => by simp only [List.mem_cons, List.not_mem_nil, or_false] at h ⊢; omega)
 have hown : ∀ b, b ∈ ([g3, g2] : List Nat) → w.heap.size ≤ b := fun b hb => M.ges (Nat.le_refl _) (fun _ h => h.elim) (bs := [g3, g2, g1]) rfl b (by simp only [List.mem_cons, List.not_mem_nil, or_false] at hb ⊢; omega)
 have hownl : ∀ b, b ∈ ([g3, g2] : List Nat) → b < n9 := fun b hb => by rw [hn9]; exact M.lts (bs := [g3, g2, g1]) rfl b (by simp only [List.mem_cons, List.not_mem_nil, or_false] at hb ⊢; omega)
 have hng1 : b1 ∉ ([g3, g2] : List Nat) := fun h => by have := hown _ h; have := q1.lt; omega
 have hle9 : we.heap.size ≤ wc.heap.size := by rw [hwe]; exact M.size
 rw [← hwe] at hbe hF hown
 replace T := T.pick [3, 2, 1, 0] rfl
 replace M := M.mask [true, true, false] rfl
 have hlt_g3 := M.lt (Zne (i := 0) rfl)
 have hlt_g2 := M.lt (Zne (i := 1) rfl)
 refine px_rangeB (α := LsX) (γ := Unit) (n := 15) T (T.e 3 rfl) (enters_of Try.func145 (by kernel_rfl) rfl) (fun b => b ∈ ([g3, g2] : List Nat)) (lis_seq b1 (fun b => b ∈ ([g3, g2] : List Nat)) n _ h6 hng1 (fun b h => by rw [← hn9]; exact hownl b h) q10) (fun _ => rfl) (fun (pre : List (LsX)) (Lx : List (Nat × BA)) (W : World) => (∀ z ∈ pre.map LsX.l, pr z = false) ∧ (Below we.heap.size we W) ∧ (Bk W g1 #[.func (.func F) #[] cap.toArray]) ∧ Lx = [(g3, .cells [.bool false]), (g2, .cells [.slice none 0 0])]) (fun c9 pre Lx W => c9 = .ret ∧ ∃ (x : LsX) (l0 : List (List Int)), pre.map LsX.l = l0 ++ [x.l] ∧ (∀ z ∈ l0, pr z = false) ∧ pr x.l = true ∧ RdF n9 W x.A x.l.length (ic x.l) ∧ x.l.length ≤ x.c ∧ (PrL n) x.l ∧ Lx = [(g3, .cells [.bool true]), (g2, .cells [.slice x.A x.l.length x.c])])
   (fun x => [(8, .slice x.A x.l.length x.c), (3, .pointer (some ⟨g1, 0, none⟩)), (4, .pointer (some ⟨g2, 0, none⟩)), (5, .pointer (some ⟨g3, 0, none⟩)), (7, .func (.func 145) #[] #[.pointer (some ⟨b1, 0, none⟩)])]) (fun x _ => [(6, .slice x.A x.l.length x.c), (3, .pointer (some ⟨g1, 0, none⟩)), (4, .pointer (some ⟨g2, 0, none⟩)), (5, .pointer (some ⟨g3, 0, none⟩))]) (fun x _ => []) ?_ ?_ ?_ ?_ ?_ ?_ ?_ ?_ M ?_ ?_ ?_ ?_ ?_ ?_ ?_
 ·rintro pre Lx W ⟨hno, hbe, qw, rfl⟩ p hp
  rcases List.mem_cons.1 hp with rfl | hp
  · exact hlt_g3
  rcases List.mem_cons.1 hp with rfl | hp
  · exact hlt_g2
  cases hp
 ·rintro c9 pre Lx W ⟨rfl, x9, l9, -, -, -, -, -, -, rfl⟩ p hp
  rw [← hn9]
  exact hownl _ (List.mem_map_of_mem (f := fun q : Nat × BA => q.1) hp)
 ·rintro pre Lx W ⟨hno, hbe, qw, rfl⟩ p hp
  exact List.mem_map.2 ⟨p, hp, rfl⟩
 ·intro b hb
  simp only [List.mem_cons, List.not_mem_nil, or_false] at hb
  rcases hb with rfl | rfl
  · exact hlt_g3
  · exact hlt_g2
 ·intro b hb
  simp only [List.mem_cons, List.not_mem_nil, or_false] at hb
  rcases hb with rfl | rfl
  · exact (M.blk _ (Zne (i := 0) rfl)).1.symm
  · exact (M.blk _ (Zne (i := 1) rfl)).1.symm
 ·exact LsOx.calm _ _ _
 ·rintro pre Lx W W' ⟨hno, hbe, qw, rfl⟩ hK
  exact ⟨hno, (belowKpN hbe hK hle9), (hK.bk qw), rfl⟩
 ·rintro c9 pre Lx W W' ⟨h1, x9, l9, h2, h3, h4, hR, h5, h6, h7⟩ hK
  exact ⟨h1, x9, l9, h2, h3, h4, hR.kpN hK, h5, h6, h7⟩
 ·exact ⟨(by simp), hbe, qw0, rfl⟩
 ·exact fun x => T.round1 _ rfl rfl
 ·intro x c p hp
  cases hp
 ·intro lp9 x wc K1 ac T hK1
  have M := Mem.init wc noEx
  refine ri_lit (fun _ _ h => h) rfl ?_
  refine lq T (Zra rfl (T.e 0 rfl)) ?_; clear T ac; intro ac T
  replace T := T.pick [0, 2, 3, 4] rfl
  refine Zln ?_
  exact hK1 () _ _ (T.pick [0, 1, 2, 3] rfl) (M.mask [] rfl)
 ·rintro lp9 pre x ⟨⟩ Lx ac w hj hox hz hlp M0 hnl9 exb wc hexb hwc T M
  obtain ⟨hno, hbe, qw, rfl⟩ := hj
  replace T : TmD [] ac 15 [(6, .slice x.A x.l.length x.c), (3, .pointer (some ⟨g1, 0, none⟩)), (4, .pointer (some ⟨g2, 0, none⟩)), (5, .pointer (some ⟨g3, 0, none⟩))] := T
  replace M : Mem w exb wc [(g3, .cells [.bool false]), (g2, .cells [.slice none 0 0])] := M
  have hxb : ∀ b, exb b → we.heap.size ≤ b := by rw [hexb]; exact hown
  have hxl : ∀ b, exb b → b < n9 := by rw [hexb]; exact hownl
  have hnw9 : ¬ exb g1 := by rw [hexb]; exact hnw
  have hRx := hox.1
  rw [← hn9] at hRx
  have hxr := hox.1.1
  rw [← hwc] at hxr
  have hbw := belowMem hbe M hxb
  refine wpIn_block ?_
  refine wpIn_seq ?_
  refine wpIn_seq ?_
  refine ri_lit (fun _ _ h => h) rfl ?_
  refine Zg2 T (Zq (Zro (Mem.old M qw hnw9) rfl (T.e 1 rfl) rfl)) rfl (Zm 1 rfl rfl) rfl ?_; clear T ac; intro ac T
  refine Zl2 ?_
  refine Zoc (first := []) (cap := cap) T rfl rfl rfl rfl (T.e 1 rfl) (.cons (T.e 0 rfl) .nil) hF1 hF2 hF3 ?_
  refine Calls.mono (hF x _ hbw hxr hox.2.2) ?_
  clear T; rintro e wc ⟨rfl, hb⟩ ac T
  replace M := M.call hb; clear hb
  refine lq T (rn_not rfl (T.e 0 rfl)) ?_; clear T ac; intro ac T
  replace T := T.pick [0, 4, 5, 6, 7] rfl
  refine Zln ?_
  refine wpIn_cond_split (T.e 0 rfl) ?_ ?_
  ·intro h1
   (have h1' := h1; try simp only [Zb1, Zb2, Zb3, Zb4, Zb5, Zb6, Zb7] at h1')
   refine wpIn_exit ?_
   refine Zet ?_
   refine ex_hit ?_
   refine rb_nm (L := [(g3, .cells [.bool false]), (g2, .cells [.slice none 0 0])]) ?_ (M.mask [true, true] rfl)
   exact ⟨(by rw [List.map_append]; intro z hz9; rcases List.mem_append.1 hz9 with hz9 | hz9; exact hno z hz9; rw [List.mem_singleton.1 hz9]; simp_all), (belowMem hbe M hxb), (M.old qw hnw9), rfl⟩
  intro h1
  (have h1' := h1; try simp only [Zb1, Zb2, Zb3, Zb4, Zb5, Zb6, Zb7] at h1')
  refine wpIn_skip ?_
  refine nm_then ?_
  refine wpIn_seq ?_
  refine ri_lit (fun _ _ h => h) rfl ?_
  refine lq T (Zrm rfl (T.e 1 rfl)) ?_; clear T ac; intro ac T
  refine Zl2 ?_
  refine Zos M T rfl rfl (T.e 4 rfl) (T.e 0 rfl) rfl (.tail .head) rfl (by simp) rfl (by kernel_rfl) ?_; clear M T; intro wc ac M T
  refine Zl2 ?_
  refine Zos M T rfl rfl (T.e 5 rfl) evc rfl .head rfl (by simp) rfl (by kernel_rfl) ?_; clear M T; intro wc ac M T
  replace T := T.pick [4, 5] rfl
  refine Zln ?_
  refine wpIn_ret ?_
  refine Zrb ?_
  refine rb_ret (L := [(g3, .cells [.bool true]), (g2, .cells [.slice x.A x.l.length x.c])]) ⟨rfl, x, pre.map LsX.l, by rw [List.map_append]; rfl, hno, by simp_all, hRx.memX M hxl, hox.2.1, hox.2.2, rfl⟩ (M.perm [0, 1] rfl rfl)
 ·rintro D1 pre Lx ac wc hDn hSd hj hz T M
  obtain ⟨hno, hbe, qw, rfl⟩ := hj
  replace T : TmD ((([D1] : List Nat)).map dfD) ac 15 [(3, .pointer (some ⟨g1, 0, none⟩)), (4, .pointer (some ⟨g2, 0, none⟩)), (5, .pointer (some ⟨g3, 0, none⟩)), (7, .func (.func 145) #[] #[.pointer (some ⟨b1, 0, none⟩)])] := T
  have hf8 : (lisT n).find? pr = none := find_no (by rw [← hSd]; exact hno)
  replace T := T.pick [1, 2] rfl
  refine Znb ?_
  refine nm_then ?_
  refine Zsr ?_
  refine lq T (Zro (Mem.nth M 2 rfl) rfl (T.e 0 rfl) rfl) ?_; clear T ac; intro ac T
  refine Zl2 ?_
  refine Zos M T rfl rfl (T.e 1 rfl) (T.e 0 rfl) rfl (.tail (.tail .head)) rfl (by simp) rfl (by kernel_rfl) ?_; clear M T; intro wc ac M T
  refine Zl2 ?_
  refine Zos M T rfl rfl (T.e 2 rfl) evc rfl (.tail .head) rfl (by simp) rfl (by kernel_rfl) ?_; clear M T; intro wc ac M T
  replace T := T.pick [1, 2] rfl
  refine Zln ?_
  refine wp_ret ?_
  refine rt_ng ?_
  refine rtM (L := [(g3, .cells [.bool false]), (g2, .cells [.slice none 0 0])]) (([D1] : List Nat)) T (M.perm [1, 2, 0] rfl rfl) ?_; clear T M; intro wc ac T M
  refine rt_cc M T rfl (T.e 0 rfl) (T.e 1 rfl) (Zne (i := 1) rfl) (Zne (i := 0) rfl) ?_
  exact ⟨none, 0, [], false, [], rfl, hf8, (fun _ => ⟨rfl, rfl⟩), (fun h => by cases h), Nat.le_refl _, ⟨0, 0, fun w1 ex => Sp.nil⟩, M.mask [false, false] rfl⟩
 ·rintro D1 c9 pre Lx ac wc hDn hSp ⟨rfl, x8, l8, hl8, hn8, hp8, hR8, hc8, hq8, rfl⟩ hz T M
  replace T : TmD ((([D1] : List Nat)).map dfD) ac 15 [(3, .pointer (some ⟨g1, 0, none⟩)), (4, .pointer (some ⟨g2, 0, none⟩)), (5, .pointer (some ⟨g3, 0, none⟩)), (7, .func (.func 145) #[] #[.pointer (some ⟨b1, 0, none⟩)])] := T
  have hf8 : (lisT n).find? pr = some x8.l := find_pre (hl8 ▸ hSp) hn8 hp8
  obtain ⟨IR, SR, M⟩ := hR8.tail hn9w (ic_length _) M (fun p hp => by rcases List.mem_cons.1 hp with rfl | hp; exact .inr rfl; exact .inl (hownl _ (List.mem_map_of_mem (f := fun q : Nat × BA => q.1) hp)))
  replace M : Mem w noEx wc ((D1, dfA) :: (g3, .cells [.bool true]) :: (g2, .cells [.slice x8.A x8.l.length x8.c]) :: IR) := M
  refine wp_ret ?_
  refine Zrb ?_
  refine Zrt ?_
  refine rt_ng ?_
  refine rtM (L := ((g3, .cells [.bool true]) :: (g2, .cells [.slice x8.A x8.l.length x8.c]) :: IR)) (([D1] : List Nat)) T (Mem.swapI (I := dfT (([D1] : List Nat))) (L := ((g3, .cells [.bool true]) :: (g2, .cells [.slice x8.A x8.l.length x8.c]) :: IR)) (M.permT [0, 1, 2] 3 rfl rfl rfl rfl)) ?_; clear T M; intro wc ac T M
  refine rt_cc M T rfl (T.e 1 rfl) (T.e 2 rfl) (Zne (i := 1) rfl) (Zne (i := 0) rfl) ?_
  exact ⟨x8.A, x8.c, x8.l, true, IR, rfl, hf8, (fun h => by cases h), (fun _ => hq8), hc8, SR, M.sub ((.cons _ (.cons _ (List.Sublist.refl _))))⟩
def fineB (b : Bw) (p : List Nt) (ss : List Int) : Bool := ((bysT p).find? (alwB b p ss)).isSome
def fewL (n : Nat) (pr : List Int → Bool) : List Int := ((lisT n).find? pr).getD []
def fewE (n : Nat) (pr : List Int → Bool) : Int := if ((lisT n).find? pr).isSome then 0 else 11
def LsEPost (l : List Int) (er : Int) (w : World) (e : Ending) (w' : World) : Prop := ∃ A c I, e = .returned (.tuple #[.slice A l.length c, .int .i64 er]) ∧ l.length ≤ c ∧ (∃ b o, ∀ (w1 : World) (ex : Nat → Prop), Sp w1 ex I A l.length 1 b o (ic l)) ∧ Mem w noEx w' I
theorem sums_bd {l : List L4} {n : Nat} {g : List Int} (hl : ∀ x ∈ l, x.ok) (h4 : n ≤ 4) : ∀ s ∈ sumsB (cornL n g) l, 0 ≤ s ∧ s ≤ 20 := fun s hs => by
 obtain ⟨x, hx, rfl⟩ := sumsB_mem.1 hs
 have h1 := totL_bound (op := cornL n g) (hl x hx).all
 have h2 := cornL_len n g
 omega
theorem fine1_any (b : Bw) (A : Option Addr) (c : Nat) (D : Option Addr) (d : Nat) (p : List Nt) (P : Option Addr) (pc : Nat) (ss : List Int) (B : Option Addr) (lc : Nat) (G : Option Addr) (n : Nat) (g : List Int) (gw : Nat)  (w : World) (hP9 : Rd w w.heap.size 4 P p.length (ntc p)) (hG : Rd w w.heap.size 1 G g.length (ic g)) (hL : Rd w w.heap.size 7 B ss.length (pdc (ss.map (mkP b A c D d P pc p)))) (nL : ss.length ≤ 1000000) (hgp : NtGood p) (hgb : BwAir b) (hss : ∀ s ∈ ss, 0 ≤ s ∧ s ≤ 20) (hgl : g.length = p.length) (q1 : Bk w gw #[.slice B ss.length lc])  :
  Calls Try.prog 125 #[.slice G g.length n, .pointer (some ⟨gw, 0, none⟩)] w fun e w' => e = .returned (.bool (alwB b p ss g)) ∧ Below w.heap.size w w' := by
 obtain ⟨bP, oP, SP⟩ := Sp.old hP9
 obtain ⟨bG, oG, SG⟩ := Sp.old hG
 obtain ⟨bL, oL, SL⟩ := Sp.old hL
 refine Zpx noEx Try.func125 rfl 7 rfl [.slice G g.length n, .pointer (some ⟨gw, 0, none⟩)] rfl rfl (Mem.init w _) ?_
 intro ac wc T M
 refine Zsr ?_
 refine lq T (Zra rfl evc) ?_; clear T ac; intro ac T
 replace T := T.pick [1, 2] rfl
 refine Zln ?_
 refine Zsr ?_
 refine Zg2 T (Zq (Zro (Mem.old M q1 (fun h => h)) rfl (T.e 1 rfl) rfl)) rfl (Zm 1 rfl rfl) rfl ?_; clear T ac; intro ac T
 refine Zl2 ?_
 refine Zoc (first := []) (cap := []) T rfl rfl rfl rfl evf (.cons (T.e 1 rfl) (.cons (T.e 0 rfl) .nil)) Try.func87 rfl rfl ?_
 refine Calls.mono (always_any b A c D d p P pc ss B lc G n g _ (SP.rd M (Zz9 _)) (SG.rd M (Zz9 _)) (SL.rd M (Zz9 _)) (by omega) hgp hgb hss hgl) ?_
 clear T; rintro e wc ⟨rfl, hb⟩ ac T
 replace M := M.call hb; clear hb
 refine lq T (Zra rfl (T.e 0 rfl)) ?_; clear T ac; intro ac T
 replace T := T.pick [0] rfl
 refine Zln ?_
 refine wp_ret ?_
 refine rt_1 T rfl (T.e 0 rfl) ?_
 exact ⟨rfl, M.below⟩
theorem fine_any (b : Bw) (A : Option Addr) (c : Nat) (D : Option Addr) (d : Nat) (p : List Nt) (P : Option Addr) (pc : Nat) (ss : List Int) (B : Option Addr) (lc : Nat)  (w : World) (hP9 : Rd w w.heap.size 4 P p.length (ntc p)) (hL : Rd w w.heap.size 7 B ss.length (pdc (ss.map (mkP b A c D d P pc p)))) (nL : ss.length ≤ 1000000) (hgp : NtGood p) (hgb : BwAir b) (hss : ∀ s ∈ ss, 0 ≤ s ∧ s ≤ 20)  :
  Calls Try.prog 84 #[.slice B ss.length lc, .slice P p.length pc] w fun e w' => e = .returned (.bool (fineB b p ss)) ∧ Below w.heap.size w w' := by
 obtain ⟨bP, oP, SP⟩ := Sp.old hP9
 obtain ⟨bL, oL, SL⟩ := Sp.old hL
 refine Zpx noEx Try.func84 rfl 15 rfl [.slice B ss.length lc, .slice P p.length pc] rfl rfl (Mem.init w _) ?_
 intro ac wc T M
 refine Zsr ?_
 refine Zl2 ?_
 refine Zob M T rfl rfl rfl rfl (T.e 0 rfl) rfl ?_; clear M T; intro g1 wc ac M T
 refine lq T (Zra rfl evc) ?_; clear T ac; intro ac T
 replace T := T.pick [1, 3] rfl
 refine Zln ?_
 refine Zsr ?_
 refine lq T (Zrm rfl (T.e 1 rfl)) ?_; clear T ac; intro ac T
 refine Zl2 ?_
 refine Zoc (first := []) (cap := []) T rfl rfl rfl rfl evf (.cons (T.e 0 rfl) .nil) Try.func124 rfl rfl ?_
 refine Calls.mono (byTurns_any p P pc _) ?_
 clear T; rintro e wc ⟨gu1, rfl, N⟩ ac T
 replace M := M.join N; clear N
 replace M := M.mask [true, true] rfl
 refine lq (v := (.func (.func 125) #[] #[.pointer (some ⟨g1, 0, none⟩)])) T (rn_makeFunc rfl .nil (.cons (T.e 2 rfl) .nil)) ?_; clear T ac; intro ac T
 refine Zl2 ?_
 have h6 := hgp.n6
 have hP8 := SP.rd M (Zz9 _)
 have hL8 := SL.rd M (Zz9 _)
 have q8 := M.nth 1 rfl
 refine Zoc (first := []) (cap := []) T rfl rfl rfl rfl evf (.cons (T.e 1 rfl) (.cons (T.e 0 rfl) .nil)) Try.func123 rfl rfl ?_
 refine Calls.mono (firstW_any p P pc gu1 125 _ [.pointer (some ⟨g1, 0, none⟩)] (fun w9 => alwB b p ss w9) _ h6 (SP.rd M (Zz9 _)) (M.nth 0 rfl) Try.func125 rfl rfl (fun x W hW hR hx => fine1_any b A c D d p P pc ss B lc x.A x.c x.l g1 W ((hP8.below hW).more hW.size) hR ((hL8.below hW).more hW.size) nL hgp hgb hss hx (q8.below hW))) ?_
 clear T; rintro e wc ⟨Afu2, cfu2, rfu2, bfu2, Ifu2, rfl, hffu2, hfnu2, hfqu2, hfcu2, ⟨bzu2, ozu2, hSfu2⟩, N⟩ ac T
 have SFu2 := hSfu2 w noEx
 replace M := (M.join N).swapI
 clear N
 replace M : Mem w noEx wc ((gu1, .cells [.slice P p.length pc]) :: (g1, .cells [.slice B ss.length lc]) :: Ifu2) := M
 refine Zg5 T (Zq (Zrm rfl (T.e 0 rfl))) rfl (Ze 0 rfl rfl rfl) rfl (Ze 1 rfl rfl rfl) rfl (Za 1 rfl rfl) rfl (Za 1 rfl rfl) rfl ?_; clear T ac; intro ac T
 refine wpList_nil ?_
 replace T := T.pick [0] rfl
 replace M := M.mask [false, false] rfl
 refine nm_then ?_
 refine Zsr ?_
 refine Zg2 T (Zq (Zrm rfl (T.e 0 rfl))) rfl (Za 0 rfl rfl) rfl ?_; clear T ac; intro ac T
 replace T := T.pick [0] rfl
 refine Zln ?_
 refine wp_ret ?_
 refine rt_1 T rfl (T.e 0 rfl) ?_
 refine ⟨ret_bool ?_, M.below⟩
 unfold fineB
 rw [hffu2]
 cases bfu2 <;> rfl
theorem fewest_any (n : Nat) (F : FuncId) (fn : Func) (cap : List Value) (pr : List Int → Bool)  (w : World) (hn : n ≤ 1000) (hF1 : Try.prog.funcs[F]? = some fn) (hF2 : (fn.name == "runtime.NumGoroutine") = false) (hF3 : fn.body.isNone = false)
   (hF : ∀ (x : LsX) (W : World), Below w.heap.size w W → Rd W W.heap.size 1 x.A x.l.length (ic x.l) → (PrL n) x.l → Calls Try.prog F ([] ++ [Value.slice x.A x.l.length x.c] ++ cap).toArray W fun e W2 => e = .returned (.bool (pr x.l)) ∧ Below W.heap.size W W2)  :
   Calls Try.prog 88 #[.int .i64 (n : Int), .func (.func F) #[] cap.toArray] w (LsEPost (fewL n pr) (fewE n pr) w) := by
 refine Zpx noEx Try.func88 rfl 18 rfl [.int .i64 (n : Int), .func (.func F) #[] cap.toArray] rfl rfl (Mem.init w _) ?_
 intro ac wc T M
 refine Zsr ?_
 refine Zg2 T (Zq (Zra rfl evc)) rfl (Zc rfl) rfl ?_; clear T ac; intro ac T
 replace T := T.pick [2, 3] rfl
 refine Zln ?_
 refine Zsr ?_
 refine lq T (Zrm rfl (T.e 0 rfl)) ?_; clear T ac; intro ac T
 refine Zl2 ?_
 refine Zoc (first := []) (cap := []) T rfl rfl rfl rfl evf (.cons (T.e 0 rfl) .nil) Try.func131 rfl rfl ?_
 refine Calls.mono (lists_any n _) ?_
 clear T; rintro e wc ⟨gu1, rfl, N⟩ ac T
 replace M := M.join N; clear N
 replace M := M.mask [true] rfl
 refine lq T (Zrm rfl (T.e 3 rfl)) ?_; clear T ac; intro ac T
 refine Zl2 ?_
 refine Zoc (first := []) (cap := []) T rfl rfl rfl rfl evf (.cons (T.e 1 rfl) (.cons (T.e 0 rfl) .nil)) Try.func123 rfl rfl ?_
 refine Calls.mono (firstL_any n gu1 F fn cap pr _ (by omega) (M.nth 0 rfl) hF1 hF2 hF3 (fun x W hW hR hx => hF x W (M.below.trans (hW.mono M.size)) hR hx)) ?_
 clear T; rintro e wc ⟨Afu2, cfu2, rfu2, bfu2, Ifu2, rfl, hffu2, hfnu2, hfqu2, hfcu2, ⟨bzu2, ozu2, hSfu2⟩, N⟩ ac T
 have SFu2 := hSfu2 w noEx
 replace M := (M.join N).swapI
 clear N
 replace M : Mem w noEx wc ((gu1, .cells [.int .i64 (n : Int)]) :: Ifu2) := M
 refine Zg5 T (Zq (Zrm rfl (T.e 0 rfl))) rfl (Ze 0 rfl rfl rfl) rfl (Ze 1 rfl rfl rfl) rfl (Za 1 rfl rfl) rfl (Za 1 rfl rfl) rfl ?_; clear T ac; intro ac T
 refine wpList_nil ?_
 replace T := T.pick [0, 1] rfl
 replace M := M.mask [false] rfl
 refine Zns ?_
 refine Zsr ?_
 refine Zg2 T (Zq (Zrm rfl (T.e 0 rfl))) rfl (fun _ T => Zq (rn_not rfl (T.e 0 rfl))) rfl ?_; clear T ac; intro ac T
 replace T := T.pick [0, 3] rfl
 refine Zln ?_
 refine wp_cond_split (T.e 0 rfl) ?_ ?_
 ·intro h1
  (have h1' := h1; try simp only [Zb1, Zb2, Zb3, Zb4, Zb5, Zb6, Zb7] at h1')
  refine Zsr ?_
  refine Zg2 T (Zq (Zra rfl evc)) rfl (Zc rfl) rfl ?_; clear T ac; intro ac T
  replace T := T.pick [0, 1] rfl
  refine Zln ?_
  refine wp_ret ?_
  refine Zrt ?_
  refine rt_2 T rfl (T.e 1 rfl) (T.e 0 rfl) ?_
  have e9 : fewL n pr = [] ∧ fewE n pr = 11 := by unfold fewL fewE; rw [hffu2, show bfu2 = false by simp_all]; exact ⟨rfl, rfl⟩
  rw [e9.1, e9.2]
  exact ⟨none, 0, [], rfl, Nat.le_refl _, ⟨0, 0, fun w1 ex => Sp.nil⟩, M.mask [] rfl |>.sub (Zz9 _)⟩
 intro h1
 (have h1' := h1; try simp only [Zb1, Zb2, Zb3, Zb4, Zb5, Zb6, Zb7] at h1')
 refine Zsk ?_
 refine Zsr ?_
 refine Zg3 T (Zq (Zrm rfl (T.e 1 rfl))) rfl (Za 0 rfl rfl) rfl (Zc rfl) rfl ?_; clear T ac; intro ac T
 replace T := T.pick [0, 1] rfl
 refine Zln ?_
 refine wp_ret ?_
 refine rt_2 T rfl (T.e 1 rfl) (T.e 0 rfl) ?_
 have e9 : fewL n pr = rfu2 ∧ fewE n pr = 0 := by unfold fewL fewE; rw [hffu2, show bfu2 = true by simp_all]; exact ⟨rfl, rfl⟩
 rw [e9.1, e9.2]
 exact ⟨_, _, Ifu2, rfl, hfcu2, ⟨_, _, hSfu2⟩, M.sub ((List.Sublist.refl _))⟩
theorem mend1_any (b : Bw) (A : Option Addr) (c : Nat) (D : Option Addr) (d : Nat) (p : List Nt) (P : Option Addr) (pc : Nat) (l : List L4) (B : Option Addr) (lc : Nat) (G : Option Addr) (n : Nat) (g : List Int) (g1 g2 g3 : Nat)  (w : World) (hP9 : Rd w w.heap.size 4 P p.length (ntc p)) (hG : Rd w w.heap.size 1 G g.length (ic g)) (hL : Rd w w.heap.size 4 B l.length (l4c l)) (nL : l.length ≤ 1000000) (hl4 : ∀ x ∈ l, x.ok) (h4 : b.cs.length ≤ 4) (nG : g.length ≤ 1000) (hgp : NtGood p) (hgb : BwAir b) (q1 : Bk w g1 #[.int .i64 b.full, .int .i64 b.a0, .int .i64 b.a1, .slice A b.cs.length c, .slice D b.ts.length d]) (q2 : Bk w g2 #[.slice B l.length lc]) (q3 : Bk w g3 #[.slice P p.length pc])  :
  Calls Try.prog 116 #[.slice G g.length n, .pointer (some ⟨g1, 0, none⟩), .pointer (some ⟨g2, 0, none⟩), .pointer (some ⟨g3, 0, none⟩)] w fun e w' => e = .returned (.bool (fineB b p (sumsB (cornL b.cs.length g) l))) ∧ Below w.heap.size w w' := by
 obtain ⟨bP, oP, SP⟩ := Sp.old hP9
 obtain ⟨bG, oG, SG⟩ := Sp.old hG
 obtain ⟨bL, oL, SL⟩ := Sp.old hL
 refine Zpx noEx Try.func116 rfl 13 rfl [.slice G g.length n, .pointer (some ⟨g1, 0, none⟩), .pointer (some ⟨g2, 0, none⟩), .pointer (some ⟨g3, 0, none⟩)] rfl rfl (Mem.init w _) ?_
 intro ac wc T M
 refine Zsr ?_
 refine lq T (Zra rfl evc) ?_; clear T ac; intro ac T
 replace T := T.pick [1, 2, 3, 4] rfl
 refine Zln ?_
 refine wp_seq ?_
 refine Zgs M (M.mask [] rfl) 8 (by kernel_rfl) rfl (by kernel_rfl) ?_
 clear M; intro wc M
 refine gq T 0 1 rfl (fun B w' hD hl hS => (Zrr (Mem.old (show Mem w noEx w' _ from hS) q1 (fun h => h)) rfl (T.e 1 rfl) rfl)) ?_; clear T ac; intro ac T
 refine gq T 1 3 rfl (fun B w' hD hl hS => (Zro (Mem.old (show Mem w noEx w' _ from hS) q2 (fun h => h)) rfl (T.e 3 rfl) rfl)) ?_; clear T ac; intro ac T
 refine gq T 2 7 rfl (fun B w' hD hl hS => (Zro (Mem.old (show Mem w noEx w' _ from hS) q3 (fun h => h)) rfl (T.e 5 rfl) rfl)) ?_; clear T ac; intro ac T
 refine gq T 3 15 rfl (fun _ _ _ _ _ => (Zrm rfl (T.e 3 rfl))) ?_; clear T ac; intro ac T
 refine gq T 5 47 rfl (fun B w' hD hl hS => (Zro (Mem.old (show Mem w noEx w' _ from hS) q3 (fun h => h)) rfl (T.e 7 rfl) rfl)) ?_; clear T ac; intro ac T
 refine gw 4 63 ?_; intro K hK
 refine Zoc (first := []) (cap := []) T rfl rfl rfl rfl evf (.cons (T.e 4 rfl) (.cons (T.e 3 rfl) (.cons (T.e 2 rfl) (.cons (T.e 1 rfl) .nil)))) Try.func85 rfl rfl ?_
 refine Calls.mono (playedBy_any b A c D d l B lc p P pc G n g _ (SL.rd M (Zz9 _)) (by omega) hl4 h4 (SG.rd M (Zz9 _)) (by first | omega | simp)) ?_
 clear T; rintro e wc ⟨Apu1, cpu1, Ipu1, rfl, hclu1, N⟩ ac T
 obtain ⟨svu1, hsvu1⟩ : ∃ q, q = sumsB (cornL b.cs.length g) l := ⟨_, rfl⟩
 rw [← hsvu1] at hclu1 T
 have hssvu1 : ∀ s ∈ svu1, 0 ≤ s ∧ s ≤ 20 := by rw [hsvu1]; exact sums_bd hl4 h4
 have hnsvu1 : svu1.length ≤ l.length := by rw [hsvu1]; exact sumsB_len _
 obtain ⟨bpu1, opu1, Spu1⟩ := hclu1.spV (by rw [pdc_length, List.length_map])
 replace Spu1 := Spu1 w noEx
 replace M := (M.join N).swapI
 clear N
 replace M : Mem w noEx wc (Ipu1) := M
 refine Zso hK _ _ (M.perm [] rfl rfl) ?_; clear hK K
 refine gw 6 127 ?_; intro K hK
 refine Zoc (first := []) (cap := []) T rfl rfl rfl rfl evf (.cons (T.e 0 rfl) (.cons (T.e 1 rfl) .nil)) Try.func84 rfl rfl ?_
 refine Calls.mono (fine_any b A c D d p P pc svu1 Apu1 cpu1 _ (SP.rd M (Zz9 _)) (Spu1.rd M (List.Sublist.refl _)) (by omega) hgp hgb hssvu1) ?_
 clear T; rintro e wc ⟨rfl, hb⟩ ac T
 replace M := M.call hb; clear hb
 refine Zso hK _ _ (M.perm [] rfl rfl) ?_; clear hK K
 refine gq T 7 255 rfl (fun _ _ _ _ _ => (Zra rfl (T.e 0 rfl))) ?_; clear T ac; intro ac T
 refine Zgd (by kernel_rfl) ?_
 replace T := T.pick [0] rfl
 refine Znr ?_
 refine rt_1 T rfl (T.e 0 rfl) ?_
 rw [← hsvu1]
 exact ⟨rfl, M.below⟩
theorem ways1_any (b : Bw) (A : Option Addr) (c : Nat) (D : Option Addr) (d : Nat) (p : List Nt) (P : Option Addr) (pc : Nat) (ss : List Int) (B : Option Addr) (lc : Nat) (G : Option Addr) (n : Nat) (g : List Int) (gf gw : Nat)  (w : World) (hP9 : Rd w w.heap.size 4 P p.length (ntc p)) (hG : Rd w w.heap.size 1 G g.length (ic g)) (hL : Rd w w.heap.size 7 B ss.length (pdc (ss.map (mkP b A c D d P pc p)))) (nL : ss.length ≤ 1000000) (hgp : NtGood p) (hgb : BwAir b) (hss : ∀ s ∈ ss, 0 ≤ s ∧ s ≤ 20) (hgl : g.length = p.length) (q1 : Bk w gf #[.func (.func 87) #[] #[]]) (q2 : Bk w gw #[.slice B ss.length lc])  :
  Calls Try.prog 126 #[.slice G g.length n, .pointer (some ⟨gf, 0, none⟩), .pointer (some ⟨gw, 0, none⟩)] w fun e w' => e = .returned (.bool (alwB b p ss g)) ∧ Below w.heap.size w w' := by
 obtain ⟨bP, oP, SP⟩ := Sp.old hP9
 obtain ⟨bG, oG, SG⟩ := Sp.old hG
 obtain ⟨bL, oL, SL⟩ := Sp.old hL
 refine Zpx noEx Try.func126 rfl 9 rfl [.slice G g.length n, .pointer (some ⟨gf, 0, none⟩), .pointer (some ⟨gw, 0, none⟩)] rfl rfl (Mem.init w _) ?_
 intro ac wc T M
 refine Zsr ?_
 refine lq T (Zra rfl evc) ?_; clear T ac; intro ac T
 replace T := T.pick [1, 2, 3] rfl
 refine Zln ?_
 refine Zsr ?_
 refine Zg3 T (Zq (Zro (Mem.old M q1 (fun h => h)) rfl (T.e 1 rfl) rfl)) rfl (fun _ T => Zq (Zro (Mem.old M q2 (fun h => h)) rfl (T.e 3 rfl) rfl)) rfl (Zm 2 rfl rfl) rfl ?_; clear T ac; intro ac T
 refine Zl2 ?_
 refine Zoc (first := []) (cap := []) T rfl rfl rfl rfl (T.e 2 rfl) (.cons (T.e 1 rfl) (.cons (T.e 0 rfl) .nil)) Try.func87 rfl rfl ?_
 refine Calls.mono (always_any b A c D d p P pc ss B lc G n g _ (SP.rd M (Zz9 _)) (SG.rd M (Zz9 _)) (SL.rd M (Zz9 _)) (by omega) hgp hgb hss hgl) ?_
 clear T; rintro e wc ⟨rfl, hb⟩ ac T
 replace M := M.call hb; clear hb
 refine lq T (Zra rfl (T.e 0 rfl)) ?_; clear T ac; intro ac T
 replace T := T.pick [0] rfl
 refine Zln ?_
 refine wp_ret ?_
 refine rt_1 T rfl (T.e 0 rfl) ?_
 exact ⟨rfl, M.below⟩
end Go.Proofs.Ytoheddpnnjldgaa


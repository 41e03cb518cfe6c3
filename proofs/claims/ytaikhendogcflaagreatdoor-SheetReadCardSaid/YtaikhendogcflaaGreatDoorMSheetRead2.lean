/-
  Walks of functions, and plain laws (texts put together). No condition.
-/
import Derived.Test.YtaikhendogcflaaGreatDoorMSheetRead1
set_option maxRecDepth 100000
set_option maxHeartbeats 1000000
set_option linter.unusedSimpArgs false
set_option linter.unusedVariables false
namespace Go.Proofs.YtaikhendogcflaaGreatDoor
open Go.RowKit
theorem Bk.of_heap {w : World} {g : Nat} {t : TypeId} {cur : Array Value} (h : w.heap[g]? = some (.cells cur t)) : Bk w g cur.toList.toArray :=
 ⟨(Array.getElem?_eq_some_iff.1 h).1, fun o => by simp only [World.cell?, h]; rfl, fun o => by simp only [World.frozen?, h]; simp⟩
theorem Sp.pre {w : World} {ex : Nat → Prop} {size n g : Nat} {xs ys : List Value} (hl : xs.length = n * size) : Sp w ex [(g, .cells (xs ++ ys))] (some ⟨g, 0, none⟩) n size g 0 xs :=
 ⟨fun _ => rfl, hl, fun w' L M hI _ => BA.lt (M.blk _ (hI.subset Zz2)).2, fun w' L M hI j u hu => by
  have hb := M.get (hI.subset Zz2)
  rw [hb.cell, Nat.zero_add, List.getElem?_toArray, List.getElem?_append_left (List.getElem?_eq_some_iff.1 hu).1]
  exact hu⟩
abbrev JE := Jb × Option Addr × Nat
abbrev LE := List Int × Option Addr × Nat
section
variable {w w' : World} {ex : Nat → Prop} {I L : List (Nat × BA)} {n b o k : Nat} {A : Option Addr} {l : List JE} {r : List LE}
end
section
variable {P : Program} {op : Oper} {a : Act} {K : Act → World → Prop} {Q : Exit → Act → World → Prop} {w0 w : World} {ex : Nat → Prop} {L0 L : List (Nat × BA)} {E : List (Nat × Value)} {t n : Nat}
theorem ow_bsR {ty e size : Nat} {len : Nat} {parts : List (Nat × Operand)} {vs : List (Nat × Value)} (l : List Value) (M : Mem w0 ex w L) (T : Tm a n E) (ho : op.op = .buildSlice ty len parts.toArray) (hd : op.dst = some t) (hf : freshE E t = true) (hn : Nat.blt t n = true) (hv : EvP a parts vs)
  (hr : ∀ w : World, (Instr.buildSlice ty len vs.toArray).run P w = .ok (.slice (some ⟨w.heap.size, 0, none⟩) len len) (w.alloc (.cells l.toArray e)))
  (hl : l.length = len * size) (h0 : Nat.blt 0 len = true) (h1 : Nat.ble len 1000 = true)
  (h : ∀ g w' a', Mem w0 ex w' ((g, .row e size len l len) :: L) → Tm a' n ((t, .slice (some ⟨g, 0, none⟩) len len) :: E) → K a' w') : op.wp P a w K Q := by
 unfold Oper.wp execOp
 simp only [ho]
 have e1 : (parts.toArray.map fun x => (x.1, a.eval x.2)) = vs.toArray := by simp [← hv.map]
 have e2 : (parts.toArray.map fun (i, x) => (i, a.eval x)) = vs.toArray := e1
 rw [Sem.run_bind, e2, hr]
 have h1 := Nat.le_of_ble_eq_true h1
 refine h w.heap.size _ _ ?_ (by rw [hd]; exact T.put hn hf _)
 refine (M.alloc _).add M.size ⟨⟨hl, .inr ⟨w.heap.size, len, l.toArray, rfl, Nat.le_refl _, heap_alloc_new w _, Nat.le_refl _, by unfold maxLen; omega, by simp [hl], by simp [← hl]⟩⟩, Nat.le_of_ble_eq_true h0⟩ (fun q hq e => by have := (BA.lt (M.blk q hq).2); omega)
end
def Sw (size : Nat) (A : Option Addr) (n b : Nat) (xs : List Value) (I : List (Nat × BA)) : Prop := xs.length = n * size ∧ (n = 0 ∨ (A = some ⟨b, 0, none⟩ ∧ ∃ ys, I = [(b, .cells (xs ++ ys))]))
theorem Sm.sw {w0 w : World} {ex : Nat → Prop} {L I : List (Nat × BA)} {e size n c : Nat} {A : Option Addr} {xs : List Value} (h : Sm e size A n c xs I) (M : Mem w0 ex w (L ++ I)) : ∃ b I', Sw size A n b xs I' ∧ Mem w0 ex w (L ++ I') := by
 rcases h with ⟨rfl, rfl, rfl, g, rfl, rfl⟩ | ⟨g, rfl, rfl⟩
 ·exact ⟨0, _, ⟨by simp, .inl rfl⟩, M⟩
 ·have M' := Mem.swapI (I := L) M
  obtain ⟨⟨hl, hb⟩, hk⟩ := (M'.blk _ Zz2).2
  rcases hb with ⟨hb, _⟩ | ⟨g', cap', cur, e1, _, hg, hc1, hc2, hc3, hc4⟩
  ·cases hb
  ·injection e1 with e1 _ _
   injection e1 with e1
   injection e1 with e1 _ _
   subst e1
   refine ⟨g, [(g, .cells (xs ++ cur.toList.drop (n * size)))], ⟨hl, .inr ⟨rfl, _, rfl⟩⟩, Mem.swapI (I := [(g, .cells (xs ++ cur.toList.drop (n * size)))]) (L := L) ⟨M'.os, M'.tape, M'.output, M'.size, M'.block, ?_, M'.nd⟩⟩
   intro p hp
   rcases List.mem_cons.1 hp with rfl | hp
   ·refine ⟨(M'.blk _ Zz2).1, ?_⟩
    rw [← hc4, List.take_append_drop]
    exact Bk.of_heap hg
   ·exact M'.blk p (Zz1 hp)
theorem ic_snoc (l : List Int) (x : Int) : ic l ++ [.int .i64 x] = ic (l ++ [x]) := by simp [ic]
section
variable {P : Program} {op : Oper} {a : Act} {K : Act → World → Prop} {Q : Exit → Act → World → Prop} {w0 w : World} {ex : Nat → Prop} {L0 L : List (Nat × BA)} {E : List (Nat × Value)} {t n : Nat}
theorem ow_bs0 {ty e : TypeId} (M : Mem w0 ex w L) (T : Tm a n E) (ho : op.op = .buildSlice ty 0 #[]) (hd : op.dst = some t) (hf : freshE E t = true) (hn : Nat.blt t n = true)
  (hr : ∀ w : World, (Instr.buildSlice ty 0 #[]).run P w = .ok (.slice (some ⟨w.heap.size, 0, none⟩) 0 0) (w.alloc (.cells #[] e)))
  (h : ∀ g w' a', Mem w0 ex w' ((g, .any fun o => o = .cells #[] e) :: L) → Tm a' n ((t, .slice (some ⟨g, 0, none⟩) 0 0) :: E) → K a' w') : op.wp P a w K Q := by
 unfold Oper.wp execOp
 simp only [ho]
 have e2 : ((#[] : Array (Nat × Operand)).map fun (i, x) => (i, a.eval x)) = #[] := by simp
 rw [Sem.run_bind, e2, hr]
 exact h w.heap.size _ _ (M.newAny (.cells #[] e) (fun o => o = .cells #[] e) rfl) (by rw [hd]; exact T.put hn hf _)
theorem ow_appS {s x : Operand} {ty e size bytes b m d : Nat} {B : Option Addr} {z : Value} {cs : List Value}
  (hinfo : (P.info? e).map (fun i => (i.zero, i.size, i.bytes)) = some (some z, size, bytes)) (M : Mem w0 ex w ((b, .any fun o => o = .cells #[] e) :: L)) (T : Tm a n E)
  (ho : op.op = .call { callee := .builtin .append, args := #[s, x], argTypes := #[ty, ty] }) (hd : op.dst = some t) (hf : freshE E t = true) (hnn : Nat.blt t n = true)
  (h0 : ∀ g (w : World), (Builtin.append_ #[ty, ty] op.type #[.slice (some ⟨g, 0, none⟩) 0 0, .slice B 0 d]).run P w = .ok (.slice (some ⟨g, 0, none⟩) 0 0) w)
  (ht : P.underlying ty = some (.slice e)) (hzs : z.cells.size = size) (hsz : Nat.blt 0 size = true) (hby : Nat.ble bytes 1000 = true) (hm : m ≤ 1000000)
  (hs : a.eval s = .slice (some ⟨b, 0, none⟩) 0 0) (hx : a.eval x = .slice B m d) (hr : Rd w w.heap.size size B m cs) (h1 : ∀ u ∈ cs, u.oneCell' = true)
  (h : ∀ A' c' I' w' a', Sm e size A' m c' cs I' → Mem w0 ex w' (I' ++ L) → Tm a' n ((t, .slice A' m c') :: E) → K a' w') : op.wp P a w K Q := by
 rcases Nat.eq_zero_or_pos m with rfl | hm0
 ·obtain rfl : cs = [] := List.eq_nil_of_length_eq_zero (by have := hr.1; omega)
  unfold Oper.wp execOp
  simp only [ho, resolve, invoke, builtin, Sem.run_bind, Sem.run_pure, Result.andThen_ok, List.map_toArray, List.map_cons, List.map_nil, hs, hx, h0]
  exact h _ _ [(b, .any fun o => o = .cells #[] e)] w _ (.inl ⟨rfl, rfl, rfl, b, rfl, rfl⟩) M (by rw [hd]; exact T.put hnn hf _)
 ·obtain ⟨i, hi, hz0, hz1, hz2⟩ := info_parts hinfo
  obtain ⟨g2, o2, rfl, hlt, hc⟩ := hr.cells hm0
  have hby := Nat.le_of_ble_eq_true hby
  have hsz := Nat.le_of_ble_eq_true hsz
  have hbb : (0 + m) * bytes ≤ 140737488355328 := by
   have : (0 + m) * bytes ≤ 1000000 * 1000 := Nat.mul_le_mul (by omega) hby
   omega
  obtain ⟨h2, o, hge, rfl⟩ := M.blk (b, .any fun o => o = .cells #[] e) Zz2
  have hgl : b < w.heap.size := (Array.getElem?_eq_some_iff.1 hge).1
  refine wp_append_lies w s x ty ho b e i z size bytes ht hi hz0 hz1 hz2 hzs hsz _ 0 [] hs ⟨by simp, .inr ⟨b, 0, #[], rfl, Nat.le_refl _, hge, by omega, by unfold maxLen; omega, by simp, by simp⟩⟩ ⟨g2, o2, none⟩ m d cs hx hr.1 (fun j u hu => by rw [Addr.add_mid]; exact hc j u hu) h1 hm0 (by unfold maxLen; omega) hbb (Nat.le_of_lt hgl) w.heap.size rfl ?_
  intro g cap' w' hown hgr hat hlt2
  have hgr : w.grownBy w' (some b) := hgr
  simp only [Nat.zero_add, List.nil_append] at hown
  have key : Mem w0 ex w' ((g, .row e size m cs cap') :: L) := by
   rcases hat with h3 | h3
   ·have h3 : some b = some g := h3
    injection h3 with h3
    subst h3
    exact M.callW (L' := (b, .row e size m cs cap') :: L) .head hgr (own_rebase hown hm0)
   ·have M1 := M.callW (L' := (b, .any (fun _ => True)) :: L) .head hgr (by
     have hl0 : b < w'.heap.size := Nat.lt_of_lt_of_le hgl hgr.size
     exact ⟨w'.heap[b], Array.getElem?_eq_getElem hl0, trivial⟩)
    exact M1.forget.add (by rw [h3]; exact M.size) (own_rebase hown hm0) (fun q hq e => by have := BA.lt (M.blk q (Zz1 hq)).2; omega)
  have e0 : a.put op.dst (.slice (some ⟨g, 0, none⟩) (0 + m) cap') = a.put op.dst (.slice (some ⟨g, 0, none⟩) m cap') := by rw [Nat.zero_add]
  rw [e0]
  exact h _ _ [(g, .row e size m cs cap')] w' _ (.inr ⟨g, rfl, rfl⟩) key (by rw [hd]; exact T.put hnn hf _)
end
def Cl (e size : Nat) (A : Option Addr) (n c : Nat) (xs : List Value) (I : List (Nat × BA)) : Prop :=
 (A = none ∧ n = 0 ∧ xs = [] ∧ c = 0 ∧ I = []) ∨ Sm e size A n c xs I
theorem Cl.row (e size g n c : Nat) (xs : List Value) : Cl e size (some ⟨g, 0, none⟩) n c xs [(g, .row e size n xs c)] := .inr (.inr ⟨g, rfl, rfl⟩)
theorem Cl.capLe {e n size : Nat} {A : Option Addr} {c : Nat} {xs : List Value} {I : List (Nat × BA)} {w0 w : World} {ex : Nat → Prop} {L : List (Nat × BA)} (h : Cl e size A n c xs I) (M : Mem w0 ex w L) (hI : I.Sublist L) : n ≤ c := by
 rcases h with ⟨_, rfl, _, rfl, _⟩ | ⟨rfl, _, rfl, _⟩ | ⟨g, rfl, rfl⟩
 ·omega
 ·omega
 ·obtain ⟨⟨-, h5⟩, h6⟩ := (M.blk (g, .row e size n xs c) (hI.subset Zz2)).2
  rcases h5 with ⟨h7, -⟩ | ⟨g', cap', cur, h7, -, -, h8, -⟩
  ·cases h7
  ·injection h7 with _ _ h9
   omega
theorem Cl.sw {w0 w : World} {ex : Nat → Prop} {L I : List (Nat × BA)} {e size n c : Nat} {A : Option Addr} {xs : List Value} (h : Cl e size A n c xs I) (M : Mem w0 ex w (L ++ I)) : ∃ b I', Sw size A n b xs I' ∧ Mem w0 ex w (L ++ I') := by
 rcases h with ⟨rfl, rfl, rfl, rfl, rfl⟩ | h
 · exact ⟨0, [], ⟨by simp, .inl rfl⟩, M⟩
 · exact h.sw M
theorem ow_appC {P : Program} {op : Oper} {a : Act} {K : Act → World → Prop} {Q : Exit → Act → World → Prop} {s x : Operand} {ty e size bytes b c d m nn t' : Nat} {A : Option Addr} {z : Value} {cs xs : List Value} {w0 w : World} {ex : Nat → Prop} {L0 I : List (Nat × BA)} {E : List (Nat × Value)} (L1 : List (Nat × BA))
   (hinfo : (P.info? e).map (fun i => (i.zero, i.size, i.bytes)) = some (some z, size, bytes)) (hS : Cl e size A m d xs I) (M : Mem w0 ex w L0) (hsp : L0 = L1 ++ I) (T : Tm a nn E)
   (ho : op.op = .call { callee := .builtin .append, args := #[s, x], argTypes := #[ty, ty] }) (hd : op.dst = some t') (hf : freshE E t' = true) (hnn : Nat.blt t' nn = true)
   (ht : P.underlying ty = some (.slice e)) (hzs : z.cells.size = size) (hsz : Nat.blt 0 size = true) (hby : Nat.ble bytes 1000 = true) (hm : m ≤ 1000000)
   (hs : a.eval s = .slice A m d) (hx : a.eval x = .slice (some ⟨b, 0, none⟩) 1 c) (hmem : (b, BA.cells cs) ∈ L1) (hl : cs.length = size) (h1 : cs.all (·.oneCell') = true)
   (h : ∀ g cap w' a', Mem w0 ex w' ((g, .row e size (m + 1) (xs ++ cs) cap) :: L1) → Tm a' nn ((t', .slice (some ⟨g, 0, none⟩) (m + 1) cap) :: E) → K a' w') : op.wp P a w K Q := by
 rcases hS with ⟨rfl, rfl, rfl, rfl, rfl⟩ | hS
 · exact ow_app L1 hinfo (Sl.nil e size) M hsp T ho hd hf hnn ht hzs hsz hby hm hs hx hmem hl h1 h
 · exact ow_appM L1 hinfo hS M hsp T ho hd hf hnn ht hzs hsz hby hm hs hx hmem hl h1 h
structure Pt where
 l : Int
 w : Int
 gr : Bool
 pa : Int
deriving DecidableEq, Inhabited
structure Sk where
 lo : Int
 wi : Int
 a0 : Int
 a1 : Int
 c0 : Int
 c1 : Int
 ps : List Pt
deriving DecidableEq
structure Spt where
 x : Int
 y : Int
 t : Bool
deriving DecidableEq, Inhabited
def cutA (s : Sk) (su : Bool) : Int := if su = true then s.a1 else s.a0
def cutC (s : Sk) (su : Bool) : Int := if su = true then s.c1 else s.c0
def sizeL (a c : Int) (p : Pt) (t : Bool) : Int := if t = true then p.w + a else p.l + a
def sizeW (a c : Int) (p : Pt) (t : Bool) : Int := if t = true then p.l + c else p.w + c
def fitsT (a c : Int) (p : Pt) (lo wi : Int) (t : Bool) : Bool := decide (sizeL a c p t ≤ lo) && decide (sizeW a c p t ≤ wi) && !(t && p.gr)
def fitsP (a c : Int) (p : Pt) (lo wi : Int) : Bool × Bool := if fitsT a c p lo wi false = true then (false, true) else if fitsT a c p lo wi true = true then (true, true) else (false, false)
def Fit (a c : Int) (p : Pt) (lo wi : Int) : Prop := ∃ t, fitsT a c p lo wi t = true
theorem fitsP_iff {a c lo wi : Int} {p : Pt} : (fitsP a c p lo wi).2 = true ↔ Fit a c p lo wi := by
 unfold fitsP Fit
 cases h0 : fitsT a c p lo wi false <;> cases h1 : fitsT a c p lo wi true <;> simp [h0, h1] <;> (intro t; cases t <;> simp_all)
inductive Cut (f : Pt → Int → Int → Prop) : List Pt → Int → Int → Prop
 | nil {lo wi : Int} : Cut f [] lo wi
 | one {p : Pt} {lo wi : Int} : f p lo wi → Cut f [p] lo wi
 | along {xs us bs : List Pt} {lo wi x : Int} : 0 < x → x < lo → xs.Perm (us ++ bs) → us ≠ [] → bs ≠ [] → Cut f us x wi → Cut f bs (lo - x) wi → Cut f xs lo wi
 | across {xs us bs : List Pt} {lo wi y : Int} : 0 < y → y < wi → xs.Perm (us ++ bs) → us ≠ [] → bs ≠ [] → Cut f us lo y → Cut f bs lo (wi - y) → Cut f xs lo wi
section
variable {f : Pt → Int → Int → Prop}
theorem Cut.perm {xs ys : List Pt} {lo wi : Int} (h : Cut f xs lo wi) (hp : ys.Perm xs) : Cut f ys lo wi := by
 cases h with
 | nil => rw [List.perm_nil.1 hp]; exact .nil
 | one h => rw [List.perm_singleton.1 hp]; exact .one h
 | along h1 h2 h3 h4 h5 h6 h7 => exact .along h1 h2 (hp.trans h3) h4 h5 h6 h7
 | across h1 h2 h3 h4 h5 h6 h7 => exact .across h1 h2 (hp.trans h3) h4 h5 h6 h7
theorem Cut.single {p : Pt} {lo wi : Int} : Cut f [p] lo wi ↔ f p lo wi := by
 refine ⟨fun h => ?_, .one⟩
 have len : ∀ {us bs : List Pt}, ([p] : List Pt).Perm (us ++ bs) → us ≠ [] → bs ≠ [] → False := fun hp h1 h2 => by
  have := hp.length_eq
  rw [List.length_append] at this
  have k1 := List.length_pos_iff.2 h1
  have k2 := List.length_pos_iff.2 h2
  simp at this
  omega
 cases h with
 | one h => exact h
 | along _ _ h3 h4 h5 => exact (len h3 h4 h5).elim
 | across _ _ h3 h4 h5 => exact (len h3 h4 h5).elim
theorem Cut.map {g : Pt → Int → Int → Prop} (m : Pt → Pt) {xs : List Pt} {lo wi : Int} (hf : ∀ p ∈ xs, ∀ lo wi, f p lo wi → g (m p) lo wi) (h : Cut f xs lo wi) : Cut g (xs.map m) lo wi := by
 induction h with
 | nil => exact .nil
 | one h => exact .one (hf _ Zz2 _ _ h)
 | along h1 h2 h3 h4 h5 _ _ ih1 ih2 =>
  refine .along h1 h2 (by rw [← List.map_append]; exact h3.map m) (by simpa using h4) (by simpa using h5) (ih1 fun p hp => hf p (h3.symm.subset (List.mem_append_left _ hp))) (ih2 fun p hp => hf p (h3.symm.subset (List.mem_append_right _ hp)))
 | across h1 h2 h3 h4 h5 _ _ ih1 ih2 =>
  refine .across h1 h2 (by rw [← List.map_append]; exact h3.map m) (by simpa using h4) (by simpa using h5) (ih1 fun p hp => hf p (h3.symm.subset (List.mem_append_left _ hp))) (ih2 fun p hp => hf p (h3.symm.subset (List.mem_append_right _ hp)))
end
def popP (s : Nat) : Nat := s % 2 + s / 2 % 2 + s / 4 % 2 + s / 8 % 2 + s / 16 % 2
def onlyP (s : Nat) : Nat := if s % 2 = 1 then 0 else if s / 2 % 2 = 1 then 1 else if s / 4 % 2 = 1 then 2 else if s / 8 % 2 = 1 then 3 else 4
def sel {α : Type} : List α → Nat → List α
 | [], _ => []
 | x :: L, s => if s % 2 = 1 then x :: sel L (s / 2) else sel L (s / 2)
def partsP (s : Nat) : List Nat := (List.range s).filter fun x => decide (0 < x) && (x &&& s == x)
theorem mem_parts {s x : Nat} : x ∈ partsP s ↔ 0 < x ∧ x < s ∧ x &&& s = x := by
 simp [partsP]
 omega
theorem bits_sub : ∀ s, s < 32 → ∀ x, x < 32 → x &&& s = x → x ≤ s ∧ (x / 2) &&& (s / 2) = x / 2 ∧ x % 2 ≤ s % 2 ∧ (s - x) / 2 = s / 2 - x / 2 ∧ (s - x) % 2 = s % 2 - x % 2 := by decide +kernel
theorem bits_add : ∀ s, s < 32 → ∀ x, x < 16 → x &&& (s / 2) = x → (2 * x &&& s = 2 * x) ∧ (s % 2 = 1 → (2 * x + 1) &&& s = 2 * x + 1) := by decide +kernel
def cntP : Nat → Nat → Nat
 | 0, _ => 0
 | n + 1, s => s % 2 + cntP n (s / 2)
theorem cnt_pop : ∀ n, n < 6 → ∀ s, s < 32 → s < 2 ^ n → cntP n s = popP s := by decide +kernel
theorem sel_cnt {α : Type} : ∀ (L : List α) (s : Nat), (sel L s).length = cntP L.length s
 | [], _ => rfl
 | x :: L, s => by
  simp only [sel, List.length_cons, cntP]
  split
  ·rw [List.length_cons, sel_cnt L]; omega
  ·rw [sel_cnt L]; omega
theorem sel_length_pop {α : Type} (L : List α) (s : Nat) (h : s < 2 ^ L.length) (h5 : L.length ≤ 5) : (sel L s).length = popP s := by
 have h32 := Nat.pow_le_pow_right (n := 2) (by omega) h5
 rw [sel_cnt]
 exact cnt_pop _ (by omega) s (by omega) h
theorem pop_zero : ∀ s, s < 32 → (popP s = 0 ↔ s = 0) := by decide +kernel
theorem pop_one : ∀ s, s < 32 → popP s = 1 → s = 1 ∨ s = 2 ∨ s = 4 ∨ s = 8 ∨ s = 16 := by decide +kernel
theorem sel_perm {α : Type} : ∀ (L : List α) (s x : Nat), s < 32 → x < 32 → x &&& s = x → (sel L s).Perm (sel L x ++ sel L (s - x))
 | [], _, _, _, _, _ => List.Perm.refl _
 | p :: L, s, x, hs, hx, h => by
  obtain ⟨h1, h2, h3, h4, h5⟩ := bits_sub s hs x hx h
  have ih := sel_perm L (s / 2) (x / 2) (by omega) (by omega) h2
  simp only [sel, h4, h5]
  by_cases a1 : s % 2 = 1
  ·by_cases a2 : x % 2 = 1
   ·rw [if_pos a1, if_pos a2, if_neg (by omega)]
    exact ih.cons p
   ·rw [if_pos a1, if_neg a2, if_pos (by omega)]
    exact (ih.cons p).trans List.perm_middle.symm
  ·rw [if_neg a1, if_neg (by omega), if_neg (by omega)]
   exact ih
theorem sel_split {α : Type} [DecidableEq α] : ∀ (L : List α) (s : Nat) (us bs : List α), L.length ≤ 5 → s < 2 ^ L.length → (sel L s).Perm (us ++ bs) → ∃ x, x < 2 ^ L.length ∧ x &&& s = x ∧ (sel L x).Perm us ∧ (sel L (s - x)).Perm bs
 | [], s, us, bs, _, hs, hp => by
  have h := List.nil_perm.1 hp
  obtain ⟨rfl, rfl⟩ := List.append_eq_nil_iff.1 h
  exact ⟨0, by simp, by simp, List.Perm.refl _, List.Perm.refl _⟩
 | p :: L, s, us, bs, hl, hs, hp => by
  simp only [List.length_cons] at hl hs ⊢
  have hpow : 2 ^ (L.length + 1) = 2 * 2 ^ L.length := by rw [Nat.pow_succ]; omega
  have h16 : 2 ^ L.length ≤ 16 := by
   have := Nat.pow_le_pow_right (n := 2) (by omega) (show L.length ≤ 4 by omega)
   omega
  have hs2 : s / 2 < 2 ^ L.length := by omega
  by_cases a1 : s % 2 = 1
  ·simp only [sel, if_pos a1] at hp
   have hm : p ∈ us ++ bs := hp.subset Zz2
   rcases List.mem_append.1 hm with hm | hm
   ·have e1 := List.perm_cons_erase hm
    have e2 : (sel L (s / 2)).Perm (us.erase p ++ bs) := (List.perm_cons p).1 (hp.trans (List.Perm.append_right bs e1))
    obtain ⟨x, x1, x2, x3, x4⟩ := sel_split L (s / 2) _ _ (by omega) hs2 e2
    obtain ⟨-, b2⟩ := bits_add s (by omega) x (by omega) x2
    have b3 := b2 a1
    obtain ⟨-, -, -, c4, c5⟩ := bits_sub s (by omega) (2 * x + 1) (by omega) b3
    refine ⟨2 * x + 1, by omega, b3, ?_, ?_⟩
    ·simp only [sel]
     rw [if_pos (by omega), show (2 * x + 1) / 2 = x by omega]
     exact (x3.cons p).trans e1.symm
    ·simp only [sel, c4, c5]
     rw [if_neg (by omega), show (2 * x + 1) / 2 = x by omega]
     exact x4
   ·have e1 := List.perm_cons_erase hm
    have e2 : (sel L (s / 2)).Perm (us ++ bs.erase p) := (List.perm_cons p).1 (hp.trans ((List.Perm.append_left us e1).trans List.perm_middle))
    obtain ⟨x, x1, x2, x3, x4⟩ := sel_split L (s / 2) _ _ (by omega) hs2 e2
    obtain ⟨b2, -⟩ := bits_add s (by omega) x (by omega) x2
    obtain ⟨-, -, -, c4, c5⟩ := bits_sub s (by omega) (2 * x) (by omega) b2
    refine ⟨2 * x, by omega, b2, ?_, ?_⟩
    ·simp only [sel]
     rw [if_neg (by omega), show 2 * x / 2 = x by omega]
     exact x3
    ·simp only [sel, c4, c5]
     rw [if_pos (by omega), show 2 * x / 2 = x by omega]
     exact (x4.cons p).trans e1.symm
  ·simp only [sel, if_neg a1] at hp
   obtain ⟨x, x1, x2, x3, x4⟩ := sel_split L (s / 2) _ _ (by omega) hs2 hp
   obtain ⟨b2, -⟩ := bits_add s (by omega) x (by omega) x2
   obtain ⟨-, -, -, c4, c5⟩ := bits_sub s (by omega) (2 * x) (by omega) b2
   refine ⟨2 * x, by omega, b2, ?_, ?_⟩
   ·simp only [sel]
    rw [if_neg (by omega), show 2 * x / 2 = x by omega]
    exact x3
   ·simp only [sel, c4, c5]
    rw [if_neg (by omega), show 2 * x / 2 = x by omega]
    exact x4
theorem sel_one {α : Type} [Inhabited α] : ∀ (L : List α) (s : Nat), s < 2 ^ L.length → L.length ≤ 5 → popP s = 1 → sel L s = [L.getD (onlyP s) default] ∧ onlyP s < L.length
 | [], s, h, _, hp => by simp at h; subst h; simp [popP] at hp
 | [a], s, h, _, hp => by
  simp at h
  obtain rfl : s = 1 := by have := pop_one s (by omega) hp; omega
  simp [sel, onlyP]
 | [a, b], s, h, _, hp => by
  simp at h
  have hc : s = 1 ∨ s = 2 := by have := pop_one s (by omega) hp; omega
  rcases hc with rfl | rfl <;> simp [sel, onlyP]
 | [a, b, c], s, h, _, hp => by
  simp at h
  have hc : s = 1 ∨ s = 2 ∨ s = 4 := by have := pop_one s (by omega) hp; omega
  rcases hc with rfl | rfl | rfl <;> simp [sel, onlyP]
 | [a, b, c, d], s, h, _, hp => by
  simp at h
  have hc : s = 1 ∨ s = 2 ∨ s = 4 ∨ s = 8 := by have := pop_one s (by omega) hp; omega
  rcases hc with rfl | rfl | rfl | rfl <;> simp [sel, onlyP]
 | [a, b, c, d, e], s, h, _, hp => by
  simp at h
  have hc := pop_one s (by omega) hp
  rcases hc with rfl | rfl | rfl | rfl | rfl <;> simp [sel, onlyP]
 | _ :: _ :: _ :: _ :: _ :: _ :: _, _, _, h, _ => by simp at h
theorem sel_zero {α : Type} : ∀ (L : List α), sel L 0 = []
 | [] => rfl
 | x :: L => by simp only [sel]; rw [if_neg (by omega)]; exact sel_zero L
theorem sel_all {α : Type} : ∀ (L : List α), sel L (2 ^ L.length - 1) = L
 | [] => rfl
 | x :: L => by
  simp only [sel, List.length_cons]
  have hpow : 2 ^ (L.length + 1) = 2 * 2 ^ L.length := by rw [Nat.pow_succ]; omega
  have hp : 0 < 2 ^ L.length := Nat.two_pow_pos _
  rw [hpow, if_pos (by omega), show (2 * 2 ^ L.length - 1) / 2 = 2 ^ L.length - 1 by omega, sel_all L]
structure Rm where
 s : Nat
 lo : Int
 wi : Int
structure Two2 where
 a : Rm
 b : Rm
 x : Int
 y : Int
def longP (r : Rm) (k : Nat) : List Two2 := (partsP r.s).map fun a => ⟨⟨a, (k : Int), r.wi⟩, ⟨r.s - a, r.lo - (k : Int), r.wi⟩, (k : Int), 0⟩
def wideP (r : Rm) (k : Nat) : List Two2 := (partsP r.s).map fun a => ⟨⟨a, r.lo, (k : Int)⟩, ⟨r.s - a, r.lo, r.wi - (k : Int)⟩, 0, (k : Int)⟩
def roomsP (r : Rm) : List Two2 := ((List.range (r.lo - 1).toNat).flatMap fun k => longP r (k + 1)) ++ ((List.range (r.wi - 1).toNat).flatMap fun k => wideP r (k + 1))
def canP (a c : Int) (L : List Pt) (r : Rm) : Prop := Cut (Fit a c) (sel L r.s) r.lo r.wi
open Classical in
noncomputable def canB (a c : Int) (L : List Pt) (r : Rm) : Bool := decide (canP a c L r)
theorem canB_iff {a c : Int} {L : List Pt} {r : Rm} : canB a c L r = true ↔ canP a c L r := by simp [canB]
theorem mem_long {r : Rm} {k : Nat} {q : Two2} : q ∈ longP r k ↔ ∃ a, (0 < a ∧ a < r.s ∧ a &&& r.s = a) ∧ q = ⟨⟨a, (k : Int), r.wi⟩, ⟨r.s - a, r.lo - (k : Int), r.wi⟩, (k : Int), 0⟩ := by
 simp only [longP, List.mem_map, mem_parts]
 constructor
 · rintro ⟨a, h, rfl⟩; exact ⟨a, h, rfl⟩
 · rintro ⟨a, h, rfl⟩; exact ⟨a, h, rfl⟩
theorem mem_wide {r : Rm} {k : Nat} {q : Two2} : q ∈ wideP r k ↔ ∃ a, (0 < a ∧ a < r.s ∧ a &&& r.s = a) ∧ q = ⟨⟨a, r.lo, (k : Int)⟩, ⟨r.s - a, r.lo, r.wi - (k : Int)⟩, 0, (k : Int)⟩ := by
 simp only [wideP, List.mem_map, mem_parts]
 constructor
 · rintro ⟨a, h, rfl⟩; exact ⟨a, h, rfl⟩
 · rintro ⟨a, h, rfl⟩; exact ⟨a, h, rfl⟩
theorem mem_rooms {r : Rm} {q : Two2} : q ∈ roomsP r ↔ (∃ k : Nat, 0 < k ∧ (k : Int) < r.lo ∧ q ∈ longP r k) ∨ ∃ k : Nat, 0 < k ∧ (k : Int) < r.wi ∧ q ∈ wideP r k := by
 simp only [roomsP, List.mem_append, List.mem_flatMap, List.mem_range]
 constructor
 ·rintro (⟨k, h1, h2⟩ | ⟨k, h1, h2⟩)
  ·exact .inl ⟨k + 1, by omega, by omega, h2⟩
  ·exact .inr ⟨k + 1, by omega, by omega, h2⟩
 ·rintro (⟨k, h0, h1, h2⟩ | ⟨k, h0, h1, h2⟩)
  ·exact .inl ⟨k - 1, by omega, by rw [show k - 1 + 1 = k by omega]; exact h2⟩
  ·exact .inr ⟨k - 1, by omega, by rw [show k - 1 + 1 = k by omega]; exact h2⟩
theorem sel_ne {α : Type} {L : List α} {s : Nat} (h : s < 2 ^ L.length) (h5 : L.length ≤ 5) : sel L s ≠ [] ↔ 0 < s := by
 have hl := sel_length_pop L s h h5
 have h32 : s < 32 := by
  have := Nat.pow_le_pow_right (n := 2) (by omega) h5
  omega
 have hp := pop_zero s h32
 rw [← List.length_pos_iff, hl]
 omega
theorem can_cut {a c : Int} {L : List Pt} {r : Rm} (hs : r.s < 2 ^ L.length) (h5 : L.length ≤ 5) (h2 : 2 ≤ popP r.s) : canP a c L r ↔ ∃ q ∈ roomsP r, canP a c L q.a ∧ canP a c L q.b := by
 have h32 : r.s < 32 := by
  have := Nat.pow_le_pow_right (n := 2) (by omega) h5
  omega
 have hl := sel_length_pop L r.s hs h5
 constructor
 ·intro h
  unfold canP at h
  have key : ∀ {us bs : List Pt}, (sel L r.s).Perm (us ++ bs) → us ≠ [] → bs ≠ [] → ∃ x, (0 < x ∧ x < r.s ∧ x &&& r.s = x) ∧ (sel L x).Perm us ∧ (sel L (r.s - x)).Perm bs := fun hp ha hb => by
   obtain ⟨x, x1, x2, x3, x4⟩ := sel_split L r.s _ _ h5 hs hp
   have hle := (bits_sub r.s h32 x (by have := Nat.pow_le_pow_right (n := 2) (by omega) h5; omega) x2).1
   have h0 : 0 < x := (sel_ne x1 h5).1 fun e => ha (by rw [e] at x3; exact List.nil_perm.1 x3)
   have h3 : 0 < r.s - x := (sel_ne (by omega) h5).1 fun e => hb (by rw [e] at x4; exact List.nil_perm.1 x4)
   exact ⟨x, ⟨h0, by omega, x2⟩, x3, x4⟩
  generalize hxs : sel L r.s = xs at h key hl
  cases h with
  | nil => simp at hl; omega
  | one => simp at hl; omega
  | along h1 h3 hp ha hb k1 k2 =>
   rename_i us bs x
   obtain ⟨z, hz, z1, z2⟩ := key hp ha hb
   refine ⟨⟨⟨z, x, r.wi⟩, ⟨r.s - z, r.lo - x, r.wi⟩, x, 0⟩, mem_rooms.2 (.inl ⟨x.toNat, by omega, by omega, mem_long.2 ⟨z, hz, ?_⟩⟩), k1.perm z1, k2.perm z2⟩
   rw [show (x.toNat : Int) = x by omega]
  | across h1 h3 hp ha hb k1 k2 =>
   rename_i us bs x
   obtain ⟨z, hz, z1, z2⟩ := key hp ha hb
   refine ⟨⟨⟨z, r.lo, x⟩, ⟨r.s - z, r.lo, r.wi - x⟩, 0, x⟩, mem_rooms.2 (.inr ⟨x.toNat, by omega, by omega, mem_wide.2 ⟨z, hz, ?_⟩⟩), k1.perm z1, k2.perm z2⟩
   rw [show (x.toNat : Int) = x by omega]
 ·rintro ⟨q, hq, k1, k2⟩
  rcases mem_rooms.1 hq with ⟨k, h0, h1, hq⟩ | ⟨k, h0, h1, hq⟩
  ·obtain ⟨z, ⟨z1, z2, z3⟩, rfl⟩ := mem_long.1 hq
   exact .along (x := (k : Int)) (by omega) h1 (sel_perm L r.s z h32 (by omega) z3) ((sel_ne (by omega) h5).2 z1) ((sel_ne (by omega) h5).2 (by omega)) k1 k2
  ·obtain ⟨z, ⟨z1, z2, z3⟩, rfl⟩ := mem_wide.1 hq
   exact .across (y := (k : Int)) (by omega) h1 (sel_perm L r.s z h32 (by omega) z3) ((sel_ne (by omega) h5).2 z1) ((sel_ne (by omega) h5).2 (by omega)) k1 k2
theorem can_none {a c : Int} {L : List Pt} {r : Rm} (hs : r.s < 2 ^ L.length) (h5 : L.length ≤ 5) (h : popP r.s = 0) : canP a c L r := by
 have hl := sel_length_pop L r.s hs h5
 unfold canP
 rw [List.eq_nil_of_length_eq_zero (hl.trans h)]
 exact .nil
theorem can_one {a c : Int} {L : List Pt} {r : Rm} (hs : r.s < 2 ^ L.length) (h5 : L.length ≤ 5) (h : popP r.s = 1) : canP a c L r ↔ Fit a c (L.getD (onlyP r.s) default) r.lo r.wi := by
 unfold canP
 rw [(sel_one L r.s hs h5 h).1]
 exact Cut.single
theorem rooms_pop {r : Rm} {q : Two2} (hs : r.s < 32) (hq : q ∈ roomsP r) : (0 < q.a.s ∧ q.a.s < r.s ∧ q.a.s &&& r.s = q.a.s ∧ q.b.s = r.s - q.a.s) ∧ popP q.a.s < popP r.s ∧ popP q.b.s < popP r.s := by
 have key : ∀ s, s < 32 → ∀ x, x < 32 → (0 < x ∧ x < s ∧ x &&& s = x) → popP x < popP s ∧ popP (s - x) < popP s := by decide +kernel
 rcases mem_rooms.1 hq with ⟨k, h0, h1, hq⟩ | ⟨k, h0, h1, hq⟩
 ·obtain ⟨z, ⟨z1, z2, z3⟩, rfl⟩ := mem_long.1 hq
  exact ⟨⟨z1, z2, z3, rfl⟩, key _ hs z (by omega) ⟨z1, z2, z3⟩⟩
 ·obtain ⟨z, ⟨z1, z2, z3⟩, rfl⟩ := mem_wide.1 hq
  exact ⟨⟨z1, z2, z3, rfl⟩, key _ hs z (by omega) ⟨z1, z2, z3⟩⟩
theorem rooms_bd {r : Rm} {q : Two2} (h1 : 0 ≤ r.lo) (h2 : 0 ≤ r.wi) (hq : q ∈ roomsP r) : (0 ≤ q.a.lo ∧ q.a.lo ≤ r.lo ∧ 0 ≤ q.a.wi ∧ q.a.wi ≤ r.wi) ∧ (0 ≤ q.b.lo ∧ q.b.lo ≤ r.lo ∧ 0 ≤ q.b.wi ∧ q.b.wi ≤ r.wi) ∧ 0 ≤ q.x ∧ q.x ≤ r.lo ∧ 0 ≤ q.y ∧ q.y ≤ r.wi := by
 rcases mem_rooms.1 hq with ⟨k, h0, h3, hq⟩ | ⟨k, h0, h3, hq⟩
 ·obtain ⟨z, ⟨z1, z2, z3⟩, rfl⟩ := mem_long.1 hq
  dsimp only
  omega
 ·obtain ⟨z, ⟨z1, z2, z3⟩, rfl⟩ := mem_wide.1 hq
  dsimp only
  omega
theorem rooms_bd2 {r : Rm} {q : Two2} (h1 : 0 ≤ r.lo) (h2 : 0 ≤ r.wi) (hq : q ∈ roomsP r) : q.x + q.b.lo ≤ r.lo ∧ q.y + q.b.wi ≤ r.wi := by
 rcases mem_rooms.1 hq with ⟨k, h0, h3, hq⟩ | ⟨k, h0, h3, hq⟩
 ·obtain ⟨z, ⟨z1, z2, z3⟩, rfl⟩ := mem_long.1 hq
  dsimp only
  omega
 ·obtain ⟨z, ⟨z1, z2, z3⟩, rfl⟩ := mem_wide.1 hq
  dsimp only
  omega
theorem rooms_pow {r : Rm} {q : Two2} {n : Nat} (hs : r.s < 2 ^ n) (hn : n ≤ 5) (hq : q ∈ roomsP r) : q.a.s < 2 ^ n ∧ q.b.s < 2 ^ n := by
 have h32 : r.s < 32 := by have := Nat.pow_le_pow_right (n := 2) (by omega) hn; omega
 obtain ⟨⟨h1, h2, -, h3⟩, -, -⟩ := rooms_pop h32 hq
 omega
inductive Lay (a c : Int) (L : List Pt) : Rm → Int → Int → List (Nat × Spt) → Prop
 | none {r : Rm} {x y : Int} : popP r.s = 0 → Lay a c L r x y []
 | one {r : Rm} {x y : Int} : popP r.s = 1 → Lay a c L r x y [(onlyP r.s, ⟨x, y, (fitsP a c (L.getD (onlyP r.s) default) r.lo r.wi).1⟩)]
 | cut {r : Rm} {x y : Int} {q : Two2} {A B : List (Nat × Spt)} : 2 ≤ popP r.s → ((roomsP r).find? fun q => canB a c L q.a && canB a c L q.b) = some q → Lay a c L q.a x y A → Lay a c L q.b (x + q.x) (y + q.y) B → Lay a c L r x y (A ++ B)
theorem find_pre {α : Type} {p : α → Bool} {l0 L : List α} {q : α} (h : l0 ++ [q] <+: L) (h0 : ∀ x ∈ l0, p x = false) (hq : p q = true) : L.find? p = some q := by
 obtain ⟨t, rfl⟩ := h
 rw [List.append_assoc, List.find?_append, List.find?_eq_none.2 (fun x hx => by simp [h0 x hx])]
 simp [hq]
theorem pop_lt (s : Nat) : popP s < 6 := by unfold popP; omega
def putS (l : List Spt) (A : List (Nat × Spt)) : List Spt := A.foldl (fun l q => l.set q.1 q.2) l
theorem putS_length : ∀ (A : List (Nat × Spt)) (l : List Spt), (putS l A).length = l.length
 | [], l => rfl
 | q :: A, l => by
  show (putS (l.set q.1 q.2) A).length = _
  rw [putS_length A, List.length_set]
theorem putS_app (l : List Spt) (A B : List (Nat × Spt)) : putS (putS l A) B = putS l (A ++ B) := by simp [putS, List.foldl_append]
def pcE (p : Pt) : List Value := [.int .i64 p.l, .int .i64 p.w, .bool p.gr, .int .i64 p.pa]
def pc (l : List Pt) : List Value := l.flatMap pcE
theorem pc_length (l : List Pt) : (pc l).length = l.length * 4 := by
 induction l with
 | nil => rfl
 | cons x l ih =>
  show (pcE x ++ pc l).length = _
  rw [List.length_append, ih, List.length_cons]
  show 4 + _ = _
  omega
theorem pc_get : ∀ (l : List Pt) (k : Nat) {x : Pt}, l[k]? = some x → ∀ (i : Nat) (v : Value), (pcE x)[i]? = some v → (pc l)[k * 4 + i]? = some v
 | [], k, x, h => by simp at h
 | y :: l, 0, x, h => by
  intro i v hv
  simp only [List.getElem?_cons_zero, Option.some.injEq] at h
  subst h
  show (pcE y ++ pc l)[0 * 4 + i]? = some v
  rw [Nat.zero_mul, Nat.zero_add, List.getElem?_append_left (List.getElem?_eq_some_iff.1 hv).1]
  exact hv
 | y :: l, k + 1, x, h => by
  intro i v hv
  have := pc_get l k (by simpa using h) i v hv
  show (pcE y ++ pc l)[(k + 1) * 4 + i]? = some v
  have e : (pcE y).length = 4 := rfl
  rw [List.getElem?_append_right (by rw [e]; omega), e, show (k + 1) * 4 + i - 4 = k * 4 + i by omega]
  exact this
theorem pc_snoc (l : List Pt) (p : Pt) : pc l ++ [.int .i64 p.l, .int .i64 p.w, .bool p.gr, .int .i64 p.pa] = pc (l ++ [p]) := by simp [pc, pcE]
theorem pc_next {l : List Pt} {k : Nat} (h : k < l.length) : ∃ x, l[k]? = some x ∧ l.drop k = x :: l.drop (k + 1) := ⟨l[k], List.getElem?_eq_getElem h, List.drop_eq_getElem_cons h⟩
section
variable {w w' : World} {ex : Nat → Prop} {I L : List (Nat × BA)} {n b o k : Nat} {A : Option Addr} {l : List Pt} {p : Pt}
theorem Sp.pcA (S : Sp w ex I A n 4 b o (pc l)) (M : Mem w ex w' L) (hI : I.Sublist L) (h : l[k]? = some p) (f : Nat) (v : Value) (hv : (pcE p)[f]? = some v) : w'.cell? ⟨b, o + k * 4 + f, none⟩ = some v := by
 have := S.cell w' L M hI _ _ (pc_get l k h f v hv)
 rwa [← Nat.add_assoc] at this
theorem Sp.pcR (S : Sp w ex I A n 4 b o (pc l)) (M : Mem w ex w' L) (hI : I.Sublist L) (h : l[k]? = some p) : w'.rangeAt b (o + k * 4) [.int .i64 p.l, .int .i64 p.w, .bool p.gr, .int .i64 p.pa] := fun j v hv => S.pcA M hI h j v hv
end
def tcE (p : Spt) : List Value := [.int .i64 p.x, .int .i64 p.y, .bool p.t]
def tc (l : List Spt) : List Value := l.flatMap tcE
theorem tc_length (l : List Spt) : (tc l).length = l.length * 3 := by
 induction l with
 | nil => rfl
 | cons x l ih =>
  show (tcE x ++ tc l).length = _
  rw [List.length_append, ih, List.length_cons]
  show 3 + _ = _
  omega
theorem tc_get : ∀ (l : List Spt) (k : Nat) {x : Spt}, l[k]? = some x → ∀ (i : Nat) (v : Value), (tcE x)[i]? = some v → (tc l)[k * 3 + i]? = some v
 | [], k, x, h => by simp at h
 | y :: l, 0, x, h => by
  intro i v hv
  simp only [List.getElem?_cons_zero, Option.some.injEq] at h
  subst h
  show (tcE y ++ tc l)[0 * 3 + i]? = some v
  rw [Nat.zero_mul, Nat.zero_add, List.getElem?_append_left (List.getElem?_eq_some_iff.1 hv).1]
  exact hv
 | y :: l, k + 1, x, h => by
  intro i v hv
  have := tc_get l k (by simpa using h) i v hv
  show (tcE y ++ tc l)[(k + 1) * 3 + i]? = some v
  have e : (tcE y).length = 3 := rfl
  rw [List.getElem?_append_right (by rw [e]; omega), e, show (k + 1) * 3 + i - 3 = k * 3 + i by omega]
  exact this
theorem tc_next {l : List Spt} {k : Nat} (h : k < l.length) : ∃ x, l[k]? = some x ∧ l.drop k = x :: l.drop (k + 1) := ⟨l[k], List.getElem?_eq_getElem h, List.drop_eq_getElem_cons h⟩
section
variable {w w' : World} {ex : Nat → Prop} {I L : List (Nat × BA)} {n b o k : Nat} {A : Option Addr} {l : List Spt} {p : Spt}
theorem Sp.tcA (S : Sp w ex I A n 3 b o (tc l)) (M : Mem w ex w' L) (hI : I.Sublist L) (h : l[k]? = some p) (f : Nat) (v : Value) (hv : (tcE p)[f]? = some v) : w'.cell? ⟨b, o + k * 3 + f, none⟩ = some v := by
 have := S.cell w' L M hI _ _ (tc_get l k h f v hv)
 rwa [← Nat.add_assoc] at this
theorem Sp.tcR (S : Sp w ex I A n 3 b o (tc l)) (M : Mem w ex w' L) (hI : I.Sublist L) (h : l[k]? = some p) : w'.rangeAt b (o + k * 3) [.int .i64 p.x, .int .i64 p.y, .bool p.t] := fun j v hv => S.tcA M hI h j v hv
theorem Sp.tcC0 (S : Sp w ex I A n 3 b o (tc l)) (M : Mem w ex w' L) (hI : I.Sublist L) (h : l[k]? = some p) : w'.cell? ⟨b, o + k * 3 + 0, none⟩ = some (.int .i64 p.x) := S.tcA M hI h 0 _ rfl
theorem Sp.tcC1 (S : Sp w ex I A n 3 b o (tc l)) (M : Mem w ex w' L) (hI : I.Sublist L) (h : l[k]? = some p) : w'.cell? ⟨b, o + k * 3 + 1, none⟩ = some (.int .i64 p.y) := S.tcA M hI h 1 _ rfl
theorem Sp.tcC2 (S : Sp w ex I A n 3 b o (tc l)) (M : Mem w ex w' L) (hI : I.Sublist L) (h : l[k]? = some p) : w'.cell? ⟨b, o + k * 3 + 2, none⟩ = some (.bool p.t) := S.tcA M hI h 2 _ rfl
end
def ptErr (p : Pt) : Int := if (withinB p.l 1 12 && withinB p.w 1 12 && withinB p.pa 0 3) = true then 0 else 1
def ptsErr : List Pt → Int
 | [] => 0
 | p :: l => if ptErr p = 0 then ptsErr l else ptErr p
def skErr (s : Sk) : Int :=
 if (withinB s.lo 1 12 && withinB s.wi 1 12) = false then 1 else if chkR s.a0 s.a1 0 2 ≠ 0 then chkR s.a0 s.a1 0 2 else if chkR s.c0 s.c1 0 2 ≠ 0 then chkR s.c0 s.c1 0 2
 else if 5 < s.ps.length then 6 else ptsErr s.ps
structure Pt.good (p : Pt) : Prop where
 l : 1 ≤ p.l ∧ p.l ≤ 12
 w : 1 ≤ p.w ∧ p.w ≤ 12
 pa : 0 ≤ p.pa ∧ p.pa ≤ 3
structure Sk.good (s : Sk) : Prop where
 lo : 1 ≤ s.lo ∧ s.lo ≤ 12
 wi : 1 ≤ s.wi ∧ s.wi ≤ 12
 a : 0 ≤ s.a0 ∧ s.a0 ≤ s.a1 ∧ s.a1 ≤ 2
 c : 0 ≤ s.c0 ∧ s.c0 ≤ s.c1 ∧ s.c1 ≤ 2
 len : s.ps.length ≤ 5
 ps : ∀ p ∈ s.ps, p.good
theorem ptErr_iff {p : Pt} : ptErr p = 0 ↔ p.good := by
 have e : (withinB p.l 1 12 && withinB p.w 1 12 && withinB p.pa 0 3) = true ↔ ((1 ≤ p.l ∧ p.l ≤ 12) ∧ 1 ≤ p.w ∧ p.w ≤ 12) ∧ 0 ≤ p.pa ∧ p.pa ≤ 3 := by
  rw [Bool.and_eq_true, Bool.and_eq_true, withinB, withinB, withinB, decide_eq_true_eq, decide_eq_true_eq, decide_eq_true_eq]
 unfold ptErr
 constructor
 ·intro h
  split at h
  ·rename_i h1
   obtain ⟨⟨h1, h2⟩, h3⟩ := e.1 h1
   exact ⟨h1, h2, h3⟩
  ·omega
 ·rintro ⟨h1, h2, h3⟩
  rw [if_pos (e.2 ⟨⟨h1, h2⟩, h3⟩)]
theorem ptsErr_iff : ∀ {l : List Pt}, ptsErr l = 0 ↔ ∀ p ∈ l, p.good
 | [] => by simp [ptsErr]
 | p :: l => by
  unfold ptsErr
  constructor
  ·intro h
   split at h
   ·rename_i h1
    intro q hq
    rcases List.mem_cons.1 hq with rfl | hq
    ·exact ptErr_iff.1 h1
    ·exact ptsErr_iff.1 h q hq
   ·contradiction
  ·intro h
   rw [if_pos (ptErr_iff.2 (h p Zz2))]
   exact ptsErr_iff.2 fun q hq => h q (Zz1 hq)
theorem chkR_iff {x y a b : Int} : chkR x y a b = 0 ↔ a ≤ x ∧ x ≤ y ∧ y ≤ b := by
 have e : (withinB x a b = true ∧ withinB y a b = true) ↔ (a ≤ x ∧ x ≤ b) ∧ a ≤ y ∧ y ≤ b := by rw [withinB, withinB, decide_eq_true_eq, decide_eq_true_eq]
 unfold chkR
 split
 ·rename_i h
  have h := e.1 h
  split <;> omega
 ·rename_i h
  have h := fun k => h (e.2 k)
  constructor
  ·intro h; omega
  ·intro k; exact absurd (h (by omega)) (by simp)
theorem skErr_iff {s : Sk} : skErr s = 0 ↔ s.good := by
 unfold skErr
 constructor
 ·intro h
  split at h
  ·contradiction
  ·split at h
   ·contradiction
   ·split at h
    ·contradiction
    ·split at h
     ·contradiction
     ·rename_i h1 h2 h3 h4
      have h1 : (withinB s.lo 1 12 && withinB s.wi 1 12) = true := by simpa using h1
      rw [Bool.and_eq_true, withinB, withinB, decide_eq_true_eq, decide_eq_true_eq] at h1
      exact ⟨h1.1, h1.2, chkR_iff.1 (by omega), chkR_iff.1 (by omega), by omega, ptsErr_iff.1 h⟩
 ·rintro ⟨h1, h2, h3, h4, h5, h6⟩
  have e : (withinB s.lo 1 12 && withinB s.wi 1 12) = true := by rw [Bool.and_eq_true, withinB, withinB, decide_eq_true_eq, decide_eq_true_eq]; exact ⟨h1, h2⟩
  rw [if_neg (by rw [e]; simp), if_neg (by simp [chkR_iff.2 h3]), if_neg (by simp [chkR_iff.2 h4]), if_neg (by omega)]
  exact ptsErr_iff.2 h6
def areaP (a c : Int) (p : Pt) : Int := if p.gr = true then sizeL a c p false * sizeW a c p false else min (sizeL a c p false * sizeW a c p false) (sizeL a c p true * sizeW a c p true)
def areasP (a c : Int) : List Pt → Int
 | [] => 0
 | p :: l => areaP a c p + areasP a c l
theorem sin_any (n lo hi : Int) (w : World)  :
   Calls Tryz.prog 133 #[.int .i64 n, .int .i64 lo, .int .i64 hi] w fun e w' => e = .returned (.bool (withinB n lo hi)) ∧ Below w.heap.size w w' := by
 refine Zpx noEx Tryz.func133 rfl 15 rfl [.int .i64 n, .int .i64 lo, .int .i64 hi] rfl rfl (Mem.init w _) ?_
 intro ac wc T M
 refine Zsr ?_
 refine lq T (Zra rfl evc) ?_; clear T ac; intro ac T
 replace T := T.pick [1, 2, 3] rfl
 refine Zln ?_
 refine cut_seq (fun ac wc => Tm ac 15 [(6, .bool ((decide (lo ≤ n)) && (decide (n ≤ hi))))] ∧ Mem w noEx wc []) ?_ ?_
 ·refine wp_region_lit ?_
  refine Zg4 T (Zq (Zrm rfl (T.e 1 rfl))) rfl (Zm 1 rfl rfl) rfl (fun _ T => Zq (rn_leq rfl (T.e 1 rfl) (T.e 0 rfl))) rfl (Zm 0 rfl rfl) rfl ?_; clear T ac; intro ac T
  rcases Bool.eq_false_or_eq_true (decide (lo ≤ n)) with h1 | h1
  ·replace h1 := of_decide_eq_true h1
   refine Zg5 T (Zw (Zwy rfl rfl (T.e 0 rfl) (Zdt h1)) (Zrm rfl (T.e 4 rfl))) rfl (fun _ T => Zw (Zwy rfl rfl (T.e 1 rfl) (Zdt h1)) (Zrm rfl (T.e 7 rfl))) rfl (fun _ T => Zw (Zwy rfl rfl (T.e 2 rfl) (Zdt h1)) (rn_leq rfl (T.e 1 rfl) (T.e 0 rfl))) rfl (fun _ T => Zq (Zr1 rfl (T.e 3 rfl) (Zdt h1) (T.e 0 rfl))) rfl (Za 0 rfl rfl) rfl ?_; clear T ac; intro ac T
   refine wpList_nil ?_
   replace T := T.pick [0] rfl
   exact ⟨(T.pick (E' := [(6, .bool (decide (n ≤ hi)))]) [0] rfl).as (by (try rw [show (decide (lo ≤ n)) = true from (Zdt h1)]); (try rfl)), M.mask [] rfl⟩
  replace h1 := of_decide_eq_false h1
  refine Zg5 T (Zp (Zwn rfl rfl (T.e 0 rfl) (Zdf h1))) rfl (fun _ T => Zp (Zwn rfl rfl (T.e 1 rfl) (Zdf h1))) rfl (fun _ T => Zp (Zwn rfl rfl (T.e 2 rfl) (Zdf h1))) rfl (fun _ T => Zq (Zr0 rfl (T.e 3 rfl) (Zdf h1) evc)) rfl (Za 0 rfl rfl) rfl ?_; clear T ac; intro ac T
  refine wpList_nil ?_
  replace T := T.pick [0] rfl
  exact ⟨(T.pick (E' := [(6, .bool false)]) [0] rfl).as (by (try rw [show (decide (lo ≤ n)) = false from (Zdf h1)]); (try rfl)), M.mask [] rfl⟩
 clear T M
 rintro ac wc ⟨T, M⟩
 refine wp_ret ?_
 refine rt_1 T rfl (T.e 0 rfl) ?_
 exact ⟨ret_bool (by unfold withinB; simp), M.below⟩
theorem checkShrink_any (x y : Int) (w : World)  :
   Calls Tryz.prog 137 #[.agg #[.int .i64 x, .int .i64 y]] w fun e w' => e = .returned (.int .i64 (chkR x y 0 2)) ∧ Below w.heap.size w w' := by
 refine Zpx noEx Tryz.func137 rfl 18 rfl [.agg #[.int .i64 x, .int .i64 y]] rfl rfl (Mem.init w _) ?_
 intro ac wc T M
 refine Zsr ?_
 refine Zl2 ?_
 refine Zob M T rfl rfl rfl rfl (T.e 0 rfl) rfl ?_; clear M T; intro g1 wc ac M T
 refine lq T (Zra rfl evc) ?_; clear T ac; intro ac T
 replace T := T.pick [1] rfl
 refine Zln ?_
 refine wp_seq ?_
 refine wp_block ?_
 refine wp_seq ?_
 refine Zsr ?_
 refine Zg2 (v1 := (.pointer (some ⟨g1, 0, none⟩))) T (Zq (Zrf (off := 0) rfl (T.e 0 rfl) (fun _ _ _ => by kernel_rfl))) rfl (Zo M 0 0 rfl rfl rfl rfl) rfl ?_; clear T ac; intro ac T
 refine Zl2 ?_
 refine Zoc (first := []) (cap := []) T rfl rfl rfl rfl evf (.cons (T.e 0 rfl) (.cons evc (.cons evc .nil))) Tryz.func133 rfl rfl ?_
 refine Calls.mono (sin_any x 0 2 _) ?_
 clear T; rintro e wc ⟨rfl, hb⟩ ac T
 replace M := M.call hb; clear hb
 refine Zg2 T (Zq (rn_not rfl (T.e 0 rfl))) rfl (Za 0 rfl rfl) rfl ?_; clear T ac; intro ac T
 replace T := T.pick [0, 5] rfl
 refine Zln ?_
 refine wp_cond_split (T.e 0 rfl) ?_ ?_
 ·intro h1
  (have h1' := h1; try simp only [Zb1, Zb2, Zb3, Zb4, Zb5, Zb6, Zb7] at h1')
  refine Zsk ?_
  refine wp_cond_true ((T.e 0 rfl).trans (congrArg Value.bool h1)) ?_
  refine Zsr ?_
  refine lq T (Zra rfl evc) ?_; clear T ac; intro ac T
  refine wpList_nil ?_
  replace T := T.pick [0] rfl
  replace M := M.mask [false] rfl
  refine Znr ?_
  refine Zrb ?_
  refine Zrt ?_
  refine rt_1 T rfl (T.e 0 rfl) ?_
  refine ⟨ret_int ?_, M.below⟩
  unfold chkR
  (repeat' split) <;> first | rfl | omega | contradiction | (simp_all; done) | (simp_all; omega)
 intro h1
 (have h1' := h1; try simp only [Zb1, Zb2, Zb3, Zb4, Zb5, Zb6, Zb7] at h1')
 refine wp_region_lit ?_
 refine Zg2 (v1 := (.pointer (some ⟨g1, 1, none⟩))) T (Zq (Zrf (off := 1) rfl (T.e 1 rfl) (fun _ _ _ => by kernel_rfl))) rfl (Zo M 0 0 rfl rfl rfl rfl) rfl ?_; clear T ac; intro ac T
 refine Zl2 ?_
 refine Zoc (first := []) (cap := []) T rfl rfl rfl rfl evf (.cons (T.e 0 rfl) (.cons evc (.cons evc .nil))) Tryz.func133 rfl rfl ?_
 refine Calls.mono (sin_any y 0 2 _) ?_
 clear T; rintro e wc ⟨rfl, hb⟩ ac T
 replace M := M.call hb; clear hb
 refine lq T (rn_not rfl (T.e 0 rfl)) ?_; clear T ac; intro ac T
 refine l_q (v := (.bool (!(withinB y 0 2)))) (T.pick [0, 1, 2, 3, 5] rfl) rfl rfl rfl rfl (Zra rfl (T.e 0 rfl)) ?_; clear T ac; intro ac T
 replace T := T.pick [0, 5] rfl
 refine Zln ?_
 refine wp_cond_split (T.e 0 rfl) ?_ ?_
 ·intro h2
  (have h2' := h2; try simp only [Zb1, Zb2, Zb3, Zb4, Zb5, Zb6, Zb7] at h2')
  refine Zsr ?_
  refine lq T (Zra rfl evc) ?_; clear T ac; intro ac T
  refine wpList_nil ?_
  replace T := T.pick [0] rfl
  replace M := M.mask [false] rfl
  refine Znr ?_
  refine Zrb ?_
  refine Zrt ?_
  refine rt_1 T rfl (T.e 0 rfl) ?_
  refine ⟨ret_int ?_, M.below⟩
  unfold chkR
  (repeat' split) <;> first | rfl | omega | contradiction | (simp_all; done) | (simp_all; omega)
 intro h2
 (have h2' := h2; try simp only [Zb1, Zb2, Zb3, Zb4, Zb5, Zb6, Zb7] at h2')
 refine Zsr ?_
 refine Zg6 (v1 := (.pointer (some ⟨g1, 0, none⟩))) (v3 := (.pointer (some ⟨g1, 1, none⟩))) T (Zq (Zrf (off := 0) rfl (T.e 1 rfl) (fun _ _ _ => by kernel_rfl))) rfl (Zo M 0 0 rfl rfl rfl rfl) rfl (Zf 1 3 rfl rfl) rfl (Zo M 0 0 rfl rfl rfl rfl) rfl (fun _ T => Zq (rn_gtr rfl (T.e 2 rfl) (T.e 0 rfl))) rfl (Za 0 rfl rfl) rfl ?_; clear T ac; intro ac T
 refine wpList_nil ?_
 replace T := T.pick [0] rfl
 replace M := M.mask [false] rfl
 refine nm_then ?_
 refine wp_if (T.e 0 rfl) ?_ ?_
 ·intro h3
  refine Zsr ?_
  refine lq T (Zra rfl evc) ?_; clear T ac; intro ac T
  replace T := T.pick [0] rfl
  refine Zln ?_
  refine wp_ret ?_
  refine Zrb ?_
  refine Zrt ?_
  refine rt_1 T rfl (T.e 0 rfl) ?_
  refine ⟨ret_int ?_, M.below⟩
  unfold chkR
  (repeat' split) <;> first | rfl | omega | contradiction | (simp_all; done) | (simp_all; omega)
 intro h3
 refine wp_skip ?_
 refine Znb ?_
 refine nm_then ?_
 refine Zsr ?_
 refine lq T (Zra rfl evc) ?_; clear T ac; intro ac T
 replace T := T.pick [0] rfl
 refine Zln ?_
 refine wp_ret ?_
 refine rt_1 T rfl (T.e 0 rfl) ?_
 refine ⟨ret_int ?_, M.below⟩
 unfold chkR
 (repeat' split) <;> first | rfl | omega | contradiction | (simp_all; done) | (simp_all; omega)
theorem checkPart_any (p : Pt) (w : World)  :
   Calls Tryz.prog 131 #[.agg #[.int .i64 p.l, .int .i64 p.w, .bool p.gr, .int .i64 p.pa]] w fun e w' => e = .returned (.int .i64 (ptErr p)) ∧ Below w.heap.size w w' := by
 refine Zpx noEx Tryz.func131 rfl 19 rfl [.agg #[.int .i64 p.l, .int .i64 p.w, .bool p.gr, .int .i64 p.pa]] rfl rfl (Mem.init w _) ?_
 intro ac wc T M
 refine Zsr ?_
 refine Zl2 ?_
 refine Zob M T rfl rfl rfl rfl (T.e 0 rfl) rfl ?_; clear M T; intro g1 wc ac M T
 refine lq T (Zra rfl evc) ?_; clear T ac; intro ac T
 replace T := T.pick [1] rfl
 refine Zln ?_
 refine wp_seq ?_
 refine cut_seq (fun ac wc => Tm ac 19 [(18, .bool ((!(withinB p.l 1 12)) || ((!(withinB p.w 1 12)) || (!(withinB p.pa 0 3)))))] ∧ Mem w noEx wc []) ?_ ?_
 ·refine wp_region_lit ?_
  refine Zg2 (v1 := (.pointer (some ⟨g1, 0, none⟩))) T (Zq (Zrf (off := 0) rfl (T.e 0 rfl) (fun _ _ _ => by kernel_rfl))) rfl (Zo M 0 0 rfl rfl rfl rfl) rfl ?_; clear T ac; intro ac T
  refine Zl2 ?_
  refine Zoc (first := []) (cap := []) T rfl rfl rfl rfl evf (.cons (T.e 0 rfl) (.cons evc (.cons evc .nil))) Tryz.func133 rfl rfl ?_
  refine Calls.mono (sin_any p.l 1 12 _) ?_
  clear T; rintro e wc ⟨rfl, hb⟩ ac T
  replace M := M.call hb; clear hb
  refine Zg2 T (Zq (rn_not rfl (T.e 0 rfl))) rfl (Zm 0 rfl rfl) rfl ?_; clear T ac; intro ac T
  rcases Bool.eq_false_or_eq_true (!(withinB p.l 1 12)) with h1 | h1
  ·refine Zg8 T (Zp (Zwn rfl rfl (T.e 0 rfl) h1)) rfl (fun _ T => Zp (Zwn rfl rfl (T.e 1 rfl) h1)) rfl (fun _ T => Zp (Zwn rfl rfl (T.e 2 rfl) h1)) rfl (fun _ T => Zp (Zwn rfl rfl (T.e 3 rfl) h1)) rfl (fun _ T => Zq (Zr1 rfl (T.e 4 rfl) h1 evc)) rfl (Zm 0 rfl rfl) rfl (fun _ T => Zp (Zwn rfl rfl (T.e 0 rfl) rfl)) rfl (fun _ T => Zp (Zwn rfl rfl (T.e 1 rfl) rfl)) rfl ?_; clear T ac; intro ac T
   refine Zg3 T (Zp (Zwn rfl rfl (T.e 2 rfl) rfl)) rfl (fun _ T => Zp (Zwn rfl rfl (T.e 3 rfl) rfl)) rfl (fun _ T => Zq (Zr1 rfl (T.e 4 rfl) rfl evc)) rfl ?_; clear T ac; intro ac T
   refine wpList_nil ?_
   replace T := T.pick [0] rfl
   replace M := M.mask [false] rfl
   exact ⟨(T.pick (E' := [(18, .bool true)]) [0] rfl).as (by (try rw [show (!(withinB p.l 1 12)) = true from h1]); (try rfl)), M.mask [] rfl⟩
  refine Zg2 (v1 := (.pointer (some ⟨g1, 1, none⟩))) T (Zw (Zwy rfl rfl (T.e 0 rfl) h1) (Zrf (off := 1) rfl (T.e 5 rfl) (fun _ _ _ => by kernel_rfl))) rfl (fun _ T => Zw (Zwy rfl rfl (T.e 1 rfl) h1) (Zro (Mem.nth M 0 rfl) rfl (T.e 0 rfl) rfl)) rfl ?_; clear T ac; intro ac T
  refine l_w (Zwy rfl rfl (T.e 2 rfl) h1) ?_; intro K hK
  refine Zoc (first := []) (cap := []) T rfl rfl rfl rfl evf (.cons (T.e 0 rfl) (.cons evc (.cons evc .nil))) Tryz.func133 rfl rfl ?_
  refine Calls.mono (sin_any p.w 1 12 _) ?_
  clear T; rintro e wc ⟨rfl, hb⟩ ac T
  replace M := M.call hb; clear hb
  refine Zso hK _ _ ?_; clear hK K
  refine Zg3 T (Zw (Zwy rfl rfl (T.e 3 rfl) h1) (rn_not rfl (T.e 0 rfl))) rfl (fun _ T => Zq (Zr0 rfl (T.e 4 rfl) h1 (T.e 0 rfl))) rfl (Zm 0 rfl rfl) rfl ?_; clear T ac; intro ac T
  rcases Bool.eq_false_or_eq_true (!(withinB p.w 1 12)) with h2 | h2
  ·refine Zg5 T (Zp (Zwn rfl rfl (T.e 0 rfl) h2)) rfl (fun _ T => Zp (Zwn rfl rfl (T.e 1 rfl) h2)) rfl (fun _ T => Zp (Zwn rfl rfl (T.e 2 rfl) h2)) rfl (fun _ T => Zp (Zwn rfl rfl (T.e 3 rfl) h2)) rfl (fun _ T => Zq (Zr1 rfl (T.e 4 rfl) h2 evc)) rfl ?_; clear T ac; intro ac T
   refine wpList_nil ?_
   replace T := T.pick [0] rfl
   replace M := M.mask [false] rfl
   exact ⟨(T.pick (E' := [(18, .bool true)]) [0] rfl).as (by (try rw [show (!(withinB p.l 1 12)) = false from h1]); (try rw [show (!(withinB p.w 1 12)) = true from h2]); (try rfl)), M.mask [] rfl⟩
  refine Zg2 (v1 := (.pointer (some ⟨g1, 3, none⟩))) T (Zw (Zwy rfl rfl (T.e 0 rfl) h2) (Zrf (off := 3) rfl (T.e 11 rfl) (fun _ _ _ => by kernel_rfl))) rfl (fun _ T => Zw (Zwy rfl rfl (T.e 1 rfl) h2) (Zro (Mem.nth M 0 rfl) rfl (T.e 0 rfl) rfl)) rfl ?_; clear T ac; intro ac T
  refine l_w (Zwy rfl rfl (T.e 2 rfl) h2) ?_; intro K hK
  refine Zoc (first := []) (cap := []) T rfl rfl rfl rfl evf (.cons (T.e 0 rfl) (.cons evc (.cons evc .nil))) Tryz.func133 rfl rfl ?_
  refine Calls.mono (sin_any p.pa 0 3 _) ?_
  clear T; rintro e wc ⟨rfl, hb⟩ ac T
  replace M := M.call hb; clear hb
  refine Zso hK _ _ ?_; clear hK K
  refine Zg2 T (Zw (Zwy rfl rfl (T.e 3 rfl) h2) (rn_not rfl (T.e 0 rfl))) rfl (fun _ T => Zq (Zr0 rfl (T.e 4 rfl) h2 (T.e 0 rfl))) rfl ?_; clear T ac; intro ac T
  refine wpList_nil ?_
  replace T := T.pick [0] rfl
  replace M := M.mask [false] rfl
  exact ⟨(T.pick (E' := [(18, .bool (!(withinB p.pa 0 3)))]) [0] rfl).as (by (try rw [show (!(withinB p.l 1 12)) = false from h1]); (try rw [show (!(withinB p.w 1 12)) = false from h2]); (try rfl)), M.mask [] rfl⟩
 clear T M
 rintro ac wc ⟨T, M⟩
 refine wp_cond_split (T.e 0 rfl) ?_ ?_
 ·intro h3
  (have h3' := h3; try simp only [Zb1, Zb2, Zb3, Zb4, Zb5, Zb6, Zb7] at h3')
  refine Zsr ?_
  refine lq T (Zra rfl evc) ?_; clear T ac; intro ac T
  replace T := T.pick [0] rfl
  refine Zln ?_
  refine wp_ret ?_
  refine Zrt ?_
  refine rt_1 T rfl (T.e 0 rfl) ?_
  refine ⟨ret_int ?_, M.below⟩
  unfold ptErr
  rcases Bool.eq_false_or_eq_true (withinB p.l 1 12) with a1 | a1 <;> rcases Bool.eq_false_or_eq_true (withinB p.w 1 12) with a2 | a2 <;> rcases Bool.eq_false_or_eq_true (withinB p.pa 0 3) with a3 | a3 <;> simp_all
 intro h3
 (have h3' := h3; try simp only [Zb1, Zb2, Zb3, Zb4, Zb5, Zb6, Zb7] at h3')
 refine Zsk ?_
 refine Zsr ?_
 refine lq T (Zra rfl evc) ?_; clear T ac; intro ac T
 replace T := T.pick [0] rfl
 refine Zln ?_
 refine wp_ret ?_
 refine rt_1 T rfl (T.e 0 rfl) ?_
 refine ⟨ret_int ?_, M.below⟩
 unfold ptErr
 rcases Bool.eq_false_or_eq_true (withinB p.l 1 12) with a1 | a1 <;> rcases Bool.eq_false_or_eq_true (withinB p.w 1 12) with a2 | a2 <;> rcases Bool.eq_false_or_eq_true (withinB p.pa 0 3) with a3 | a3 <;> simp_all
theorem skCheck_any (s : Sk) (A : Option Addr) (c : Nat)  (w : World) (hA : Rd w w.heap.size 4 A s.ps.length (pc s.ps)) (nA : s.ps.length ≤ 1000000)  :
   Calls Tryz.prog 66 #[.agg #[.int .i64 s.lo, .int .i64 s.wi, .int .i64 s.a0, .int .i64 s.a1, .int .i64 s.c0, .int .i64 s.c1, .slice A s.ps.length c]] w fun e w' => e = .returned (.int .i64 (skErr s)) ∧ Below w.heap.size w w' := by
 obtain ⟨bA, oA, SA⟩ := Sp.old hA
 refine Zpx noEx Tryz.func66 rfl 47 rfl [.agg #[.int .i64 s.lo, .int .i64 s.wi, .int .i64 s.a0, .int .i64 s.a1, .int .i64 s.c0, .int .i64 s.c1, .slice A s.ps.length c]] rfl rfl (Mem.init w _) ?_
 intro ac wc T M
 refine Zsr ?_
 refine Zl2 ?_
 refine Zob M T rfl rfl rfl rfl (T.e 0 rfl) rfl ?_; clear M T; intro g1 wc ac M T
 refine lq T (Zra rfl evc) ?_; clear T ac; intro ac T
 replace T := T.pick [1] rfl
 refine Zln ?_
 refine wp_seq ?_
 refine cut_seq (fun ac wc => Tm ac 47 [(1, .pointer (some ⟨g1, 0, none⟩)), (17, .bool ((!(withinB s.lo 1 12)) || (!(withinB s.wi 1 12))))] ∧ Mem w noEx wc [(g1, .cells [.int .i64 s.lo, .int .i64 s.wi, .int .i64 s.a0, .int .i64 s.a1, .int .i64 s.c0, .int .i64 s.c1, .slice A s.ps.length c])]) ?_ ?_
 ·refine wp_region_lit ?_
  refine Zg2 (v1 := (.pointer (some ⟨g1, 0, none⟩))) T (Zq (Zrf (off := 0) rfl (T.e 0 rfl) (fun _ _ _ => by kernel_rfl))) rfl (Zo M 0 0 rfl rfl rfl rfl) rfl ?_; clear T ac; intro ac T
  refine Zl2 ?_
  refine Zoc (first := []) (cap := []) T rfl rfl rfl rfl evf (.cons (T.e 0 rfl) (.cons evc (.cons evc .nil))) Tryz.func133 rfl rfl ?_
  refine Calls.mono (sin_any s.lo 1 12 _) ?_
  clear T; rintro e wc ⟨rfl, hb⟩ ac T
  replace M := M.call hb; clear hb
  refine Zg2 T (Zq (rn_not rfl (T.e 0 rfl))) rfl (Zm 0 rfl rfl) rfl ?_; clear T ac; intro ac T
  rcases Bool.eq_false_or_eq_true (!(withinB s.lo 1 12)) with h1 | h1
  ·refine Zg5 T (Zp (Zwn rfl rfl (T.e 0 rfl) h1)) rfl (fun _ T => Zp (Zwn rfl rfl (T.e 1 rfl) h1)) rfl (fun _ T => Zp (Zwn rfl rfl (T.e 2 rfl) h1)) rfl (fun _ T => Zp (Zwn rfl rfl (T.e 3 rfl) h1)) rfl (fun _ T => Zq (Zr1 rfl (T.e 4 rfl) h1 evc)) rfl ?_; clear T ac; intro ac T
   refine wpList_nil ?_
   replace T := T.pick [0, 10] rfl
   exact ⟨(T.pick (E' := [(1, .pointer (some ⟨g1, 0, none⟩)), (17, .bool true)]) [1, 0] rfl).as (by (try rw [show (!(withinB s.lo 1 12)) = true from h1]); (try rfl)), M.mask [true] rfl⟩
  refine Zg2 (v1 := (.pointer (some ⟨g1, 1, none⟩))) T (Zw (Zwy rfl rfl (T.e 0 rfl) h1) (Zrf (off := 1) rfl (T.e 5 rfl) (fun _ _ _ => by kernel_rfl))) rfl (fun _ T => Zw (Zwy rfl rfl (T.e 1 rfl) h1) (Zro (Mem.nth M 0 rfl) rfl (T.e 0 rfl) rfl)) rfl ?_; clear T ac; intro ac T
  refine l_w (Zwy rfl rfl (T.e 2 rfl) h1) ?_; intro K hK
  refine Zoc (first := []) (cap := []) T rfl rfl rfl rfl evf (.cons (T.e 0 rfl) (.cons evc (.cons evc .nil))) Tryz.func133 rfl rfl ?_
  refine Calls.mono (sin_any s.wi 1 12 _) ?_
  clear T; rintro e wc ⟨rfl, hb⟩ ac T
  replace M := M.call hb; clear hb
  refine Zso hK _ _ ?_; clear hK K
  refine Zg2 T (Zw (Zwy rfl rfl (T.e 3 rfl) h1) (rn_not rfl (T.e 0 rfl))) rfl (fun _ T => Zq (Zr0 rfl (T.e 4 rfl) h1 (T.e 0 rfl))) rfl ?_; clear T ac; intro ac T
  refine wpList_nil ?_
  replace T := T.pick [0, 10] rfl
  exact ⟨(T.pick (E' := [(1, .pointer (some ⟨g1, 0, none⟩)), (17, .bool (!(withinB s.wi 1 12)))]) [1, 0] rfl).as (by (try rw [show (!(withinB s.lo 1 12)) = false from h1]); (try rfl)), M.mask [true] rfl⟩
 clear T M
 rintro ac wc ⟨T, M⟩
 refine wp_cond_split (T.e 1 rfl) ?_ ?_
 ·intro h2
  (have h2' := h2; try simp only [Zb1, Zb2, Zb3, Zb4, Zb5, Zb6, Zb7] at h2')
  refine Zsr ?_
  refine lq T (Zra rfl evc) ?_; clear T ac; intro ac T
  refine wpList_nil ?_
  replace T := T.pick [0] rfl
  replace M := M.mask [false] rfl
  refine Znr ?_
  refine Zrt ?_
  refine rt_1 T rfl (T.e 0 rfl) ?_
  refine ⟨ret_int ?_, M.below⟩
  unfold skErr
  (repeat' split) <;> first | rfl | omega | contradiction | (simp_all; done) | (simp_all; omega)
 intro h2
 (have h2' := h2; try simp only [Zb1, Zb2, Zb3, Zb4, Zb5, Zb6, Zb7] at h2')
 refine Zsk ?_
 refine wp_seq ?_
 refine Zsr ?_
 refine Zg2 (v1 := (.pointer (some ⟨g1, 2, none⟩))) T (Zq (Zrf (off := 2) rfl (T.e 0 rfl) (fun _ _ _ => by kernel_rfl))) rfl (Zr M 0 0 rfl rfl rfl rfl) rfl ?_; clear T ac; intro ac T
 refine Zl2 ?_
 refine Zoc (first := []) (cap := []) T rfl rfl rfl rfl evf (.cons (T.e 0 rfl) .nil) Tryz.func137 rfl rfl ?_
 refine Calls.mono (checkShrink_any s.a0 s.a1 _) ?_
 clear T; rintro e wc ⟨rfl, hb⟩ ac T
 replace M := M.call hb; clear hb
 refine lq T (Zra rfl (T.e 0 rfl)) ?_; clear T ac; intro ac T
 replace T := T.pick [0, 4] rfl
 refine Zln ?_
 refine Zsr ?_
 refine Zg2 T (Zq (Zrm rfl (T.e 0 rfl))) rfl (fun _ T => Zq (rn_neq rfl (T.e 0 rfl) evc)) rfl ?_; clear T ac; intro ac T
 replace T := T.pick [0, 2, 3] rfl
 refine Zln ?_
 refine wp_ifn (T.e 0 rfl) ?_ ?_
 ·intro h3
  refine Zsr ?_
  refine Zg2 T (Zq (Zrm rfl (T.e 1 rfl))) rfl (Za 0 rfl rfl) rfl ?_; clear T ac; intro ac T
  refine wpList_nil ?_
  replace T := T.pick [0] rfl
  replace M := M.mask [false] rfl
  refine Znr ?_
  refine Zrt ?_
  refine rt_1 T rfl (T.e 0 rfl) ?_
  refine ⟨ret_int ?_, M.below⟩
  unfold skErr
  (repeat' split) <;> first | rfl | omega | contradiction | (simp_all; done) | (simp_all; omega)
 intro h3
 refine Zsk ?_
 refine wp_seq ?_
 refine Zsr ?_
 refine Zg2 (v1 := (.pointer (some ⟨g1, 4, none⟩))) T (Zq (Zrf (off := 4) rfl (T.e 2 rfl) (fun _ _ _ => by kernel_rfl))) rfl (Zr M 0 0 rfl rfl rfl rfl) rfl ?_; clear T ac; intro ac T
 refine Zl2 ?_
 refine Zoc (first := []) (cap := []) T rfl rfl rfl rfl evf (.cons (T.e 0 rfl) .nil) Tryz.func137 rfl rfl ?_
 refine Calls.mono (checkShrink_any s.c0 s.c1 _) ?_
 clear T; rintro e wc ⟨rfl, hb⟩ ac T
 replace M := M.call hb; clear hb
 refine lq T (Zra rfl (T.e 0 rfl)) ?_; clear T ac; intro ac T
 replace T := T.pick [0, 6] rfl
 refine Zln ?_
 refine Zsr ?_
 refine Zg2 T (Zq (Zrm rfl (T.e 0 rfl))) rfl (fun _ T => Zq (rn_neq rfl (T.e 0 rfl) evc)) rfl ?_; clear T ac; intro ac T
 replace T := T.pick [0, 2, 3] rfl
 refine Zln ?_
 refine wp_ifn (T.e 0 rfl) ?_ ?_
 ·intro h4
  refine Zsr ?_
  refine Zg2 T (Zq (Zrm rfl (T.e 1 rfl))) rfl (Za 0 rfl rfl) rfl ?_; clear T ac; intro ac T
  refine wpList_nil ?_
  replace T := T.pick [0] rfl
  replace M := M.mask [false] rfl
  refine Znr ?_
  refine Zrt ?_
  refine rt_1 T rfl (T.e 0 rfl) ?_
  refine ⟨ret_int ?_, M.below⟩
  unfold skErr
  (repeat' split) <;> first | rfl | omega | contradiction | (simp_all; done) | (simp_all; omega)
 intro h4
 refine Zsk ?_
 refine wp_seq ?_
 refine Zsr ?_
 refine Zg4 (v1 := (.pointer (some ⟨g1, 6, none⟩))) T (Zq (Zrf (off := 6) rfl (T.e 2 rfl) (fun _ _ _ => by kernel_rfl))) rfl (Zo M 0 0 rfl rfl rfl rfl) rfl (Zl Tryz.underlying47 0 rfl rfl) rfl (fun _ T => Zq (rn_gtr rfl (T.e 0 rfl) evc)) rfl ?_; clear T ac; intro ac T
 replace T := T.pick [0, 6] rfl
 refine Zln ?_
 refine wp_if (T.e 0 rfl) ?_ ?_
 ·intro h5
  refine Zsr ?_
  refine lq T (Zra rfl evc) ?_; clear T ac; intro ac T
  refine wpList_nil ?_
  replace T := T.pick [0] rfl
  replace M := M.mask [false] rfl
  refine Znr ?_
  refine Zrt ?_
  refine rt_1 T rfl (T.e 0 rfl) ?_
  refine ⟨ret_int ?_, M.below⟩
  unfold skErr
  (repeat' split) <;> first | rfl | omega | contradiction | (simp_all; done) | (simp_all; omega)
 intro h5
 refine Zsk ?_
 refine wp_seq ?_
 refine Zsr ?_
 refine Zg4 (v1 := (.pointer (some ⟨g1, 6, none⟩))) T (Zq (Zrf (off := 6) rfl (T.e 1 rfl) (fun _ _ _ => by kernel_rfl))) rfl (Zo M 0 0 rfl rfl rfl rfl) rfl (Zl Tryz.underlying47 0 rfl rfl) rfl (fun _ T => Zq (Zrm rfl evc)) rfl ?_; clear T ac; intro ac T
 refine wpList_nil ?_
 replace T := T.pick [0, 1, 2] rfl
 replace M := M.mask [false] rfl
 refine nm_then ?_
 refine wp_block ?_
 refine wp_loop_n (fun mz ac wc => ∃ (k : Nat), mz = s.ps.length - k ∧ (k ≤ s.ps.length) ∧ (ptsErr s.ps = ptsErr (s.ps.drop k)) ∧ Tm ac 47 [(35, .slice A s.ps.length c), (36, .int .i64 ((s.ps.length : Nat) : Int)), (37, .int .i64 (k : Int))] ∧ Mem w noEx wc []) ?_ ?_
 ·exact ⟨_, 0, rfl, (Nat.zero_le _), rfl, T.pick [2, 1, 0] rfl, M.mask [] rfl⟩
 clear T M
 rintro mz ac wc ⟨k, hmm1, hk, H, T, M⟩
 refine Zsr ?_
 refine lq T (rn_lss rfl (T.e 2 rfl) (T.e 1 rfl)) ?_; clear T ac; intro ac T
 refine Zln ?_
 refine wp_seq ?_
 refine wp_if (T.e 0 rfl) ?_ ?_
 ·intro h6
  obtain ⟨p, hkp, hd⟩ := pc_next (l := s.ps) (k := k) (by omega)
  rw [hd, ptsErr] at H
  refine Zsk ?_
  refine wp_seq ?_
  refine wp_block ?_
  refine Zsr ?_
  refine Zg2 (v2 := (.agg #[.int .i64 p.l, .int .i64 p.w, .bool p.gr, .int .i64 p.pa])) T (Zq (Zri (size := 4) k rfl (T.e 1 rfl) (T.e 3 rfl) ⟨_, Tryz.underlying47, by kernel_rfl⟩ rfl (by omega) (SA.at0 (by omega)))) rfl (fun _ T => Zq (rn_rowat (Sp.pcR SA M (Zz9 _) hkp) rfl (T.e 0 rfl) rfl)) rfl ?_; clear T ac; intro ac T
  refine Zl2 ?_
  refine Zoa M T rfl rfl rfl rfl ?_; clear M T; intro g2 wc ac M T
  refine Zl2 ?_
  refine Zos M T rfl rfl (T.e 0 rfl) (T.e 1 rfl) rfl .head rfl (by simp) rfl (by kernel_rfl) ?_; clear M T; intro wc ac M T
  replace T := T.pick [0, 4, 5, 6] rfl
  refine Zln ?_
  refine Zsr ?_
  refine lq T (Zrr (Mem.nth M 0 rfl) rfl (T.e 0 rfl) rfl) ?_; clear T ac; intro ac T
  refine Zl2 ?_
  refine Zoc (first := []) (cap := []) T rfl rfl rfl rfl evf (.cons (T.e 0 rfl) .nil) Tryz.func131 rfl rfl ?_
  refine Calls.mono (checkPart_any p _) ?_
  clear T; rintro e wc ⟨rfl, hb⟩ ac T
  replace M := M.call hb; clear hb
  refine lq T (Zra rfl (T.e 0 rfl)) ?_; clear T ac; intro ac T
  refine wpList_nil ?_
  replace T := T.pick [0, 4, 5, 6] rfl
  replace M := M.mask [false] rfl
  refine nm_then ?_
  refine Zsr ?_
  refine Zg2 T (Zq (Zrm rfl (T.e 0 rfl))) rfl (fun _ T => Zq (rn_neq rfl (T.e 0 rfl) evc)) rfl ?_; clear T ac; intro ac T
  replace T := T.pick [0, 2, 3, 4, 5] rfl
  refine Zln ?_
  refine wp_ifn (T.e 0 rfl) ?_ ?_
  ·intro h7
   refine Zsr ?_
   refine Zg2 T (Zq (Zrm rfl (T.e 1 rfl))) rfl (Za 0 rfl rfl) rfl ?_; clear T ac; intro ac T
   replace T := T.pick [0] rfl
   refine Zln ?_
   refine wp_ret ?_
   refine Zrb ?_
   refine Zrt ?_
   refine Zrt ?_
   refine Zrb ?_
   refine Zrt ?_
   refine rt_1 T rfl (T.e 0 rfl) ?_
   rw [if_neg (by omega)] at H
   refine ⟨ret_int ?_, M.below⟩
   unfold skErr
   (repeat' split) <;> first | rfl | omega | contradiction | (simp_all; done) | (simp_all; omega)
  intro h7
  refine wp_skip ?_
  refine Znb ?_
  refine nm_then ?_
  refine wp_region_lit ?_
  refine lq T (rn_add rfl (T.e 4 rfl) evc (by omega)) ?_; clear T ac; intro ac T
  refine l_q (v := (.int .i64 ((k : Int) + 1))) (T.pick [0, 1, 2, 3, 4] rfl) rfl rfl rfl rfl (Zrm rfl (T.e 0 rfl)) ?_; clear T ac; intro ac T
  replace T := T.pick [0, 4, 5] rfl
  refine Zln ?_
  rw [if_pos (by omega)] at H
  exact ⟨_, by omega, k + 1, rfl, (by omega), H, T.pick [1, 2, 0] rfl, M.mask [] rfl⟩
 intro h6
 rw [List.drop_of_length_le (by omega), ptsErr] at H
 refine wp_exit ?_
 refine Zet ?_
 refine Zet ?_
 refine ex_hit ?_
 refine nm_then ?_
 refine Zsr ?_
 refine lq T (Zra rfl evc) ?_; clear T ac; intro ac T
 replace T := T.pick [0] rfl
 refine Zln ?_
 refine wp_ret ?_
 refine rt_1 T rfl (T.e 0 rfl) ?_
 refine ⟨ret_int ?_, M.below⟩
 unfold skErr
 (repeat' split) <;> first | rfl | omega | contradiction | (simp_all; done) | (simp_all; omega)
theorem cut1_any (n a : Int) (ga : Nat)  (w : World) (hq : Bk w ga #[.int .i64 a]) (hb : -1000 ≤ a ∧ a ≤ 1000) (hn : -1000 ≤ n ∧ n ≤ 1000) :
  Calls Tryz.prog 183 #[.int .i64 n, .pointer (some ⟨ga, 0, none⟩)] w fun e w' => e = .returned (.int .i64 (n + a)) ∧ Below w.heap.size w w' := by
 refine Zpx noEx Tryz.func183 rfl 7 rfl [.int .i64 n, .pointer (some ⟨ga, 0, none⟩)] rfl rfl (Mem.init w _) ?_
 intro ac wc T M
 refine Zsr ?_
 refine lq T (Zra rfl evc) ?_; clear T ac; intro ac T
 replace T := T.pick [1, 2] rfl
 refine Zln ?_
 refine Zsr ?_
 refine Zg4 T (Zq (Zrm rfl (T.e 0 rfl))) rfl (fun _ T => Zq (Zro (Mem.old M hq (fun h => h)) rfl (T.e 2 rfl) rfl)) rfl (fun _ T => Zq (rn_add rfl (T.e 1 rfl) (T.e 0 rfl) (by omega))) rfl (Za 0 rfl rfl) rfl ?_; clear T ac; intro ac T
 replace T := T.pick [0] rfl
 refine Zln ?_
 refine wp_ret ?_
 refine rt_1 T rfl (T.e 0 rfl) ?_
 exact ⟨rfl, M.below⟩
theorem cut2_any (n c : Int) (gc : Nat)  (w : World) (hq : Bk w gc #[.int .i64 c]) (hb : -1000 ≤ c ∧ c ≤ 1000) (hn : -1000 ≤ n ∧ n ≤ 1000) :
  Calls Tryz.prog 184 #[.int .i64 n, .pointer (some ⟨gc, 0, none⟩)] w fun e w' => e = .returned (.int .i64 (n + c)) ∧ Below w.heap.size w w' := by
 refine Zpx noEx Tryz.func184 rfl 7 rfl [.int .i64 n, .pointer (some ⟨gc, 0, none⟩)] rfl rfl (Mem.init w _) ?_
 intro ac wc T M
 refine Zsr ?_
 refine lq T (Zra rfl evc) ?_; clear T ac; intro ac T
 replace T := T.pick [1, 2] rfl
 refine Zln ?_
 refine Zsr ?_
 refine Zg4 T (Zq (Zrm rfl (T.e 0 rfl))) rfl (fun _ T => Zq (Zro (Mem.old M hq (fun h => h)) rfl (T.e 2 rfl) rfl)) rfl (fun _ T => Zq (rn_add rfl (T.e 1 rfl) (T.e 0 rfl) (by omega))) rfl (Za 0 rfl rfl) rfl ?_; clear T ac; intro ac T
 replace T := T.pick [0] rfl
 refine Zln ?_
 refine wp_ret ?_
 refine rt_1 T rfl (T.e 0 rfl) ?_
 exact ⟨rfl, M.below⟩
def CutPost (s : Sk) (A : Option Addr) (d : Nat) (su : Bool) (w : World) (e : Ending) (w' : World) : Prop := ∃ ga gc, e = .returned (.agg #[.int .i64 s.lo, .int .i64 s.wi, .int .i64 s.a0, .int .i64 s.a1, .int .i64 s.c0, .int .i64 s.c1, .slice A s.ps.length d, .func (.func 183) #[] #[.pointer (some ⟨ga, 0, none⟩)], .func (.func 184) #[] #[.pointer (some ⟨gc, 0, none⟩)]]) ∧ Mem w noEx w' [(ga, .cells [.int .i64 (cutA s su)]), (gc, .cells [.int .i64 (cutC s su)])]
theorem cut_any (s : Sk) (A : Option Addr) (d : Nat) (su : Bool) (w : World)  :
   Calls Tryz.prog 123 #[.agg #[.int .i64 s.lo, .int .i64 s.wi, .int .i64 s.a0, .int .i64 s.a1, .int .i64 s.c0, .int .i64 s.c1, .slice A s.ps.length d], .bool su] w (CutPost s A d su w) := by
 refine Zpx noEx Tryz.func123 rfl 24 rfl [.agg #[.int .i64 s.lo, .int .i64 s.wi, .int .i64 s.a0, .int .i64 s.a1, .int .i64 s.c0, .int .i64 s.c1, .slice A s.ps.length d], .bool su] rfl rfl (Mem.init w _) ?_
 intro ac wc T M
 refine Zsr ?_
 refine Zl2 ?_
 refine Zob M T rfl rfl rfl rfl (T.e 0 rfl) rfl ?_; clear M T; intro g1 wc ac M T
 refine Zl2 ?_
 refine Zoa M T rfl rfl rfl rfl ?_; clear M T; intro g2 wc ac M T
 replace T := T.pick [0, 1, 3] rfl
 refine Zln ?_
 refine wp_seq ?_
 refine Zgs M (M.mask [true, true] rfl) 10 (by kernel_rfl) rfl (by kernel_rfl) ?_
 clear M; intro wc M
 refine g_have (fun ac wc => ∃ (gr1_7 gr1_6 : Nat), Tm ac 24 [(6, .pointer (some ⟨gr1_7, 0, none⟩)), (5, .pointer (some ⟨gr1_6, 0, none⟩)), (12, .int .i64 s.c0), (11, .pointer (some ⟨g1, 4, none⟩)), (10, .pointer (some ⟨g1, 4, none⟩)), (9, .int .i64 s.a0), (8, .pointer (some ⟨g1, 2, none⟩)), (7, .pointer (some ⟨g1, 2, none⟩)), (4, .pointer (some ⟨g2, 0, none⟩)), (2, .pointer (some ⟨g1, 0, none⟩)), (1, .bool su)] ∧ Mem w noEx wc [(gr1_7, .cells [.int .i64 0]), (gr1_6, .cells [.int .i64 0]), (g2, .cells [.int .i64 0, .int .i64 0, .int .i64 0, .int .i64 0, .int .i64 0, .int .i64 0, .slice none 0 0, .nilFunc, .nilFunc]), (g1, .cells [.int .i64 s.lo, .int .i64 s.wi, .int .i64 s.a0, .int .i64 s.a1, .int .i64 s.c0, .int .i64 s.c1, .slice A s.ps.length d])]) (Zpb 10 255) 2 ?_ ?_
 ·clear T M
  rintro ac wc ⟨gr1_7, gr1_6, T, M⟩
  refine gw 8 511 ?_; intro K hK
  refine Zos M T rfl rfl (T.e 1 rfl) (T.e 5 rfl) rfl (.tail .head) rfl (by simp) rfl (by kernel_rfl) ?_; clear M T; intro wc ac M T
  refine Zso hK _ _ (M.mask [false, false, true, true] rfl) ?_; clear hK K
  refine gw 9 1023 ?_; intro K hK
  refine Zos M T rfl rfl (T.e 0 rfl) (T.e 2 rfl) rfl .head rfl (by simp) rfl (by kernel_rfl) ?_; clear M T; intro wc ac M T
  refine Zso hK _ _ (M.mask [false, false, true, true] rfl) ?_; clear hK K
  refine Zgd (by kernel_rfl) ?_
  replace T := T.pick [0, 1, 8, 9, 10] rfl
  refine Zns ?_
  refine Zsr ?_
  refine lq T (Zrm rfl (T.e 4 rfl)) ?_; clear T ac; intro ac T
  replace T := T.pick [0, 1, 2, 3, 4] rfl
  refine Zln ?_
  refine wp_cond_split (T.e 0 rfl) ?_ ?_
  ·intro h1
   refine Zgs M (M.perm [2, 3] rfl rfl) 8 (by kernel_rfl) rfl (by kernel_rfl) ?_
   clear M; intro wc M
   refine g_addG 6 M ?_
   refine g_addG 7 (M.perm [0, 2, 3] rfl rfl) ?_
   refine gq (v := (.pointer (some ⟨g1, 2, none⟩))) T 0 1 rfl (fun _ _ _ _ _ => (Zrf (off := 2) rfl (T.e 4 rfl) (fun _ _ _ => by kernel_rfl))) ?_; clear T ac; intro ac T
   refine gq (v := (.pointer (some ⟨g1, 3, none⟩))) T 1 3 rfl (fun _ _ _ _ _ => (Zrf (off := 1) rfl (T.e 0 rfl) (fun _ _ _ => by kernel_rfl))) ?_; clear T ac; intro ac T
   refine gq T 2 7 rfl (fun B w' hD hl hS => (Zro (Mem.nth (show Mem w noEx w' _ from ((MA.lft hS) (hD.wait (i := 2) (m := 7) (by kernel_rfl) hl))) 2 rfl) rfl (T.e 0 rfl) rfl)) ?_; clear T ac; intro ac T
   refine gq (v := (.pointer (some ⟨g1, 4, none⟩))) T 3 15 rfl (fun _ _ _ _ _ => (Zrf (off := 4) rfl (T.e 7 rfl) (fun _ _ _ => by kernel_rfl))) ?_; clear T ac; intro ac T
   refine gq (v := (.pointer (some ⟨g1, 5, none⟩))) T 4 31 rfl (fun _ _ _ _ _ => (Zrf (off := 1) rfl (T.e 0 rfl) (fun _ _ _ => by kernel_rfl))) ?_; clear T ac; intro ac T
   refine gq T 5 63 rfl (fun B w' hD hl hS => (Zro (Mem.nth (show Mem w noEx w' _ from ((MA.lft hS) (hD.wait (i := 5) (m := 7) (by kernel_rfl) hl))) 2 rfl) rfl (T.e 0 rfl) rfl)) ?_; clear T ac; intro ac T
   refine gw 6 127 ?_; intro K hK
   refine Zos M T rfl rfl (T.e 8 rfl) (T.e 3 rfl) rfl (.tail .head) rfl (by simp) rfl (by kernel_rfl) ?_; clear M T; intro wc ac M T
   refine Zso hK _ _ (MA.mk (fun _ => M.mask [true, false, true, true] rfl) (MA.mk (fun h => (no_of (by kernel_rfl) h).elim) (M.mask [false, false, true, true] rfl))) ?_; clear hK K
   refine gw 7 255 ?_; intro K hK
   refine Zos M T rfl rfl (T.e 7 rfl) (T.e 0 rfl) rfl .head rfl (by simp) rfl (by kernel_rfl) ?_; clear M T; intro wc ac M T
   refine Zso hK _ _ (MA.mk (fun h => (no_of (by kernel_rfl) h).elim) (MA.mk (fun h => (no_of (by kernel_rfl) h).elim) (M.mask [false, false, true, true] rfl))) ?_; clear hK K
   refine Zgd (by kernel_rfl) ?_
   replace T := T.pick [7, 8, 9, 10] rfl
   refine nm_then ?_
   refine Zsr ?_
   refine Zg4 (v2 := (.func (.func 183) #[] #[.pointer (some ⟨gr1_6, 0, none⟩)])) (v3 := (.func (.func 184) #[] #[.pointer (some ⟨gr1_7, 0, none⟩)])) (v4 := (.agg #[.int .i64 s.lo, .int .i64 s.wi, .int .i64 s.a0, .int .i64 s.a1, .int .i64 s.c0, .int .i64 s.c1, .slice A s.ps.length d, .func (.func 183) #[] #[.pointer (some ⟨gr1_6, 0, none⟩)], .func (.func 184) #[] #[.pointer (some ⟨gr1_7, 0, none⟩)]])) T (Zq (Zrr (Mem.nth M 3 rfl) rfl (T.e 3 rfl) rfl)) rfl (fun _ T => Zq (rn_makeFunc rfl .nil (.cons (T.e 2 rfl) .nil))) rfl (fun _ T => Zq (rn_makeFunc rfl .nil (.cons (T.e 2 rfl) .nil))) rfl (fun _ T => Zq (rn_build rfl (.cons (T.e 2 rfl) (.cons (T.e 1 rfl) (.cons (T.e 0 rfl) .nil))) (fun _ => by kernel_rfl))) rfl ?_; clear T ac; intro ac T
   refine Zl2 ?_
   refine Zos M T rfl rfl (T.e 6 rfl) (T.e 0 rfl) rfl (.tail (.tail .head)) rfl (by simp) rfl (by kernel_rfl) ?_; clear M T; intro wc ac M T
   refine wpList_nil ?_
   replace T := T.pick [6] rfl
   replace M := M.mask [true, true, true, false] rfl
   refine Znr ?_
   refine rt_c M T rfl (T.e 0 rfl) (Zne (i := 2) rfl) rfl ?_
   rw [show su = true from h1]
   exact ⟨gr1_6, gr1_7, rfl, M.perm [1, 0] rfl rfl⟩
  intro h1
  refine Zsk ?_
  refine Zsr ?_
  refine Zg4 (v2 := (.func (.func 183) #[] #[.pointer (some ⟨gr1_6, 0, none⟩)])) (v3 := (.func (.func 184) #[] #[.pointer (some ⟨gr1_7, 0, none⟩)])) (v4 := (.agg #[.int .i64 s.lo, .int .i64 s.wi, .int .i64 s.a0, .int .i64 s.a1, .int .i64 s.c0, .int .i64 s.c1, .slice A s.ps.length d, .func (.func 183) #[] #[.pointer (some ⟨gr1_6, 0, none⟩)], .func (.func 184) #[] #[.pointer (some ⟨gr1_7, 0, none⟩)]])) T (Zq (Zrr (Mem.nth M 3 rfl) rfl (T.e 4 rfl) rfl)) rfl (fun _ T => Zq (rn_makeFunc rfl .nil (.cons (T.e 3 rfl) .nil))) rfl (fun _ T => Zq (rn_makeFunc rfl .nil (.cons (T.e 3 rfl) .nil))) rfl (fun _ T => Zq (rn_build rfl (.cons (T.e 2 rfl) (.cons (T.e 1 rfl) (.cons (T.e 0 rfl) .nil))) (fun _ => by kernel_rfl))) rfl ?_; clear T ac; intro ac T
  refine Zl2 ?_
  refine Zos M T rfl rfl (T.e 7 rfl) (T.e 0 rfl) rfl (.tail (.tail .head)) rfl (by simp) rfl (by kernel_rfl) ?_; clear M T; intro wc ac M T
  refine wpList_nil ?_
  replace T := T.pick [7] rfl
  replace M := M.mask [true, true, true, false] rfl
  refine Znr ?_
  refine rt_c M T rfl (T.e 0 rfl) (Zne (i := 2) rfl) rfl ?_
  rw [show su = false from h1]
  exact ⟨gr1_6, gr1_7, rfl, M.perm [1, 0] rfl rfl⟩
 intro H0
 refine gq (v := (.pointer (some ⟨g1, 2, none⟩))) T 0 1 rfl (fun _ _ _ _ _ => (Zrf (off := 2) rfl (T.e 1 rfl) (fun _ _ _ => by kernel_rfl))) ?_; clear T ac; intro ac T
 refine gq (v := (.pointer (some ⟨g1, 2, none⟩))) T 1 3 rfl (fun _ _ _ _ _ => (Zrf (off := 0) rfl (T.e 0 rfl) (fun _ _ _ => by kernel_rfl))) ?_; clear T ac; intro ac T
 refine gq T 2 7 rfl (fun B w' hD hl hS => (Zro (Mem.nth (show Mem w noEx w' _ from hS) 1 rfl) rfl (T.e 0 rfl) rfl)) ?_; clear T ac; intro ac T
 refine gq (v := (.pointer (some ⟨g1, 4, none⟩))) T 3 15 rfl (fun _ _ _ _ _ => (Zrf (off := 4) rfl (T.e 4 rfl) (fun _ _ _ => by kernel_rfl))) ?_; clear T ac; intro ac T
 refine gq (v := (.pointer (some ⟨g1, 4, none⟩))) T 4 31 rfl (fun _ _ _ _ _ => (Zrf (off := 0) rfl (T.e 0 rfl) (fun _ _ _ => by kernel_rfl))) ?_; clear T ac; intro ac T
 refine gq T 5 63 rfl (fun B w' hD hl hS => (Zro (Mem.nth (show Mem w noEx w' _ from hS) 1 rfl) rfl (T.e 0 rfl) rfl)) ?_; clear T ac; intro ac T
 refine g_m2 (i := 6) (j := 7) (by kernel_rfl) ?_ ?_
 ·refine gi 127 ?_; intro K hK
  refine Zoa M T rfl rfl rfl rfl ?_; clear M T; intro gr1_6 wc ac M T
  refine Zso hK _ _ (M.mask [false, true, true] rfl) ?_; clear hK K
  refine gw 7 255 ?_; intro K hK
  refine Zoa M T rfl rfl rfl rfl ?_; clear M T; intro gr1_7 wc ac M T
  refine Zso hK _ _ (M.mask [false, false, true, true] rfl) ?_; clear hK K
  exact H0 _ _ ⟨gr1_7, gr1_6, T, M⟩
 refine gi 191 ?_; intro K hK
 refine Zoa M T rfl rfl rfl rfl ?_; clear M T; intro gr1_7 wc ac M T
 refine Zso hK _ _ (M.mask [false, true, true] rfl) ?_; clear hK K
 refine gw 6 255 ?_; intro K hK
 refine Zoa M T rfl rfl rfl rfl ?_; clear M T; intro gr1_6 wc ac M T
 refine Zso hK _ _ (M.mask [false, false, true, true] rfl) ?_; clear hK K
 exact H0 _ _ ⟨gr1_7, gr1_6, T.pick [1, 0, 2, 3, 4, 5, 6, 7, 8, 9, 10] rfl, M.perm [1, 0, 2, 3] rfl rfl⟩
theorem size_any (s : Sk) (A : Option Addr) (d : Nat) (a c : Int) (ga gc : Nat) (p : Pt) (t : Bool) (w : World) (ha : 0 ≤ a ∧ a ≤ 2) (hc : 0 ≤ c ∧ c ≤ 2) (hp : p.good) (qa : Bk w ga #[.int .i64 a]) (qc : Bk w gc #[.int .i64 c])  :
   Calls Tryz.prog 132 #[.agg #[.int .i64 s.lo, .int .i64 s.wi, .int .i64 s.a0, .int .i64 s.a1, .int .i64 s.c0, .int .i64 s.c1, .slice A s.ps.length d, .func (.func 183) #[] #[.pointer (some ⟨ga, 0, none⟩)], .func (.func 184) #[] #[.pointer (some ⟨gc, 0, none⟩)]], .agg #[.int .i64 p.l, .int .i64 p.w, .bool p.gr, .int .i64 p.pa], .bool t] w fun e w' => e = .returned (.tuple #[.int .i64 (sizeL a c p t), .int .i64 (sizeW a c p t)]) ∧ Below w.heap.size w w' := by
 obtain ⟨hp1, hp2, hp3⟩ := hp
 refine Zpx noEx Tryz.func132 rfl 29 rfl [.agg #[.int .i64 s.lo, .int .i64 s.wi, .int .i64 s.a0, .int .i64 s.a1, .int .i64 s.c0, .int .i64 s.c1, .slice A s.ps.length d, .func (.func 183) #[] #[.pointer (some ⟨ga, 0, none⟩)], .func (.func 184) #[] #[.pointer (some ⟨gc, 0, none⟩)]], .agg #[.int .i64 p.l, .int .i64 p.w, .bool p.gr, .int .i64 p.pa], .bool t] rfl rfl (Mem.init w _) ?_
 intro ac wc T M
 refine Zsr ?_
 refine Zl2 ?_
 refine Zob M T rfl rfl rfl rfl (T.e 0 rfl) rfl ?_; clear M T; intro g1 wc ac M T
 refine Zl2 ?_
 refine Zob M T rfl rfl rfl rfl (T.e 2 rfl) rfl ?_; clear M T; intro g2 wc ac M T
 refine Zg2 T (Zq (Zra rfl evc)) rfl (Zc rfl) rfl ?_; clear T ac; intro ac T
 replace T := T.pick [2, 3, 6] rfl
 refine Zln ?_
 refine wp_seq ?_
 refine Zsr ?_
 refine lq T (Zrm rfl (T.e 2 rfl)) ?_; clear T ac; intro ac T
 replace T := T.pick [0, 1, 2] rfl
 refine Zln ?_
 refine wp_cond_split (T.e 0 rfl) ?_ ?_
 ·intro h1
  refine wp_seq ?_
  refine Zgs M (M.mask [true, true] rfl) 12 (by kernel_rfl) rfl (by kernel_rfl) ?_
  clear M; intro wc M
  refine gq (v := (.pointer (some ⟨g1, 7, none⟩))) T 0 1 rfl (fun _ _ _ _ _ => (Zrf (off := 7) rfl (T.e 2 rfl) (fun _ _ _ => by kernel_rfl))) ?_; clear T ac; intro ac T
  refine gq T 1 3 rfl (fun B w' hD hl hS => (Zro (Mem.nth (show Mem w noEx w' _ from hS) 1 rfl) rfl (T.e 0 rfl) rfl)) ?_; clear T ac; intro ac T
  refine gq (v := (.pointer (some ⟨g2, 1, none⟩))) T 2 7 rfl (fun _ _ _ _ _ => (Zrf (off := 1) rfl (T.e 3 rfl) (fun _ _ _ => by kernel_rfl))) ?_; clear T ac; intro ac T
  refine gq T 3 15 rfl (fun B w' hD hl hS => (Zro (Mem.nth (show Mem w noEx w' _ from hS) 0 rfl) rfl (T.e 0 rfl) rfl)) ?_; clear T ac; intro ac T
  refine gq (v := (.pointer (some ⟨g1, 8, none⟩))) T 5 47 rfl (fun _ _ _ _ _ => (Zrf (off := 8) rfl (T.e 6 rfl) (fun _ _ _ => by kernel_rfl))) ?_; clear T ac; intro ac T
  refine gq T 6 111 rfl (fun B w' hD hl hS => (Zro (Mem.nth (show Mem w noEx w' _ from hS) 1 rfl) rfl (T.e 0 rfl) rfl)) ?_; clear T ac; intro ac T
  refine gq (v := (.pointer (some ⟨g2, 0, none⟩))) T 7 239 rfl (fun _ _ _ _ _ => (Zrf (off := 0) rfl (T.e 7 rfl) (fun _ _ _ => by kernel_rfl))) ?_; clear T ac; intro ac T
  refine gq T 8 495 rfl (fun B w' hD hl hS => (Zro (Mem.nth (show Mem w noEx w' _ from hS) 0 rfl) rfl (T.e 0 rfl) rfl)) ?_; clear T ac; intro ac T
  refine gw 4 511 ?_; intro K hK
  refine Zoc (first := []) (cap := [.pointer (some ⟨ga, 0, none⟩)]) T rfl rfl rfl rfl (T.e 6 rfl) (.cons (T.e 4 rfl) .nil) Tryz.func183 rfl rfl ?_
  refine Calls.mono (cut1_any p.w a ga _ (M.old qa (fun h => h)) (by omega) (by omega)) ?_
  clear T; rintro e wc ⟨rfl, hb⟩ ac T
  replace M := M.call hb; clear hb
  refine Zso hK _ _ (M.mask [true, true] rfl) ?_; clear hK K
  refine gw 9 1023 ?_; intro K hK
  refine Zoc (first := []) (cap := [.pointer (some ⟨gc, 0, none⟩)]) T rfl rfl rfl rfl (T.e 3 rfl) (.cons (T.e 1 rfl) .nil) Tryz.func184 rfl rfl ?_
  refine Calls.mono (cut2_any p.l c gc _ (M.old qc (fun h => h)) (by omega) (by omega)) ?_
  clear T; rintro e wc ⟨rfl, hb⟩ ac T
  replace M := M.call hb; clear hb
  refine Zso hK _ _ (M.mask [true, true] rfl) ?_; clear hK K
  refine gq T 10 2047 rfl (fun _ _ _ _ _ => (Zra rfl (T.e 1 rfl))) ?_; clear T ac; intro ac T
  refine gq T 11 4095 rfl (fun _ _ _ _ _ => (Zra rfl (T.e 1 rfl))) ?_; clear T ac; intro ac T
  refine Zgd (by kernel_rfl) ?_
  replace T := T.pick [0, 1] rfl
  replace M := M.mask [false, false] rfl
  refine Znr ?_
  refine Zrt ?_
  refine rt_2 T rfl (T.e 1 rfl) (T.e 0 rfl) ?_
  rw [show t = true from h1]
  exact ⟨rfl, M.below⟩
 intro h1
 refine Zsk ?_
 refine wp_seq ?_
 refine Zgs M (M.mask [true, true] rfl) 12 (by kernel_rfl) rfl (by kernel_rfl) ?_
 clear M; intro wc M
 refine gq (v := (.pointer (some ⟨g1, 7, none⟩))) T 0 1 rfl (fun _ _ _ _ _ => (Zrf (off := 7) rfl (T.e 2 rfl) (fun _ _ _ => by kernel_rfl))) ?_; clear T ac; intro ac T
 refine gq T 1 3 rfl (fun B w' hD hl hS => (Zro (Mem.nth (show Mem w noEx w' _ from hS) 1 rfl) rfl (T.e 0 rfl) rfl)) ?_; clear T ac; intro ac T
 refine gq (v := (.pointer (some ⟨g2, 0, none⟩))) T 2 7 rfl (fun _ _ _ _ _ => (Zrf (off := 0) rfl (T.e 3 rfl) (fun _ _ _ => by kernel_rfl))) ?_; clear T ac; intro ac T
 refine gq T 3 15 rfl (fun B w' hD hl hS => (Zro (Mem.nth (show Mem w noEx w' _ from hS) 0 rfl) rfl (T.e 0 rfl) rfl)) ?_; clear T ac; intro ac T
 refine gq (v := (.pointer (some ⟨g1, 8, none⟩))) T 5 47 rfl (fun _ _ _ _ _ => (Zrf (off := 8) rfl (T.e 6 rfl) (fun _ _ _ => by kernel_rfl))) ?_; clear T ac; intro ac T
 refine gq T 6 111 rfl (fun B w' hD hl hS => (Zro (Mem.nth (show Mem w noEx w' _ from hS) 1 rfl) rfl (T.e 0 rfl) rfl)) ?_; clear T ac; intro ac T
 refine gq (v := (.pointer (some ⟨g2, 1, none⟩))) T 7 239 rfl (fun _ _ _ _ _ => (Zrf (off := 1) rfl (T.e 7 rfl) (fun _ _ _ => by kernel_rfl))) ?_; clear T ac; intro ac T
 refine gq T 8 495 rfl (fun B w' hD hl hS => (Zro (Mem.nth (show Mem w noEx w' _ from hS) 0 rfl) rfl (T.e 0 rfl) rfl)) ?_; clear T ac; intro ac T
 refine gw 4 511 ?_; intro K hK
 refine Zoc (first := []) (cap := [.pointer (some ⟨ga, 0, none⟩)]) T rfl rfl rfl rfl (T.e 6 rfl) (.cons (T.e 4 rfl) .nil) Tryz.func183 rfl rfl ?_
 refine Calls.mono (cut1_any p.l a ga _ (M.old qa (fun h => h)) (by omega) (by omega)) ?_
 clear T; rintro e wc ⟨rfl, hb⟩ ac T
 replace M := M.call hb; clear hb
 refine Zso hK _ _ (M.mask [true, true] rfl) ?_; clear hK K
 refine gw 9 1023 ?_; intro K hK
 refine Zoc (first := []) (cap := [.pointer (some ⟨gc, 0, none⟩)]) T rfl rfl rfl rfl (T.e 3 rfl) (.cons (T.e 1 rfl) .nil) Tryz.func184 rfl rfl ?_
 refine Calls.mono (cut2_any p.w c gc _ (M.old qc (fun h => h)) (by omega) (by omega)) ?_
 clear T; rintro e wc ⟨rfl, hb⟩ ac T
 replace M := M.call hb; clear hb
 refine Zso hK _ _ (M.mask [true, true] rfl) ?_; clear hK K
 refine gq T 10 2047 rfl (fun _ _ _ _ _ => (Zra rfl (T.e 1 rfl))) ?_; clear T ac; intro ac T
 refine gq T 11 4095 rfl (fun _ _ _ _ _ => (Zra rfl (T.e 1 rfl))) ?_; clear T ac; intro ac T
 refine Zgd (by kernel_rfl) ?_
 replace T := T.pick [0, 1] rfl
 replace M := M.mask [false, false] rfl
 refine Znr ?_
 refine rt_2 T rfl (T.e 1 rfl) (T.e 0 rfl) ?_
 rw [show t = false from h1]
 exact ⟨rfl, M.below⟩
def andI (x y : Int) : Int := IntKind.i64.wrap ((BitVec.ofInt 64 x &&& BitVec.ofInt 64 y).toNat)
theorem rn_and {P : Program} {op : Oper} {a : Act} {w : World} {t t' : TypeId} {x y : Operand} {p q : Int} (ho : op.op = .binOp .and t x y t') (hx : a.eval x = .int .i64 p) (hy : a.eval y = .int .i64 q) : Runs P op a (.int .i64 (andI p q)) w := rn_bin ho hx hy rfl
def oc1 (s : Nat) : Int := uaddI (uandI (ushrI (s : Int) 1) 6148914691236517205) (uandI (s : Int) 6148914691236517205)
def oc2 (s : Nat) : Int := uaddI (uandI (ushrI (oc1 s) 2) 3689348814741910323) (uandI (oc1 s) 3689348814741910323)
def oc3 (s : Nat) : Int := uandI (uaddI (ushrI (oc2 s) 4) (oc2 s)) 1085102592571150095
def oc4 (s : Nat) : Int := uaddI (oc3 s) (ushrI (oc3 s) 8)
def oc5 (s : Nat) : Int := uaddI (oc4 s) (ushrI (oc4 s) 16)
def oc6 (s : Nat) : Int := uaddI (oc5 s) (ushrI (oc5 s) 32)
def ocI (s : Nat) : Int := andI (IntKind.i64.wrap (oc6 s)) 127
def tzI (s : Nat) : Int := ushrI (umulI (uandI (s : Int) (unegI (s : Int))) 285870213051353865) 58
def tabL : List Int := [0, 1, 56, 2, 57, 49, 28, 3, 61, 58, 42, 50, 38, 29, 17, 4, 62, 47, 59, 36, 45, 43, 51, 22, 53, 39, 33, 30, 24, 18, 12, 5, 63, 55, 48, 27, 60, 41, 37, 16, 46, 35, 44, 21, 52, 32, 23, 11, 54, 26, 40, 15, 34, 20, 31, 10, 25, 14, 19, 9, 13, 8, 7, 6]
theorem oc_pop : ∀ s, s < 32 → ocI s = (popP s : Int) := by decide +kernel
theorem tz_bd : ∀ s, s < 32 → 0 ≤ tzI s ∧ tzI s < 64 := by decide +kernel
theorem tz_only : ∀ s, s < 32 → popP s = 1 → IntKind.i64.wrap (tabL.getD (tzI s).toNat 0) = (onlyP s : Int) := by decide +kernel
theorem uan_sub : ∀ s, s < 32 → ∀ x, x < 32 → (uanI (x : Nat) (s : Nat) = 0 ↔ x &&& s = x) ∧ (x &&& s = x → uanI (s : Nat) (x : Nat) = ((s - x : Nat) : Int)) := by decide +kernel
theorem uadd_one : ∀ x, x < 32 → uaddI (x : Nat) 1 = ((x + 1 : Nat) : Int) := by decide +kernel
structure TabW (w : World) : Prop where
 lt : 8 < w.heap.size
 cell : ∀ k, k < 64 → w.cell? ((⟨8, 0, none⟩ : Addr).add (k * 1)) = some (.int .u8 (tabL.getD k 0))
theorem TabW.mem {w wc : World} {ex : Nat → Prop} {L : List (Nat × BA)} (h : TabW w) (M : Mem w ex wc L) (hx : ¬ ex 8) : TabW wc :=
 ⟨Nat.lt_of_lt_of_le h.lt M.size, fun k hk => (World.cell?_of_block (w := w) (a := (⟨8, 0, none⟩ : Addr).add (k * 1)) (by rw [show ((⟨8, 0, none⟩ : Addr).add (k * 1)).block = 8 from by simp only [Addr.add]; split <;> rfl]; exact M.block 8 h.lt hx)).trans (h.cell k hk)⟩
theorem TabW.mem0 {w wc : World} {L : List (Nat × BA)} (h : TabW w) (M : Mem w noEx wc L) : TabW wc := h.mem M (fun h => h)
theorem TabW.kpN {B : Nat} {w wc : World} (h : TabW w) (hk : KpN B w wc) : TabW wc := ⟨Nat.lt_of_lt_of_le h.lt hk.2.2.2.1, fun k h2 => hk.cell (h.cell k h2)⟩
def qP (s x : Nat) : List Nat := (List.range x).filter fun z => decide (0 < z) && (z &&& s == z)
theorem qP_skip {s x : Nat} (h : ¬ (x &&& s = x)) : qP s (x + 1) = qP s x := by
 unfold qP
 rw [List.range_succ, List.filter_append]
 simp [h]
theorem qP_snoc {s x : Nat} (h : x &&& s = x) (h0 : 0 < x) : qP s (x + 1) = qP s x ++ [x] := by
 unfold qP
 rw [List.range_succ, List.filter_append]
 simp [h, h0]
theorem qP_pre {s x : Nat} (h : x ≤ s) : qP s x <+: partsP s := by
 unfold qP partsP
 have e : List.range s = List.range x ++ (List.range (s - x)).map (x + ·) := by
   rw [← List.range_add, show x + (s - x) = s by omega]
 rw [e, List.filter_append]
 exact List.prefix_append _ _
abbrev Pu (s : Nat) := { a : Nat // a ∈ partsP s }
def puV {s : Nat} (x : Pu s) : List Value := [.int .u64 (x.1 : Int), .int .u64 ((s - x.1 : Nat) : Int)]
theorem ones64_any (s : Nat) (w : World) (hs : s < 32) :
  Calls Tryz.prog 252 #[.int .u64 (s : Int)] w fun e w' => e = .returned (.int .i64 (popP s : Int)) ∧ Below w.heap.size w w' := by
 refine Zpx noEx Tryz.func252 rfl 35 rfl [.int .u64 (s : Int)] rfl rfl (Mem.init w _) ?_
 intro ac wc T M
 refine Zsr ?_
 refine lq T (Zra rfl evc) ?_; clear T ac; intro ac T
 replace T := T.pick [1] rfl
 refine Zln ?_
 refine Zsr ?_
 refine Zg6 (v6 := (.int .u64 (oc1 s))) T (Zq (Zrm rfl (T.e 0 rfl))) rfl (fun _ T => Zq (rn_shrU rfl (T.e 0 rfl) evc (by omega))) rfl (fun _ T => Zq (rn_andU rfl (T.e 0 rfl) evc)) rfl (Zm 3 rfl rfl) rfl (fun _ T => Zq (rn_andU rfl (T.e 0 rfl) evc)) rfl (fun _ T => Zq (rn_addU rfl (T.e 2 rfl) (T.e 0 rfl))) rfl ?_; clear T ac; intro ac T
 refine l_q (v := (.int .u64 (oc1 s))) (T.pick [0, 1, 2, 3, 4, 5] rfl) rfl rfl rfl rfl (Zra rfl (T.e 0 rfl)) ?_; clear T ac; intro ac T
 replace T := T.pick [0] rfl
 refine Zln ?_
 refine Zsr ?_
 refine Zg6 (v6 := (.int .u64 (oc2 s))) T (Zq (Zrm rfl (T.e 0 rfl))) rfl (fun _ T => Zq (rn_shrU rfl (T.e 0 rfl) evc (by omega))) rfl (fun _ T => Zq (rn_andU rfl (T.e 0 rfl) evc)) rfl (Zm 3 rfl rfl) rfl (fun _ T => Zq (rn_andU rfl (T.e 0 rfl) evc)) rfl (fun _ T => Zq (rn_addU rfl (T.e 2 rfl) (T.e 0 rfl))) rfl ?_; clear T ac; intro ac T
 refine l_q (v := (.int .u64 (oc2 s))) (T.pick [0, 1, 2, 3, 4, 5] rfl) rfl rfl rfl rfl (Zra rfl (T.e 0 rfl)) ?_; clear T ac; intro ac T
 replace T := T.pick [0] rfl
 refine Zln ?_
 refine Zsr ?_
 refine Zg5 (v5 := (.int .u64 (oc3 s))) T (Zq (Zrm rfl (T.e 0 rfl))) rfl (fun _ T => Zq (rn_shrU rfl (T.e 0 rfl) evc (by omega))) rfl (Zm 2 rfl rfl) rfl (fun _ T => Zq (rn_addU rfl (T.e 1 rfl) (T.e 0 rfl))) rfl (fun _ T => Zq (rn_andU rfl (T.e 0 rfl) evc)) rfl ?_; clear T ac; intro ac T
 refine l_q (v := (.int .u64 (oc3 s))) (T.pick [0, 1, 2, 3, 4] rfl) rfl rfl rfl rfl (Zra rfl (T.e 0 rfl)) ?_; clear T ac; intro ac T
 replace T := T.pick [0] rfl
 refine Zln ?_
 refine Zsr ?_
 refine Zg4 (v4 := (.int .u64 (oc4 s))) T (Zq (Zrm rfl (T.e 0 rfl))) rfl (Zm 1 rfl rfl) rfl (fun _ T => Zq (rn_shrU rfl (T.e 0 rfl) evc (by omega))) rfl (fun _ T => Zq (rn_addU rfl (T.e 2 rfl) (T.e 0 rfl))) rfl ?_; clear T ac; intro ac T
 refine l_q (v := (.int .u64 (oc4 s))) (T.pick [0, 1, 2, 3] rfl) rfl rfl rfl rfl (Zra rfl (T.e 0 rfl)) ?_; clear T ac; intro ac T
 replace T := T.pick [0] rfl
 refine Zln ?_
 refine Zsr ?_
 refine Zg4 (v4 := (.int .u64 (oc5 s))) T (Zq (Zrm rfl (T.e 0 rfl))) rfl (Zm 1 rfl rfl) rfl (fun _ T => Zq (rn_shrU rfl (T.e 0 rfl) evc (by omega))) rfl (fun _ T => Zq (rn_addU rfl (T.e 2 rfl) (T.e 0 rfl))) rfl ?_; clear T ac; intro ac T
 refine l_q (v := (.int .u64 (oc5 s))) (T.pick [0, 1, 2, 3] rfl) rfl rfl rfl rfl (Zra rfl (T.e 0 rfl)) ?_; clear T ac; intro ac T
 replace T := T.pick [0] rfl
 refine Zln ?_
 refine Zsr ?_
 refine Zg4 (v4 := (.int .u64 (oc6 s))) T (Zq (Zrm rfl (T.e 0 rfl))) rfl (Zm 1 rfl rfl) rfl (fun _ T => Zq (rn_shrU rfl (T.e 0 rfl) evc (by omega))) rfl (fun _ T => Zq (rn_addU rfl (T.e 2 rfl) (T.e 0 rfl))) rfl ?_; clear T ac; intro ac T
 refine l_q (v := (.int .u64 (oc6 s))) (T.pick [0, 1, 2, 3] rfl) rfl rfl rfl rfl (Zra rfl (T.e 0 rfl)) ?_; clear T ac; intro ac T
 replace T := T.pick [0] rfl
 refine Zln ?_
 refine Zsr ?_
 refine Zg4 (v3 := (.int .i64 (ocI s))) T (Zq (Zrm rfl (T.e 0 rfl))) rfl (fun _ T => Zq (rn_cvt rfl Tryz.underlying84 Tryz.underlying3 (T.e 0 rfl))) rfl (fun _ T => Zq (rn_and rfl (T.e 0 rfl) evc)) rfl (Za 0 rfl rfl) rfl ?_; clear T ac; intro ac T
 replace T := T.pick [0] rfl
 refine Zln ?_
 refine wp_ret ?_
 refine rt_1 T rfl (T.e 0 rfl) ?_
 exact ⟨ret_int (oc_pop s hs), M.below⟩
theorem ones_any (s : Nat) (w : World) (hs : s < 32) :
  Calls Tryz.prog 223 #[.int .u64 (s : Int)] w fun e w' => e = .returned (.int .i64 (popP s : Int)) ∧ Below w.heap.size w w' := by
 refine Zpx noEx Tryz.func223 rfl 8 rfl [.int .u64 (s : Int)] rfl rfl (Mem.init w _) ?_
 intro ac wc T M
 refine Zsr ?_
 refine lq T (Zra rfl evc) ?_; clear T ac; intro ac T
 replace T := T.pick [1] rfl
 refine Zln ?_
 refine wp_seq ?_
 refine wp_cond_false evc ?_
 refine Zsk ?_
 refine Zsr ?_
 refine lq T (Zrm rfl (T.e 0 rfl)) ?_; clear T ac; intro ac T
 refine Zl2 ?_
 refine Zoc (first := []) (cap := []) T rfl rfl rfl rfl evf (.cons (T.e 0 rfl) .nil) Tryz.func252 rfl rfl ?_
 refine Calls.mono (ones64_any s _ (by omega)) ?_
 clear T; rintro e wc ⟨rfl, hb⟩ ac T
 replace M := M.call hb; clear hb
 refine lq T (Zra rfl (T.e 0 rfl)) ?_; clear T ac; intro ac T
 replace T := T.pick [0] rfl
 refine Zln ?_
 refine wp_ret ?_
 refine rt_1 T rfl (T.e 0 rfl) ?_
 exact ⟨rfl, M.below⟩
theorem many_any (s : Nat) (w : World) (hs : s < 32) :
  Calls Tryz.prog 185 #[.int .u64 (s : Int)] w fun e w' => e = .returned (.int .i64 (popP s : Int)) ∧ Below w.heap.size w w' := by
 refine Zpx noEx Tryz.func185 rfl 5 rfl [.int .u64 (s : Int)] rfl rfl (Mem.init w _) ?_
 intro ac wc T M
 refine Zsr ?_
 refine lq T (Zra rfl evc) ?_; clear T ac; intro ac T
 replace T := T.pick [1] rfl
 refine Zln ?_
 refine Zsr ?_
 refine lq T (Zrm rfl (T.e 0 rfl)) ?_; clear T ac; intro ac T
 refine Zl2 ?_
 refine Zoc (first := []) (cap := []) T rfl rfl rfl rfl evf (.cons (T.e 0 rfl) .nil) Tryz.func223 rfl rfl ?_
 refine Calls.mono (ones_any s _ (by omega)) ?_
 clear T; rintro e wc ⟨rfl, hb⟩ ac T
 replace M := M.call hb; clear hb
 refine lq T (Zra rfl (T.e 0 rfl)) ?_; clear T ac; intro ac T
 replace T := T.pick [0] rfl
 refine Zln ?_
 refine wp_ret ?_
 refine rt_1 T rfl (T.e 0 rfl) ?_
 exact ⟨rfl, M.below⟩
theorem tz64_any (s : Nat) (w : World) (hs : s < 32) (h1 : popP s = 1) (hT : TabW w) :
   Calls Tryz.prog 255 #[.int .u64 (s : Int)] w fun e w' => e = .returned (.int .i64 (onlyP s : Int)) ∧ Below w.heap.size w w' := by
 have hs0 : s ≠ 0 := fun e => by rw [e] at h1; simp [popP] at h1
 have hzb := tz_bd s hs
 obtain ⟨k, hk⟩ : ∃ k : Nat, tzI s = (k : Int) := ⟨(tzI s).toNat, by omega⟩
 have hz9 := tz_only s hs h1
 rw [show (tzI s).toNat = k by omega] at hz9
 refine Zpx noEx Tryz.func255 rfl 14 rfl [.int .u64 (s : Int)] rfl rfl (Mem.init w _) ?_
 intro ac wc T M
 refine Zsr ?_
 refine lq T (Zra rfl evc) ?_; clear T ac; intro ac T
 replace T := T.pick [1] rfl
 refine Zln ?_
 refine wp_seq ?_
 refine Zsr ?_
 refine Zg2 T (Zq (Zrm rfl (T.e 0 rfl))) rfl (fun _ T => Zq (rn_eql rfl (T.e 0 rfl) evc)) rfl ?_; clear T ac; intro ac T
 replace T := T.pick [0, 2] rfl
 refine Zln ?_
 refine wp_if (T.e 0 rfl) ?_ ?_
 ·intro h1
  exfalso
  omega
 intro h1
 refine Zsk ?_
 refine Zsr ?_
 refine Zg8 (v6 := (.int .u64 (tzI s))) (v7 := (.pointer (some ((⟨8, 0, none⟩ : Addr).add (k * 1))))) (v8 := (.int .u8 (tabL.getD k 0))) T (Zq (Zrm rfl (T.e 1 rfl))) rfl (Zm 2 rfl rfl) rfl (fun _ T => Zq (rn_negU rfl (T.e 0 rfl))) rfl (fun _ T => Zq (rn_andU rfl (T.e 2 rfl) (T.e 0 rfl))) rfl (fun _ T => Zq (rn_mulU rfl (T.e 0 rfl) evc)) rfl (fun _ T => Zq (rn_shrU rfl (T.e 0 rfl) evc (by omega))) rfl (fun _ T => Zq (rn_indexG (size := 1) k rfl rfl (T.e 0 rfl) hk Tryz.underlying361 (by kernel_rfl) (by omega))) rfl (fun _ T => Zq (rn_cell ((hT.mem0 M).cell k (by omega)) rfl (T.e 0 rfl))) rfl ?_; clear T ac; intro ac T
 refine Zg2 T (Zq (rn_cvt rfl Tryz.underlying5 Tryz.underlying3 (T.e 0 rfl))) rfl (Za 0 rfl rfl) rfl ?_; clear T ac; intro ac T
 replace T := T.pick [0] rfl
 refine Zln ?_
 refine wp_ret ?_
 refine rt_1 T rfl (T.e 0 rfl) ?_
 exact ⟨ret_int hz9, M.below⟩
theorem tz_any (s : Nat) (w : World) (hs : s < 32) (h1 : popP s = 1) (hT : TabW w) :
  Calls Tryz.prog 226 #[.int .u64 (s : Int)] w fun e w' => e = .returned (.int .i64 (onlyP s : Int)) ∧ Below w.heap.size w w' := by
 refine Zpx noEx Tryz.func226 rfl 8 rfl [.int .u64 (s : Int)] rfl rfl (Mem.init w _) ?_
 intro ac wc T M
 refine Zsr ?_
 refine lq T (Zra rfl evc) ?_; clear T ac; intro ac T
 replace T := T.pick [1] rfl
 refine Zln ?_
 refine wp_seq ?_
 refine wp_cond_false evc ?_
 refine Zsk ?_
 refine Zsr ?_
 refine lq T (Zrm rfl (T.e 0 rfl)) ?_; clear T ac; intro ac T
 refine Zl2 ?_
 refine Zoc (first := []) (cap := []) T rfl rfl rfl rfl evf (.cons (T.e 0 rfl) .nil) Tryz.func255 rfl rfl ?_
 refine Calls.mono (tz64_any s _ (by omega) h1 (hT.mem0 M)) ?_
 clear T; rintro e wc ⟨rfl, hb⟩ ac T
 replace M := M.call hb; clear hb
 refine lq T (Zra rfl (T.e 0 rfl)) ?_; clear T ac; intro ac T
 replace T := T.pick [0] rfl
 refine Zln ?_
 refine wp_ret ?_
 refine rt_1 T rfl (T.e 0 rfl) ?_
 exact ⟨rfl, M.below⟩
theorem only_any (s : Nat) (w : World) (hs : s < 32) (h1 : popP s = 1) (hT : TabW w) :
  Calls Tryz.prog 188 #[.int .u64 (s : Int)] w fun e w' => e = .returned (.int .i64 (onlyP s : Int)) ∧ Below w.heap.size w w' := by
 refine Zpx noEx Tryz.func188 rfl 5 rfl [.int .u64 (s : Int)] rfl rfl (Mem.init w _) ?_
 intro ac wc T M
 refine Zsr ?_
 refine lq T (Zra rfl evc) ?_; clear T ac; intro ac T
 replace T := T.pick [1] rfl
 refine Zln ?_
 refine Zsr ?_
 refine lq T (Zrm rfl (T.e 0 rfl)) ?_; clear T ac; intro ac T
 refine Zl2 ?_
 refine Zoc (first := []) (cap := []) T rfl rfl rfl rfl evf (.cons (T.e 0 rfl) .nil) Tryz.func226 rfl rfl ?_
 refine Calls.mono (tz_any s _ (by omega) h1 (hT.mem0 M)) ?_
 clear T; rintro e wc ⟨rfl, hb⟩ ac T
 replace M := M.call hb; clear hb
 refine lq T (Zra rfl (T.e 0 rfl)) ?_; clear T ac; intro ac T
 replace T := T.pick [0] rfl
 refine Zln ?_
 refine wp_ret ?_
 refine rt_1 T rfl (T.e 0 rfl) ?_
 exact ⟨rfl, M.below⟩
def PartsPost (s : Nat) (w : World) (e : Ending) (w' : World) : Prop := ∃ g, e = .returned (.func (.func 253) #[] #[.pointer (some ⟨g, 0, none⟩)]) ∧ Mem w noEx w' [(g, .cells [.int .u64 (s : Int)])]
theorem parts_any (s : Nat) (w : World)  :
  Calls Tryz.prog 225 #[.int .u64 (s : Int)] w (PartsPost s w) := by
 refine Zpx noEx Tryz.func225 rfl 4 rfl [.int .u64 (s : Int)] rfl rfl (Mem.init w _) ?_
 intro ac wc T M
 refine Zsr ?_
 refine Zl2 ?_
 refine Zob M T rfl rfl rfl rfl (T.e 0 rfl) rfl ?_; clear M T; intro g1 wc ac M T
 refine lq T (Zra rfl evc) ?_; clear T ac; intro ac T
 replace T := T.pick [1] rfl
 refine Zln ?_
 refine Zsr ?_
 refine Zg2 (v1 := (.func (.func 253) #[] #[.pointer (some ⟨g1, 0, none⟩)])) T (Zq (rn_makeFunc rfl .nil (.cons (T.e 0 rfl) .nil))) rfl (Za 0 rfl rfl) rfl ?_; clear T ac; intro ac T
 replace T := T.pick [0] rfl
 refine Zln ?_
 refine wp_ret ?_
 refine rt_1 T rfl (T.e 0 rfl) ?_
 exact ⟨g1, rfl, M⟩
set_option maxHeartbeats 2000000 in
theorem parts1_in (lr b1 B : Nat) (eb : Nat → Prop) (s : Nat) (J Jx : List (Pu s) → World → Prop)  (w : World) (hs : s < 32) (hs0 : 0 < s) (hx1 : ¬ (b1 = lr ∨ eb b1)) (hB : B ≤ w.heap.size) (hJ : Calm B J)
   (hY : ∀ pre x W1, J pre W1 → True → YieldAt Fence.wide 6 Tryz.prog lr (puV x).toArray W1 fun e W' =>
     (e = .returned (.bool true) ∧ J (pre ++ [x]) W' ∧ KpB lr eb W1 W') ∨ (e = .returned (.bool false) ∧ Jx (pre ++ [x]) W' ∧ KpB lr eb W1 W'))
   (q1 : Bk w b1 #[.int .u64 (s : Int)]) (hj : J [] w) :
   Calls Tryz.prog 253 #[.func (.yield lr) #[] #[], .pointer (some ⟨b1, 0, none⟩)] w fun e W' => (∃ v, e = .returned v) ∧ ((∃ xs : List (Pu s), xs.map (·.1) = partsP s ∧ J xs W') ∨ (∃ pre : List (Pu s), pre.map (·.1) <+: partsP s ∧ Jx pre W')) := by
 refine Zpx noEx Tryz.func253 rfl 22 rfl [.func (.yield lr) #[] #[], .pointer (some ⟨b1, 0, none⟩)] rfl rfl (Mem.init w _) ?_
 intro ac wc T M
 refine Zsr ?_
 refine lq T (Zra rfl evc) ?_; clear T ac; intro ac T
 refine Zln ?_
 refine wp_block ?_
 refine wp_loop_n (fun mz ac wc => ∃ (w : World) (x : Nat) (pre : List (Pu s)), mz = s - x ∧ (1 ≤ x) ∧ (x ≤ s) ∧ (pre.map (·.1) = qP s x) ∧ (J pre w) ∧ (Bk w b1 #[.int .u64 (s : Int)]) ∧ (B ≤ w.heap.size) ∧ Tm ac 22 [(0, .func (.yield lr) #[] #[]), (1, .pointer (some ⟨b1, 0, none⟩)), (3, .int .u64 (x : Int))] ∧ Mem w noEx wc []) ?_ ?_
 ·exact ⟨_, w, 1, [], rfl, (by omega), (by omega), (by simp [qP, List.range_succ]), hj, q1, hB, T.pick [1, 2, 0] rfl, M.mask [] rfl⟩
 clear T M
 rintro mz ac wc ⟨w, x, pre, hmm1, hx0, hx, hp, hj, q1, hB, T, M⟩
 refine wp_seq ?_
 refine Zsr ?_
 refine Zg3 T (Zq (Zrm rfl (T.e 2 rfl))) rfl (fun _ T => Zq (Zro (Mem.old M q1 (fun h => h)) rfl (T.e 2 rfl) rfl)) rfl (fun _ T => Zq (rn_lss rfl (T.e 1 rfl) (T.e 0 rfl))) rfl ?_; clear T ac; intro ac T
 replace T := T.pick [0, 3, 4, 5] rfl
 refine Zln ?_
 refine wp_if (T.e 0 rfl) ?_ ?_
 ·intro h1
  refine Zsk ?_
  refine wp_seq ?_
  refine wp_block ?_
  refine wp_seq ?_
  refine fr_lit ?_
  refine fl_q T rfl rfl rfl rfl (Zrm rfl (T.e 3 rfl)) ?_; clear T ac; intro ac T
  refine fl_q T rfl rfl rfl rfl (Zro (Mem.old M q1 (fun h => h)) rfl (T.e 3 rfl) rfl) ?_; clear T ac; intro ac T
  refine fl_q T rfl rfl rfl rfl (rn_anU rfl (T.e 1 rfl) (T.e 0 rfl)) ?_; clear T ac; intro ac T
  refine fl_q T rfl rfl rfl rfl (rn_eql rfl (T.e 0 rfl) evc) ?_; clear T ac; intro ac T
  refine fl_q T rfl rfl rfl rfl (Zrm rfl (T.e 0 rfl)) ?_; clear T ac; intro ac T
  rcases Bool.eq_false_or_eq_true (decide ((uanI (x : Int) (s : Int)) = 0)) with h2 | h2
  ·replace h2 := of_decide_eq_true h2
   have hsub := (uan_sub s hs x (by omega)).1.1 h2
   refine fl_q T (Zwy rfl rfl (T.e 0 rfl) (Zdt h2)) rfl rfl rfl (Zrm rfl (T.e 6 rfl)) ?_; clear T ac; intro ac T
   refine fl_q T (Zwy rfl rfl (T.e 1 rfl) (Zdt h2)) rfl rfl rfl (Zrm rfl (T.e 9 rfl)) ?_; clear T ac; intro ac T
   refine fl_q T (Zwy rfl rfl (T.e 2 rfl) (Zdt h2)) rfl rfl rfl (Zro (Mem.old M q1 (fun h => h)) rfl (T.e 9 rfl) rfl) ?_; clear T ac; intro ac T
   refine fl_q T (Zwy rfl rfl (T.e 3 rfl) (Zdt h2)) rfl rfl rfl (Zrm rfl (T.e 11 rfl)) ?_; clear T ac; intro ac T
   refine fl_q T (Zwy rfl rfl (T.e 4 rfl) (Zdt h2)) rfl rfl rfl (rn_anU rfl (T.e 1 rfl) (T.e 0 rfl)) ?_; clear T ac; intro ac T
   refine fl_y (Zwy rfl rfl (T.e 5 rfl) (Zdt h2)) ?_; intro K hK
   have hj := hJ _ _ _ hj (KpN.of_below M.below)
   have q1 := M.old q1 (fun h => h)
   have hB := Nat.le_trans hB M.size
   have he9 := (uan_sub s hs x (by omega)).2 hsub
   rw [he9] at T
   have hmem : x ∈ partsP s := mem_parts.2 ⟨by omega, by omega, hsub⟩
   refine ow_yield T rfl rfl rfl rfl (T.e 4 rfl) (.cons (T.e 3 rfl) (.cons (T.e 0 rfl) .nil)) (hY pre ⟨x, hmem⟩ _ hj trivial) ?_
   clear T M
   rintro e wc (⟨rfl, hj, hkp⟩ | ⟨rfl, hjx, -⟩)
   ·refine ⟨_, rfl, ?_⟩
    intro ac T
    have q1 := Mem.old hkp q1 hx1
    have hB := Nat.le_trans hB hkp.size
    have hp : (pre ++ [(⟨x, hmem⟩ : Pu s)]).map (·.1) = qP s (x + 1) := by rw [List.map_append, hp, qP_snoc hsub (by omega)]; rfl
    obtain ⟨w, hwe⟩ : ∃ q : World, q = wc := ⟨_, rfl⟩
    have M : Mem w noEx wc [] := by rw [hwe]; exact Mem.init wc _
    rw [← hwe] at hj q1 hB
    clear hwe
    obtain ⟨pre, hpe⟩ : ∃ q, q = pre ++ [(⟨x, hmem⟩ : Pu s)] := ⟨_, rfl⟩
    rw [← hpe] at hp hj
    clear hpe
    refine Zso hK _ _ ?_; clear hK K
    refine fl_q (v := (.bool false)) T (Zwy rfl rfl (T.e 6 rfl) (Zdt h2)) rfl rfl rfl (Zrq (rn_not rfl (T.e 0 rfl)) (by simp)) ?_; clear T ac; intro ac T
    refine fl_q T rfl rfl rfl rfl (Zr1 rfl (T.e 7 rfl) (Zdt h2) (T.e 0 rfl)) ?_; clear T ac; intro ac T
    refine fl_nil ?_
    replace T := T.pick [0, 1, 2, 3, 4, 5, 6, 7, 14, 15, 16] rfl
    refine nm_then ?_
    refine wp_cond_false (T.e 0 rfl) ?_
    refine wp_skip ?_
    refine Znb ?_
    refine nm_then ?_
    refine wp_region_lit ?_
    refine Zg2 T (Zq (Zrm rfl (T.e 10 rfl))) rfl (fun _ T => Zq (rn_addU rfl (T.e 0 rfl) evc)) rfl ?_; clear T ac; intro ac T
    refine l_q (v := (.int .u64 (uaddI (x : Int) 1))) (T.pick [0, 1, 2, 3, 4, 5, 6, 7, 8, 9, 10, 11] rfl) rfl rfl rfl rfl (Zra rfl (T.e 0 rfl)) ?_; clear T ac; intro ac T
    replace T := T.pick [0, 4, 5, 6, 7, 8, 9, 10, 11, 12] rfl
    refine Zln ?_
    rw [uadd_one x (by omega)] at T
    exact ⟨_, by omega, w, x + 1, pre, rfl, (by omega), (by omega), hp, hj, q1, hB, T.pick [8, 9, 0] rfl, M.mask [] rfl⟩
   refine ⟨_, rfl, ?_⟩
   intro ac T
   have M : Mem wc noEx wc [] := Mem.init wc _
   refine Zso hK _ _ ?_; clear hK K
   refine fl_q (v := (.bool true)) T (Zwy rfl rfl (T.e 6 rfl) (Zdt h2)) rfl rfl rfl (Zrq (rn_not rfl (T.e 0 rfl)) (by simp)) ?_; clear T ac; intro ac T
   refine fl_q T rfl rfl rfl rfl (Zr1 rfl (T.e 7 rfl) (Zdt h2) (T.e 0 rfl)) ?_; clear T ac; intro ac T
   refine fl_nil ?_
   replace T := T.pick [0, 1, 2, 3, 4, 5, 6, 7, 14, 15, 16] rfl
   refine nm_then ?_
   refine wp_cond_true (T.e 0 rfl) ?_
   refine wp_ret ?_
   refine Zrb ?_
   refine Zrt ?_
   refine Zrt ?_
   refine Zrb ?_
   refine rt_0 T rfl ?_
   exact ⟨⟨_, rfl⟩, .inr ⟨_, by rw [List.map_append, hp]; exact (qP_snoc hsub (by omega)) ▸ qP_pre (by omega), hjx⟩⟩
  replace h2 := of_decide_eq_false h2
  have hsub : ¬ (x &&& s = x) := fun h9 => h2 ((uan_sub s hs x (by omega)).1.2 h9)
  rw [← qP_skip hsub] at hp
  refine fl_pass T (Zwn rfl rfl (T.e 0 rfl) (Zdf h2)) rfl rfl rfl ?_; clear T ac; intro ac T
  refine fl_pass T (Zwn rfl rfl (T.e 1 rfl) (Zdf h2)) rfl rfl rfl ?_; clear T ac; intro ac T
  refine fl_pass T (Zwn rfl rfl (T.e 2 rfl) (Zdf h2)) rfl rfl rfl ?_; clear T ac; intro ac T
  refine fl_pass T (Zwn rfl rfl (T.e 3 rfl) (Zdf h2)) rfl rfl rfl ?_; clear T ac; intro ac T
  refine fl_pass T (Zwn rfl rfl (T.e 4 rfl) (Zdf h2)) rfl rfl rfl ?_; clear T ac; intro ac T
  refine fl_pass T (Zwn rfl rfl (T.e 5 rfl) (Zdf h2)) rfl rfl rfl ?_; clear T ac; intro ac T
  refine fl_pass T (Zwn rfl rfl (T.e 6 rfl) (Zdf h2)) rfl rfl rfl ?_; clear T ac; intro ac T
  refine fl_q T rfl rfl rfl rfl (Zr0 rfl (T.e 7 rfl) (Zdf h2) evc) ?_; clear T ac; intro ac T
  refine fl_nil ?_
  replace T := T.pick [0, 1, 2, 3, 4, 5, 6, 7, 14, 15, 16] rfl
  refine nm_then ?_
  refine wp_cond_false (T.e 0 rfl) ?_
  refine wp_skip ?_
  refine Znb ?_
  refine nm_then ?_
  refine wp_region_lit ?_
  refine Zg2 T (Zq (Zrm rfl (T.e 10 rfl))) rfl (fun _ T => Zq (rn_addU rfl (T.e 0 rfl) evc)) rfl ?_; clear T ac; intro ac T
  refine l_q (v := (.int .u64 (uaddI (x : Int) 1))) (T.pick [0, 1, 2, 3, 4, 5, 6, 7, 8, 9, 10, 11] rfl) rfl rfl rfl rfl (Zra rfl (T.e 0 rfl)) ?_; clear T ac; intro ac T
  replace T := T.pick [0, 4, 5, 6, 7, 8, 9, 10, 11, 12] rfl
  refine Zln ?_
  rw [uadd_one x (by omega)] at T
  exact ⟨_, by omega, w, x + 1, pre, rfl, (by omega), (by omega), hp, hj, q1, hB, T.pick [8, 9, 0] rfl, M.mask [] rfl⟩
 intro h1
 refine wp_exit ?_
 refine Zet ?_
 refine Zet ?_
 refine ex_hit ?_
 refine nm_0 T rfl ?_
 exact ⟨⟨_, rfl⟩, .inl ⟨pre, by rw [hp, show x = s by omega]; rfl, hJ _ _ _ hj (KpN.of_below M.below)⟩⟩
theorem parts1_seq (b1 : Nat) (eb : Nat → Prop) (s : Nat) (w : World) (hs : s < 32) (hs0 : 0 < s) (hx1 : ¬ eb b1) (q1 : Bk w b1 #[.int .u64 (s : Int)]) :
   SeqB (α := Pu s) Tryz.prog 253 #[.pointer (some ⟨b1, 0, none⟩)] (fun x => (puV x).toArray) eb (fun _ _ => True) (fun xs => xs.map (·.1) = partsP s) (fun pre => pre.map (·.1) <+: partsP s) w :=
 fun lr J Jx W hW hl1 hl2 hJ _ hY hj => parts1_in lr b1 W.heap.size eb s J Jx W hs hs0 (fun h => h.elim (fun h => by have := q1.lt; omega) hx1) (Nat.le_refl _) hJ hY (q1.below hW) hj
abbrev Ru (r : Rm) := { q : Two2 // q ∈ roomsP r }
def twL (q : Two2) : List Value := [.agg #[.int .u64 (q.a.s : Int), .int .i64 q.a.lo, .int .i64 q.a.wi, .int .u64 (q.b.s : Int), .int .i64 q.b.lo, .int .i64 q.b.wi], .agg #[.int .i64 q.x, .int .i64 q.y]]
def lgP (r : Rm) (k a : Nat) : Two2 := ⟨⟨a, (k : Int), r.wi⟩, ⟨r.s - a, r.lo - (k : Int), r.wi⟩, (k : Int), 0⟩
def wdP (r : Rm) (k a : Nat) : Two2 := ⟨⟨a, r.lo, (k : Int)⟩, ⟨r.s - a, r.lo, r.wi - (k : Int)⟩, 0, (k : Int)⟩
theorem map_pu {s : Nat} {β : Type} (f : Nat → β) (pre : List (Pu s)) : pre.map (fun a => f a.1) = (pre.map (fun a => a.1)).map f := by rw [List.map_map]; rfl
def rlQ (r : Rm) (k : Nat) : List Two2 := (List.range (k - 1)).flatMap fun j => longP r (j + 1)
def rwQ (r : Rm) (k : Nat) : List Two2 := (List.range (k - 1)).flatMap fun j => wideP r (j + 1)
theorem rlQ_succ {r : Rm} {k : Nat} (h : 1 ≤ k) : rlQ r (k + 1) = rlQ r k ++ longP r k := by
 unfold rlQ
 rw [show k + 1 - 1 = (k - 1) + 1 by omega, List.range_succ, List.flatMap_append]
 simp [show k - 1 + 1 = k by omega]
theorem rwQ_succ {r : Rm} {k : Nat} (h : 1 ≤ k) : rwQ r (k + 1) = rwQ r k ++ wideP r k := by
 unfold rwQ
 rw [show k + 1 - 1 = (k - 1) + 1 by omega, List.range_succ, List.flatMap_append]
 simp [show k - 1 + 1 = k by omega]
theorem rooms_eq {r : Rm} {kl kw : Nat} (h1 : (kl : Int) = max 1 r.lo) (h2 : (kw : Int) = max 1 r.wi) : roomsP r = rlQ r kl ++ rwQ r kw := by
 unfold roomsP rlQ rwQ
 rw [show (r.lo - 1).toNat = kl - 1 by omega, show (r.wi - 1).toNat = kw - 1 by omega]
theorem rlQ_mono {r : Rm} {k : Nat} (h : 1 ≤ k) : ∀ (n : Nat), rlQ r k <+: rlQ r (k + n)
 | 0 => List.prefix_refl _
 | n + 1 => (rlQ_mono h n).trans (by rw [show k + (n + 1) = k + n + 1 by omega, rlQ_succ (by omega)]; exact List.prefix_append _ _)
theorem rwQ_mono {r : Rm} {k : Nat} (h : 1 ≤ k) : ∀ (n : Nat), rwQ r k <+: rwQ r (k + n)
 | 0 => List.prefix_refl _
 | n + 1 => (rwQ_mono h n).trans (by rw [show k + (n + 1) = k + n + 1 by omega, rwQ_succ (by omega)]; exact List.prefix_append _ _)
theorem pre_long {r : Rm} {k : Nat} {l : List Nat} (h : l <+: partsP r.s) (h1 : 1 ≤ k) (h2 : (k : Int) < r.lo) : rlQ r k ++ l.map (lgP r k) <+: roomsP r := by
 have e1 : rlQ r k ++ l.map (lgP r k) <+: rlQ r (k + 1) := by
  rw [rlQ_succ h1]
  exact (List.prefix_append_right_inj _).2 (List.IsPrefix.map _ h)
 obtain ⟨kl, hl⟩ : ∃ kl : Nat, (kl : Int) = max 1 r.lo := ⟨(max 1 r.lo).toNat, by omega⟩
 obtain ⟨kw, hw⟩ : ∃ kw : Nat, (kw : Int) = max 1 r.wi := ⟨(max 1 r.wi).toNat, by omega⟩
 rw [rooms_eq hl hw]
 have e2 := rlQ_mono (r := r) (k := k + 1) (by omega) (kl - (k + 1))
 rw [show k + 1 + (kl - (k + 1)) = kl by omega] at e2
 exact (e1.trans e2).trans (List.prefix_append _ _)
theorem pre_wide {r : Rm} {k kl : Nat} {l : List Nat} (hl : (kl : Int) = max 1 r.lo) (h : l <+: partsP r.s) (h1 : 1 ≤ k) (h2 : (k : Int) < r.wi) : rlQ r kl ++ (rwQ r k ++ l.map (wdP r k)) <+: roomsP r := by
 have e1 : rwQ r k ++ l.map (wdP r k) <+: rwQ r (k + 1) := by
  rw [rwQ_succ h1]
  exact (List.prefix_append_right_inj _).2 (List.IsPrefix.map _ h)
 obtain ⟨kw, hw⟩ : ∃ kw : Nat, (kw : Int) = max 1 r.wi := ⟨(max 1 r.wi).toNat, by omega⟩
 rw [rooms_eq hl hw]
 have e2 := rwQ_mono (r := r) (k := k + 1) (by omega) (kw - (k + 1))
 rw [show k + 1 + (kw - (k + 1)) = kw by omega] at e2
 exact (List.prefix_append_right_inj _).2 (e1.trans e2)
theorem lg_mem {r : Rm} {k a : Nat} (h : a ∈ partsP r.s) (h1 : 1 ≤ k) (h2 : (k : Int) < r.lo) : lgP r k a ∈ roomsP r := mem_rooms.2 (.inl ⟨k, by omega, h2, List.mem_map.2 ⟨a, h, rfl⟩⟩)
theorem wd_mem {r : Rm} {k a : Nat} (h : a ∈ partsP r.s) (h1 : 1 ≤ k) (h2 : (k : Int) < r.wi) : wdP r k a ∈ roomsP r := mem_rooms.2 (.inr ⟨k, by omega, h2, List.mem_map.2 ⟨a, h, rfl⟩⟩)
def RoomsPost (r : Rm) (w : World) (e : Ending) (w' : World) : Prop := ∃ g, e = .returned (.func (.func 224) #[] #[.pointer (some ⟨g, 0, none⟩)]) ∧ Mem w noEx w' [(g, .cells [.int .u64 (r.s : Int), .int .i64 r.lo, .int .i64 r.wi])]
theorem rooms_any (r : Rm) (w : World)  :
  Calls Tryz.prog 187 #[.agg #[.int .u64 (r.s : Int), .int .i64 r.lo, .int .i64 r.wi]] w (RoomsPost r w) := by
 refine Zpx noEx Tryz.func187 rfl 4 rfl [.agg #[.int .u64 (r.s : Int), .int .i64 r.lo, .int .i64 r.wi]] rfl rfl (Mem.init w _) ?_
 intro ac wc T M
 refine Zsr ?_
 refine Zl2 ?_
 refine Zob M T rfl rfl rfl rfl (T.e 0 rfl) rfl ?_; clear M T; intro g1 wc ac M T
 refine lq T (Zra rfl evc) ?_; clear T ac; intro ac T
 replace T := T.pick [1] rfl
 refine Zln ?_
 refine Zsr ?_
 refine Zg2 (v1 := (.func (.func 224) #[] #[.pointer (some ⟨g1, 0, none⟩)])) T (Zq (rn_makeFunc rfl .nil (.cons (T.e 0 rfl) .nil))) rfl (Za 0 rfl rfl) rfl ?_; clear T ac; intro ac T
 replace T := T.pick [0] rfl
 refine Zln ?_
 refine wp_ret ?_
 refine rt_1 T rfl (T.e 0 rfl) ?_
 exact ⟨g1, rfl, M⟩
set_option maxHeartbeats 4000000 in
theorem rooms1_in (lr b1 B : Nat) (eb : Nat → Prop) (r : Rm) (J Jx : List (Ru r) → World → Prop)  (w : World) (hs : r.s < 32) (hs0 : 0 < r.s) (hlo : 0 ≤ r.lo ∧ r.lo ≤ 100) (hwi : 0 ≤ r.wi ∧ r.wi ≤ 100) (hx1 : ¬ (b1 = lr ∨ eb b1)) (hlr : lr < B) (heb : ∀ b, eb b → b < B) (hB : B ≤ w.heap.size) (hJ : Calm B J) (hJx : Calm B Jx)
   (hY : ∀ pre x W1, J pre W1 → True → YieldAt Fence.wide 6 Tryz.prog lr (twL x.1).toArray W1 fun e W' =>
     (e = .returned (.bool true) ∧ J (pre ++ [x]) W' ∧ KpB lr eb W1 W') ∨ (e = .returned (.bool false) ∧ Jx (pre ++ [x]) W' ∧ KpB lr eb W1 W'))
   (q1 : Bk w b1 #[.int .u64 (r.s : Int), .int .i64 r.lo, .int .i64 r.wi]) (hj : J [] w) :
   Calls Tryz.prog 224 #[.func (.yield lr) #[] #[], .pointer (some ⟨b1, 0, none⟩)] w fun e W' => (∃ v, e = .returned v) ∧ ((∃ xs : List (Ru r), xs.map (·.1) = roomsP r ∧ J xs W') ∨ (∃ pre : List (Ru r), pre.map (·.1) <+: roomsP r ∧ Jx pre W')) := by
 have hDs := DsOk.nil B w.heap.size w
 have hp0 : (([] : List (Ru r)).map (·.1)) = rlQ r 1 := rfl
 refine px_enterM noEx Tryz.func224 rfl 71 rfl [.func (.yield lr) #[] #[], .pointer (some ⟨b1, 0, none⟩)] rfl rfl (Mem.init w _) ?_
 intro ac wc T M
 refine Zsr ?_
 refine Zl2 ?_
 refine Zob M T rfl rfl rfl rfl (T.e 0 rfl) rfl ?_; clear M T; intro g1 wc ac M T
 replace T := T.pick [0, 2] rfl
 refine Zln ?_
 refine wp_seq ?_
 refine Zsr ?_
 refine Zl2 ?_
 refine Zoa M T rfl rfl rfl rfl ?_; clear M T; intro g2 wc ac M T
 refine Zl2 ?_
 refine Zos M T rfl rfl (T.e 0 rfl) evc rfl .head rfl (by simp) rfl (by kernel_rfl) ?_; clear M T; intro wc ac M T
 refine Zln ?_
 refine wp_block ?_
 have qy := M.nth 1 rfl
 have hby : B ≤ g1 := Nat.le_trans hB (M.ge (Zne (i := 1) rfl))
 have qx := M.nth 0 rfl
 have hbx : B ≤ g2 := Nat.le_trans hB (M.ge (Zne (i := 0) rfl))
 have hj := hJ _ _ _ hj (KpN.of_below M.below)
 have q1 := M.old q1 (fun h => h)
 have hDs := hDs.below M.below M.size
 have hB := Nat.le_trans hB M.size
 clear M
 obtain ⟨w, hwe⟩ : ∃ q : World, q = wc := ⟨_, rfl⟩
 have M : Mem w noEx wc [] := by rw [hwe]; exact Mem.init wc _
 rw [← hwe] at hj q1 qy qx hDs hB
 clear hwe
 refine wp_loop_n (fun mz ac wc => ∃ (w : World) (gx k : Nat) (Ds : List Nat) (preT : List (Ru r)), mz = (max 1 r.lo - (k : Int)).toNat ∧ (1 ≤ k) ∧ ((k : Int) ≤ max 1 r.lo) ∧ (preT.map (·.1) = rlQ r k) ∧ (J preT w) ∧ (Bk w b1 #[.int .u64 (r.s : Int), .int .i64 r.lo, .int .i64 r.wi]) ∧ (Bk w g1 #[.func (.yield lr) #[] #[]]) ∧ (Bk w gx #[.int .i64 (k : Int)]) ∧ (DsOk B w.heap.size Ds w) ∧ (B ≤ w.heap.size) ∧ (B ≤ gx) ∧ TmD (Ds.map dfD) ac 71 [(1, .pointer (some ⟨b1, 0, none⟩)), (2, .pointer (some ⟨g1, 0, none⟩)), (3, .pointer (some ⟨gx, 0, none⟩))] ∧ Mem w noEx wc []) ?_ ?_
 ·exact ⟨_, w, g2, 1, [], [], rfl, (Nat.le_refl _), (by omega), hp0, hj, q1, qy, qx, hDs, hB, hbx, T.pick [2, 1, 0] rfl, M⟩
 clear T M
 rintro mz ac wc ⟨w, gx, k, Ds, preT, hmm1, hk, hk2, hp, hj, q1, qy, qx, hDs, hB, hbx, T, M⟩
 refine wp_seq ?_
 refine Zsr ?_
 refine Zg4 (v2 := (.pointer (some ⟨b1, 1, none⟩))) T (Zq (Zro (Mem.old M qx (fun h => h)) rfl (T.e 2 rfl) rfl)) rfl (Zf 1 1 rfl rfl) rfl (fun _ T => Zq (Zro (Mem.old M q1 (fun h => h)) rfl (T.e 0 rfl) rfl)) rfl (fun _ T => Zq (rn_lss rfl (T.e 2 rfl) (T.e 0 rfl))) rfl ?_; clear T ac; intro ac T
 replace T := T.pick [0, 4, 5, 6] rfl
 refine Zln ?_
 refine wp_if (T.e 0 rfl) ?_ ?_
 ·intro h1
  refine Zsk ?_
  refine wp_seq ?_
  refine wp_block ?_
  refine Zsr ?_
  refine Zg2 (v1 := (.pointer (some ⟨b1, 0, none⟩))) T (Zq (Zrf (off := 0) rfl (T.e 1 rfl) (fun _ _ _ => by kernel_rfl))) rfl (fun _ T => Zq (Zro (Mem.old M q1 (fun h => h)) rfl (T.e 0 rfl) rfl)) rfl ?_; clear T ac; intro ac T
  refine Zl2 ?_
  refine Zoc (first := []) (cap := []) T rfl rfl rfl rfl evf (.cons (T.e 0 rfl) .nil) Tryz.func225 rfl rfl ?_
  refine Calls.mono (parts_any r.s _) ?_
  clear T; rintro e wc ⟨gu1, rfl, N⟩ ac T
  replace M := M.join N; clear N
  replace M := M.mask [true] rfl
  replace T := T.pick [0, 4, 5, 6] rfl
  refine Zln ?_
  refine wp_block ?_
  have qp := M.nth 0 rfl
  have hbp : B ≤ gu1 := Nat.le_trans hB (M.ge (Zne (i := 0) rfl))
  have qy := M.old qy (fun h => h)
  have qx := M.old qx (fun h => h)
  have hj := hJ _ _ _ hj (KpN.of_below M.below)
  have q1 := M.old q1 (fun h => h)
  have hDs := hDs.below M.below M.size
  have hB := Nat.le_trans hB M.size
  obtain ⟨n9, hn9⟩ : ∃ n : Nat, n = wc.heap.size := ⟨_, rfl⟩
  rw [← hn9] at hDs
  clear M
  have M := Mem.init wc (fun b => b = lr ∨ eb b)
  replace T := T.pick [1, 2, 3, 0] rfl
  replace M := M.mask [false] rfl
  refine px_rangeB (α := Pu r.s) (γ := Unit) (n := 71) T (T.e 3 rfl) (enters_of Tryz.func253 (by kernel_rfl) rfl) (fun b => b = lr ∨ eb b) (parts1_seq gu1 (fun b => b = lr ∨ eb b) r.s _ hs hs0 (fun h => h.elim (fun h => by omega) (fun h => by have := heb _ h; omega)) qp) (fun _ => rfl) (fun (pre : List (Pu r.s)) (Lx : List (Nat × BA)) (W : World) => ∃ (preT : List (Ru r)), (preT.map (·.1) = rlQ r k ++ pre.map (fun a => lgP r k a.1)) ∧ (J preT W) ∧ (Bk W b1 #[.int .u64 (r.s : Int), .int .i64 r.lo, .int .i64 r.wi]) ∧ (Bk W g1 #[.func (.yield lr) #[] #[]]) ∧ (Bk W gx #[.int .i64 (k : Int)]) ∧ (DsOk B n9 Ds W) ∧ Lx = []) (fun c9 pre Lx W => c9 = .ret ∧ Lx = [] ∧ (∃ preT : List (Ru r), preT.map (·.1) = rlQ r k ++ pre.map (fun a => lgP r k a.1) ∧ Jx preT W) ∧ DsOk B n9 Ds W)
    (fun x => [(19, .int .u64 ((r.s - x.1 : Nat) : Int)), (18, .int .u64 (x.1 : Int)), (1, .pointer (some ⟨b1, 0, none⟩)), (2, .pointer (some ⟨g1, 0, none⟩)), (3, .pointer (some ⟨gx, 0, none⟩)), (17, .func (.func 253) #[] #[.pointer (some ⟨gu1, 0, none⟩)])]) (fun x _ => [(5, .int .u64 ((r.s - x.1 : Nat) : Int)), (4, .int .u64 (x.1 : Int)), (1, .pointer (some ⟨b1, 0, none⟩)), (2, .pointer (some ⟨g1, 0, none⟩)), (3, .pointer (some ⟨gx, 0, none⟩))]) (fun x _ => []) ?_ ?_ ?_ ?_ ?_ ?_ ?_ ?_ M ?_ ?_ ?_ ?_ ?_ ?_ ?_
  ·rintro pre Lx W ⟨preT, hpT, hj, q1, qy, qx, hDs, rfl⟩ p hp
   cases hp
  ·rintro c9 pre Lx W ⟨rfl, rfl, -⟩ p hp
   cases hp
  ·rintro pre Lx W ⟨preT, hpT, hj, q1, qy, qx, hDs, rfl⟩ p hp
   cases hp
  ·intro b hb
   rcases hb with hb | hb
   · omega
   · have := heb b hb
     omega
  ·intro b hb
   exact .inl hb
  ·exact fun _ _ _ h _ => h
  ·rintro pre Lx W W' ⟨preT, hpT, hj, q1, qy, qx, hDs, rfl⟩ hK
   exact ⟨preT, hpT, (hJ _ _ _ hj (hK.mono hB)), (hK.bk q1), (hK.bk qy), (hK.bk qx), (hDs.kpN hK (by omega)), rfl⟩
  ·rintro c9 pre Lx W W' ⟨rfl, rfl, ⟨preT, hpT, hjx⟩, hDs⟩ hK
   exact ⟨rfl, rfl, ⟨preT, hpT, hJx _ _ _ hjx (hK.mono hB)⟩, hDs.kpN hK (by omega)⟩
  ·exact ⟨preT, (by rw [hp]; simp), hj, q1, qy, qx, hDs, rfl⟩
  ·exact fun x => T.round2 _ _ rfl rfl rfl rfl
  ·intro x c p hp
   cases hp
  ·intro lp9 x wc K1 ac T hK1
   have M := Mem.init wc noEx
   refine wpIn_seq ?_
   refine ri_lit (fun _ _ h => h) rfl ?_
   refine lq T (Zra rfl (T.e 1 rfl)) ?_; clear T ac; intro ac T
   replace T := T.pick [0, 1, 3, 4, 5] rfl
   refine Zln ?_
   refine ri_lit (fun _ _ h => h) rfl ?_
   refine lq T (Zra rfl (T.e 1 rfl)) ?_; clear T ac; intro ac T
   replace T := T.pick [0, 1, 3, 4, 5] rfl
   refine Zln ?_
   exact hK1 () _ _ (T.pick [0, 1, 2, 3, 4] rfl) (M.mask [] rfl)
  ·rintro lp9 pre x ⟨⟩ Lx ac w hj hox hz hlp M0 hnl9 exb wc hexb hwc T M
   obtain ⟨preT, hpT, hj, q1, qy, qx, hDs, rfl⟩ := hj
   replace T : TmD [] ac 71 [(5, .int .u64 ((r.s - x.1 : Nat) : Int)), (4, .int .u64 (x.1 : Int)), (1, .pointer (some ⟨b1, 0, none⟩)), (2, .pointer (some ⟨g1, 0, none⟩)), (3, .pointer (some ⟨gx, 0, none⟩))] := T
   replace M : Mem w exb wc [] := M
   have hn1 : ¬ exb b1 := by rw [hexb]; exact hx1
   have hny : ¬ exb g1 := by rw [hexb]; exact fun h => h.elim (fun h => by omega) (fun h => by have := heb _ h; omega)
   have hnx : ¬ exb gx := by rw [hexb]; exact fun h => h.elim (fun h => by omega) (fun h => by have := heb _ h; omega)
   have hxe : ∀ b, exb b → b < B := by rw [hexb]; exact fun b h => h.elim (fun h => by omega) (heb b)
   refine wpIn_block ?_
   refine wpIn_seq ?_
   refine fri_lit rfl ?_
   refine fl_q T rfl rfl rfl rfl (Zro (Mem.old M qy hny) rfl (T.e 3 rfl) rfl) ?_; clear T ac; intro ac T
   refine fl_q T rfl rfl rfl rfl (Zrm rfl (T.e 2 rfl)) ?_; clear T ac; intro ac T
   refine fl_q T rfl rfl rfl rfl (Zro (Mem.old M qx hnx) rfl (T.e 6 rfl) rfl) ?_; clear T ac; intro ac T
   refine fl_q (v := (.pointer (some ⟨b1, 2, none⟩))) T rfl rfl rfl rfl (Zrf (off := 2) rfl (T.e 5 rfl) (fun _ _ _ => by kernel_rfl)) ?_; clear T ac; intro ac T
   refine fl_q T rfl rfl rfl rfl (Zro (Mem.old M q1 hn1) rfl (T.e 0 rfl) rfl) ?_; clear T ac; intro ac T
   refine fl_q (v := (.agg #[.int .u64 (x.1 : Int), .int .i64 (k : Int), .int .i64 r.wi])) T rfl rfl rfl rfl (rn_build rfl (.cons (T.e 3 rfl) (.cons (T.e 2 rfl) (.cons (T.e 0 rfl) .nil))) (fun _ => by kernel_rfl)) ?_; clear T ac; intro ac T
   refine fl_q T rfl rfl rfl rfl (Zrm rfl (T.e 6 rfl)) ?_; clear T ac; intro ac T
   refine fl_q (v := (.pointer (some ⟨b1, 1, none⟩))) T rfl rfl rfl rfl (Zrf (off := 1) rfl (T.e 9 rfl) (fun _ _ _ => by kernel_rfl)) ?_; clear T ac; intro ac T
   refine fl_q T rfl rfl rfl rfl (Zro (Mem.old M q1 hn1) rfl (T.e 0 rfl) rfl) ?_; clear T ac; intro ac T
   refine fl_q T rfl rfl rfl rfl (Zro (Mem.old M qx hnx) rfl (T.e 13 rfl) rfl) ?_; clear T ac; intro ac T
   refine fl_q T rfl rfl rfl rfl (rn_sub rfl (T.e 1 rfl) (T.e 0 rfl) (by omega)) ?_; clear T ac; intro ac T
   refine fl_q (v := (.pointer (some ⟨b1, 2, none⟩))) T rfl rfl rfl rfl (Zrf (off := 2) rfl (T.e 13 rfl) (fun _ _ _ => by kernel_rfl)) ?_; clear T ac; intro ac T
   refine fl_q T rfl rfl rfl rfl (Zro (Mem.old M q1 hn1) rfl (T.e 0 rfl) rfl) ?_; clear T ac; intro ac T
   refine fl_q (v := (.agg #[.int .u64 ((r.s - x.1 : Nat) : Int), .int .i64 (r.lo - (k : Int)), .int .i64 r.wi])) T rfl rfl rfl rfl (rn_build rfl (.cons (T.e 6 rfl) (.cons (T.e 2 rfl) (.cons (T.e 0 rfl) .nil))) (fun _ => by kernel_rfl)) ?_; clear T ac; intro ac T
   refine fl_q (v := (.agg #[.int .u64 (x.1 : Int), .int .i64 (k : Int), .int .i64 r.wi, .int .u64 ((r.s - x.1 : Nat) : Int), .int .i64 (r.lo - (k : Int)), .int .i64 r.wi])) T rfl rfl rfl rfl (rn_build rfl (.cons (T.e 8 rfl) (.cons (T.e 0 rfl) .nil)) (fun _ => by kernel_rfl)) ?_; clear T ac; intro ac T
   refine fl_q T rfl rfl rfl rfl (Zro (Mem.old M qx hnx) rfl (T.e 19 rfl) rfl) ?_; clear T ac; intro ac T
   refine fl_q (v := (.agg #[.int .i64 (k : Int), .int .i64 0])) T rfl rfl rfl rfl (rn_build rfl (.cons (T.e 0 rfl) (.cons evc .nil)) (fun _ => by kernel_rfl)) ?_; clear T ac; intro ac T
   refine fl_y rfl ?_; intro K hK
   have hmem := lg_mem (r := r) (k := k) x.2 hk (by omega)
   rw [← hwc] at hj
   have hpT9 : (preT ++ [(⟨lgP r k x.1, hmem⟩ : Ru r)]).map (·.1) = rlQ r k ++ (pre ++ [x]).map (fun a => lgP r k a.1) := by rw [List.map_append, hpT, List.map_append]; simp
   refine ow_yield T rfl rfl rfl rfl (T.e 16 rfl) (.cons (T.e 2 rfl) (.cons (T.e 0 rfl) .nil)) (hY preT ⟨lgP r k x.1, hmem⟩ _ hj trivial) ?_
   clear T
   rintro e wc (⟨rfl, hj, hkp⟩ | ⟨rfl, hjx, hkp⟩)
   ·refine ⟨_, rfl, ?_⟩
    intro ac T
    replace M := hkp.mem M (by intro p hp; cases hp) (fun b h => .inl (by rw [hexb]; exact h))
    refine Zso hK _ _ ?_; clear hK K
    refine fl_q (v := (.bool false)) T rfl rfl rfl rfl (Zrq (rn_not rfl (T.e 0 rfl)) (by simp)) ?_; clear T ac; intro ac T
    refine fl_nil ?_
    replace T := T.pick [0, 21, 22, 23] rfl
    refine nm_then ?_
    refine wpIn_cond_false (T.e 0 rfl) ?_
    refine wpIn_skip ?_
    refine Znb ?_
    refine rb_nm (L := []) ?_ (M.mask [] rfl)
    exact ⟨_, hpT9, hj, (M.old q1 hn1), (M.old qy hny), (M.old qx hnx), (hDs.mem M hxe), rfl⟩
   refine ⟨_, rfl, ?_⟩
   intro ac T
   replace M := hkp.mem M (by intro p hp; cases hp) (fun b h => .inl (by rw [hexb]; exact h))
   refine Zso hK _ _ ?_; clear hK K
   refine fl_q (v := (.bool true)) T rfl rfl rfl rfl (Zrq (rn_not rfl (T.e 0 rfl)) (by simp)) ?_; clear T ac; intro ac T
   refine fl_nil ?_
   replace T := T.pick [0, 21, 22, 23] rfl
   refine nm_then ?_
   refine wpIn_cond_true (T.e 0 rfl) ?_
   refine wpIn_ret ?_
   refine Zrb ?_
   refine rb_ret (L := []) ⟨rfl, rfl, ⟨_, hpT9, hjx⟩, hDs.mem M hxe⟩ M
  ·rintro D1 pre Lx ac wc hDn hSd hj hz T M
   obtain ⟨preT, hpT, hj, q1, qy, qx, hDs, rfl⟩ := hj
   replace T : TmD ((D1 :: Ds).map dfD) ac 71 [(1, .pointer (some ⟨b1, 0, none⟩)), (2, .pointer (some ⟨g1, 0, none⟩)), (3, .pointer (some ⟨gx, 0, none⟩)), (17, .func (.func 253) #[] #[.pointer (some ⟨gu1, 0, none⟩)])] := T
   have hDs := hDs.cons M Zz2 (by omega) (by omega) (Nat.le_refl _) (by omega)
   have hB : B ≤ wc.heap.size := by omega
   have hp : preT.map (·.1) = rlQ r (k + 1) := by rw [hpT, rlQ_succ hk, show pre.map (fun a => lgP r k a.1) = longP r k from by rw [map_pu (lgP r k), hSd]; rfl]
   clear M
   obtain ⟨w, hwe⟩ : ∃ q : World, q = wc := ⟨_, rfl⟩
   have M : Mem w noEx wc [] := by rw [hwe]; exact Mem.init wc _
   rw [← hwe] at hj q1 qy qx hDs hB
   clear hwe
   replace T := T.pick [0, 1, 2] rfl
   refine Znb ?_
   refine Znb ?_
   refine Zns ?_
   refine Zsr ?_
   refine lq T (Zro (Mem.old M qx (fun h => h)) rfl (T.e 2 rfl) rfl) ?_; clear T ac; intro ac T
   replace T := T.pick [0, 1, 2] rfl
   refine Zln ?_
   refine wp_region_lit ?_
   refine Zl2 ?_
   refine Zoa M T rfl rfl rfl rfl ?_; clear M T; intro g3 wc ac M T
   refine Zl2 ?_
   refine Zos M T rfl rfl (T.e 0 rfl) (T.e 1 rfl) rfl .head rfl (by simp) rfl (by kernel_rfl) ?_; clear M T; intro wc ac M T
   replace T := T.pick [0, 2, 3] rfl
   refine Zln ?_
   refine wp_region_lit ?_
   refine Zg2 T (Zq (Zro (Mem.nth M 0 rfl) rfl (T.e 0 rfl) rfl)) rfl (fun _ T => Zq (rn_add rfl (T.e 0 rfl) evc (by omega))) rfl ?_; clear T ac; intro ac T
   refine Zl2 ?_
   refine Zos M T rfl rfl (T.e 2 rfl) (T.e 0 rfl) rfl .head rfl (by simp) rfl (by kernel_rfl) ?_; clear M T; intro wc ac M T
   replace T := T.pick [2, 3, 4] rfl
   refine Zln ?_
   have qy := M.old qy (fun h => h)
   have qx := M.nth 0 rfl
   have hbx : B ≤ g3 := Nat.le_trans hB (M.ge (Zne (i := 0) rfl))
   have hj := hJ _ _ _ hj (KpN.of_below M.below)
   have q1 := M.old q1 (fun h => h)
   have hDs := hDs.below M.below M.size
   have hB := Nat.le_trans hB M.size
   exact ⟨_, by omega, wc, g3, k + 1, (D1 :: Ds), preT, rfl, (by omega), (by omega), hp, hj, q1, qy, qx, hDs, hB, hbx, T.pick [1, 2, 0] rfl, (Mem.init _ _)⟩
  ·rintro D1 c9 pre Lx ac wc hDn hSp ⟨rfl, rfl, ⟨preT, hpT, hjx⟩, hDs⟩ hz T M
   replace T : TmD ((D1 :: Ds).map dfD) ac 71 [(1, .pointer (some ⟨b1, 0, none⟩)), (2, .pointer (some ⟨g1, 0, none⟩)), (3, .pointer (some ⟨gx, 0, none⟩)), (17, .func (.func 253) #[] #[.pointer (some ⟨gu1, 0, none⟩)])] := T
   have hDs := hDs.cons M Zz2 (by omega) (by omega) (Nat.le_refl _) (by omega)
   refine wp_ret ?_
   refine Zrb ?_
   refine Zrb ?_
   refine Zrt ?_
   refine Zrt ?_
   refine Zrb ?_
   refine Zrt ?_
   refine rtB (D1 :: Ds) T hDs ?_; clear T; intro w9 ac hk9 T
   refine rt_0 T rfl ?_
   exact ⟨⟨_, rfl⟩, .inr ⟨preT, by rw [hpT, map_pu (lgP r k)]; exact pre_long hSp hk (by omega), hJx _ _ _ hjx hk9⟩⟩
 intro h1
 have hkl : (k : Int) = max 1 r.lo := by omega
 obtain ⟨kl, hkl9⟩ : ∃ q : Nat, q = k := ⟨_, rfl⟩
 have hkl1 : (kl : Int) = max 1 r.lo := by omega
 rw [← hkl9] at hp
 have hp0 : preT.map (·.1) = rlQ r kl ++ (rwQ r 1) := by rw [hp]; simp [rwQ]
 refine wp_exit ?_
 refine Zet ?_
 refine Zet ?_
 refine ex_hit ?_
 refine nm_then ?_
 refine Zsr ?_
 refine Zl2 ?_
 refine Zoa M T rfl rfl rfl rfl ?_; clear M T; intro g4 wc ac M T
 refine Zl2 ?_
 refine Zos M T rfl rfl (T.e 0 rfl) evc rfl .head rfl (by simp) rfl (by kernel_rfl) ?_; clear M T; intro wc ac M T
 replace T := T.pick [0, 2, 3] rfl
 refine Zln ?_
 refine wp_block ?_
 have qy := M.old qy (fun h => h)
 have qx := M.nth 0 rfl
 have hbx : B ≤ g4 := Nat.le_trans hB (M.ge (Zne (i := 0) rfl))
 have hj := hJ _ _ _ hj (KpN.of_below M.below)
 have q1 := M.old q1 (fun h => h)
 have hDs := hDs.below M.below M.size
 have hB := Nat.le_trans hB M.size
 clear M
 obtain ⟨w, hwe⟩ : ∃ q : World, q = wc := ⟨_, rfl⟩
 have M : Mem w noEx wc [] := by rw [hwe]; exact Mem.init wc _
 rw [← hwe] at hj q1 qy qx hDs hB
 clear hwe
 refine wp_loop_n (fun mz ac wc => ∃ (w : World) (gx k : Nat) (Ds : List Nat) (preT : List (Ru r)), mz = (max 1 r.wi - (k : Int)).toNat ∧ (1 ≤ k) ∧ ((k : Int) ≤ max 1 r.wi) ∧ (preT.map (·.1) = rlQ r kl ++ (rwQ r k)) ∧ (J preT w) ∧ (Bk w b1 #[.int .u64 (r.s : Int), .int .i64 r.lo, .int .i64 r.wi]) ∧ (Bk w g1 #[.func (.yield lr) #[] #[]]) ∧ (Bk w gx #[.int .i64 (k : Int)]) ∧ (DsOk B w.heap.size Ds w) ∧ (B ≤ w.heap.size) ∧ (B ≤ gx) ∧ TmD (Ds.map dfD) ac 71 [(1, .pointer (some ⟨b1, 0, none⟩)), (2, .pointer (some ⟨g1, 0, none⟩)), (6, .pointer (some ⟨gx, 0, none⟩))] ∧ Mem w noEx wc []) ?_ ?_
 ·exact ⟨_, w, g4, 1, (Ds), preT, rfl, (Nat.le_refl _), (by omega), hp0, hj, q1, qy, qx, hDs, hB, hbx, T.pick [1, 2, 0] rfl, M⟩
 clear T M
 rintro mz ac wc ⟨w, gx, k, Ds, preT, hmm2, hk, hk2, hp, hj, q1, qy, qx, hDs, hB, hbx, T, M⟩
 refine wp_seq ?_
 refine Zsr ?_
 refine Zg4 (v2 := (.pointer (some ⟨b1, 2, none⟩))) T (Zq (Zro (Mem.old M qx (fun h => h)) rfl (T.e 2 rfl) rfl)) rfl (Zf 2 1 rfl rfl) rfl (fun _ T => Zq (Zro (Mem.old M q1 (fun h => h)) rfl (T.e 0 rfl) rfl)) rfl (fun _ T => Zq (rn_lss rfl (T.e 2 rfl) (T.e 0 rfl))) rfl ?_; clear T ac; intro ac T
 replace T := T.pick [0, 4, 5, 6] rfl
 refine Zln ?_
 refine wp_if (T.e 0 rfl) ?_ ?_
 ·intro h2
  refine Zsk ?_
  refine wp_seq ?_
  refine wp_block ?_
  refine Zsr ?_
  refine Zg2 (v1 := (.pointer (some ⟨b1, 0, none⟩))) T (Zq (Zrf (off := 0) rfl (T.e 1 rfl) (fun _ _ _ => by kernel_rfl))) rfl (fun _ T => Zq (Zro (Mem.old M q1 (fun h => h)) rfl (T.e 0 rfl) rfl)) rfl ?_; clear T ac; intro ac T
  refine Zl2 ?_
  refine Zoc (first := []) (cap := []) T rfl rfl rfl rfl evf (.cons (T.e 0 rfl) .nil) Tryz.func225 rfl rfl ?_
  refine Calls.mono (parts_any r.s _) ?_
  clear T; rintro e wc ⟨gu2, rfl, N⟩ ac T
  replace M := M.join N; clear N
  replace M := M.mask [true] rfl
  replace T := T.pick [0, 4, 5, 6] rfl
  refine Zln ?_
  refine wp_block ?_
  have qp := M.nth 0 rfl
  have hbp : B ≤ gu2 := Nat.le_trans hB (M.ge (Zne (i := 0) rfl))
  have qy := M.old qy (fun h => h)
  have qx := M.old qx (fun h => h)
  have hj := hJ _ _ _ hj (KpN.of_below M.below)
  have q1 := M.old q1 (fun h => h)
  have hDs := hDs.below M.below M.size
  have hB := Nat.le_trans hB M.size
  obtain ⟨n9, hn9⟩ : ∃ n : Nat, n = wc.heap.size := ⟨_, rfl⟩
  rw [← hn9] at hDs
  clear M
  have M := Mem.init wc (fun b => b = lr ∨ eb b)
  replace T := T.pick [1, 2, 3, 0] rfl
  replace M := M.mask [false] rfl
  refine px_rangeB (α := Pu r.s) (γ := Unit) (n := 71) T (T.e 3 rfl) (enters_of Tryz.func253 (by kernel_rfl) rfl) (fun b => b = lr ∨ eb b) (parts1_seq gu2 (fun b => b = lr ∨ eb b) r.s _ hs hs0 (fun h => h.elim (fun h => by omega) (fun h => by have := heb _ h; omega)) qp) (fun _ => rfl) (fun (pre : List (Pu r.s)) (Lx : List (Nat × BA)) (W : World) => ∃ (preT : List (Ru r)), (preT.map (·.1) = rlQ r kl ++ (rwQ r k ++ pre.map (fun a => wdP r k a.1))) ∧ (J preT W) ∧ (Bk W b1 #[.int .u64 (r.s : Int), .int .i64 r.lo, .int .i64 r.wi]) ∧ (Bk W g1 #[.func (.yield lr) #[] #[]]) ∧ (Bk W gx #[.int .i64 (k : Int)]) ∧ (DsOk B n9 Ds W) ∧ Lx = []) (fun c9 pre Lx W => c9 = .ret ∧ Lx = [] ∧ (∃ preT : List (Ru r), preT.map (·.1) = rlQ r kl ++ (rwQ r k ++ pre.map (fun a => wdP r k a.1)) ∧ Jx preT W) ∧ DsOk B n9 Ds W)
    (fun x => [(50, .int .u64 ((r.s - x.1 : Nat) : Int)), (49, .int .u64 (x.1 : Int)), (1, .pointer (some ⟨b1, 0, none⟩)), (2, .pointer (some ⟨g1, 0, none⟩)), (6, .pointer (some ⟨gx, 0, none⟩)), (48, .func (.func 253) #[] #[.pointer (some ⟨gu2, 0, none⟩)])]) (fun x _ => [(8, .int .u64 ((r.s - x.1 : Nat) : Int)), (7, .int .u64 (x.1 : Int)), (1, .pointer (some ⟨b1, 0, none⟩)), (2, .pointer (some ⟨g1, 0, none⟩)), (6, .pointer (some ⟨gx, 0, none⟩))]) (fun x _ => []) ?_ ?_ ?_ ?_ ?_ ?_ ?_ ?_ M ?_ ?_ ?_ ?_ ?_ ?_ ?_
  ·rintro pre Lx W ⟨preT, hpT, hj, q1, qy, qx, hDs, rfl⟩ p hp
   cases hp
  ·rintro c9 pre Lx W ⟨rfl, rfl, -⟩ p hp
   cases hp
  ·rintro pre Lx W ⟨preT, hpT, hj, q1, qy, qx, hDs, rfl⟩ p hp
   cases hp
  ·intro b hb
   rcases hb with hb | hb
   · omega
   · have := heb b hb
     omega
  ·intro b hb
   exact .inl hb
  ·exact fun _ _ _ h _ => h
  ·rintro pre Lx W W' ⟨preT, hpT, hj, q1, qy, qx, hDs, rfl⟩ hK
   exact ⟨preT, hpT, (hJ _ _ _ hj (hK.mono hB)), (hK.bk q1), (hK.bk qy), (hK.bk qx), (hDs.kpN hK (by omega)), rfl⟩
  ·rintro c9 pre Lx W W' ⟨rfl, rfl, ⟨preT, hpT, hjx⟩, hDs⟩ hK
   exact ⟨rfl, rfl, ⟨preT, hpT, hJx _ _ _ hjx (hK.mono hB)⟩, hDs.kpN hK (by omega)⟩
  ·exact ⟨preT, (by rw [hp]; simp), hj, q1, qy, qx, hDs, rfl⟩
  ·exact fun x => T.round2 _ _ rfl rfl rfl rfl
  ·intro x c p hp
   cases hp
  ·intro lp9 x wc K1 ac T hK1
   have M := Mem.init wc noEx
   refine wpIn_seq ?_
   refine ri_lit (fun _ _ h => h) rfl ?_
   refine lq T (Zra rfl (T.e 1 rfl)) ?_; clear T ac; intro ac T
   replace T := T.pick [0, 1, 3, 4, 5] rfl
   refine Zln ?_
   refine ri_lit (fun _ _ h => h) rfl ?_
   refine lq T (Zra rfl (T.e 1 rfl)) ?_; clear T ac; intro ac T
   replace T := T.pick [0, 1, 3, 4, 5] rfl
   refine Zln ?_
   exact hK1 () _ _ (T.pick [0, 1, 2, 3, 4] rfl) (M.mask [] rfl)
  ·rintro lp9 pre x ⟨⟩ Lx ac w hj hox hz hlp M0 hnl9 exb wc hexb hwc T M
   obtain ⟨preT, hpT, hj, q1, qy, qx, hDs, rfl⟩ := hj
   replace T : TmD [] ac 71 [(8, .int .u64 ((r.s - x.1 : Nat) : Int)), (7, .int .u64 (x.1 : Int)), (1, .pointer (some ⟨b1, 0, none⟩)), (2, .pointer (some ⟨g1, 0, none⟩)), (6, .pointer (some ⟨gx, 0, none⟩))] := T
   replace M : Mem w exb wc [] := M
   have hn1 : ¬ exb b1 := by rw [hexb]; exact hx1
   have hny : ¬ exb g1 := by rw [hexb]; exact fun h => h.elim (fun h => by omega) (fun h => by have := heb _ h; omega)
   have hnx : ¬ exb gx := by rw [hexb]; exact fun h => h.elim (fun h => by omega) (fun h => by have := heb _ h; omega)
   have hxe : ∀ b, exb b → b < B := by rw [hexb]; exact fun b h => h.elim (fun h => by omega) (heb b)
   refine wpIn_block ?_
   refine wpIn_seq ?_
   refine fri_lit rfl ?_
   refine fl_q T rfl rfl rfl rfl (Zro (Mem.old M qy hny) rfl (T.e 3 rfl) rfl) ?_; clear T ac; intro ac T
   refine fl_q T rfl rfl rfl rfl (Zrm rfl (T.e 2 rfl)) ?_; clear T ac; intro ac T
   refine fl_q (v := (.pointer (some ⟨b1, 1, none⟩))) T rfl rfl rfl rfl (Zrf (off := 1) rfl (T.e 4 rfl) (fun _ _ _ => by kernel_rfl)) ?_; clear T ac; intro ac T
   refine fl_q T rfl rfl rfl rfl (Zro (Mem.old M q1 hn1) rfl (T.e 0 rfl) rfl) ?_; clear T ac; intro ac T
   refine fl_q T rfl rfl rfl rfl (Zro (Mem.old M qx hnx) rfl (T.e 8 rfl) rfl) ?_; clear T ac; intro ac T
   refine fl_q (v := (.agg #[.int .u64 (x.1 : Int), .int .i64 r.lo, .int .i64 (k : Int)])) T rfl rfl rfl rfl (rn_build rfl (.cons (T.e 3 rfl) (.cons (T.e 1 rfl) (.cons (T.e 0 rfl) .nil))) (fun _ => by kernel_rfl)) ?_; clear T ac; intro ac T
   refine fl_q T rfl rfl rfl rfl (Zrm rfl (T.e 6 rfl)) ?_; clear T ac; intro ac T
   refine fl_q (v := (.pointer (some ⟨b1, 1, none⟩))) T rfl rfl rfl rfl (Zrf (off := 1) rfl (T.e 9 rfl) (fun _ _ _ => by kernel_rfl)) ?_; clear T ac; intro ac T
   refine fl_q T rfl rfl rfl rfl (Zro (Mem.old M q1 hn1) rfl (T.e 0 rfl) rfl) ?_; clear T ac; intro ac T
   refine fl_q (v := (.pointer (some ⟨b1, 2, none⟩))) T rfl rfl rfl rfl (Zrf (off := 2) rfl (T.e 11 rfl) (fun _ _ _ => by kernel_rfl)) ?_; clear T ac; intro ac T
   refine fl_q T rfl rfl rfl rfl (Zro (Mem.old M q1 hn1) rfl (T.e 0 rfl) rfl) ?_; clear T ac; intro ac T
   refine fl_q T rfl rfl rfl rfl (Zro (Mem.old M qx hnx) rfl (T.e 15 rfl) rfl) ?_; clear T ac; intro ac T
   refine fl_q T rfl rfl rfl rfl (rn_sub rfl (T.e 1 rfl) (T.e 0 rfl) (by omega)) ?_; clear T ac; intro ac T
   refine fl_q (v := (.agg #[.int .u64 ((r.s - x.1 : Nat) : Int), .int .i64 r.lo, .int .i64 (r.wi - (k : Int))])) T rfl rfl rfl rfl (rn_build rfl (.cons (T.e 6 rfl) (.cons (T.e 4 rfl) (.cons (T.e 0 rfl) .nil))) (fun _ => by kernel_rfl)) ?_; clear T ac; intro ac T
   refine fl_q (v := (.agg #[.int .u64 (x.1 : Int), .int .i64 r.lo, .int .i64 (k : Int), .int .u64 ((r.s - x.1 : Nat) : Int), .int .i64 r.lo, .int .i64 (r.wi - (k : Int))])) T rfl rfl rfl rfl (rn_build rfl (.cons (T.e 8 rfl) (.cons (T.e 0 rfl) .nil)) (fun _ => by kernel_rfl)) ?_; clear T ac; intro ac T
   refine fl_q T rfl rfl rfl rfl (Zro (Mem.old M qx hnx) rfl (T.e 19 rfl) rfl) ?_; clear T ac; intro ac T
   refine fl_q (v := (.agg #[.int .i64 0, .int .i64 (k : Int)])) T rfl rfl rfl rfl (rn_build rfl (.cons evc (.cons (T.e 0 rfl) .nil)) (fun _ => by kernel_rfl)) ?_; clear T ac; intro ac T
   refine fl_y rfl ?_; intro K hK
   have hmem := wd_mem (r := r) (k := k) x.2 hk (by omega)
   rw [← hwc] at hj
   have hpT9 : (preT ++ [(⟨wdP r k x.1, hmem⟩ : Ru r)]).map (·.1) = rlQ r kl ++ (rwQ r k ++ (pre ++ [x]).map (fun a => wdP r k a.1)) := by rw [List.map_append, hpT, List.map_append]; simp
   refine ow_yield T rfl rfl rfl rfl (T.e 16 rfl) (.cons (T.e 2 rfl) (.cons (T.e 0 rfl) .nil)) (hY preT ⟨wdP r k x.1, hmem⟩ _ hj trivial) ?_
   clear T
   rintro e wc (⟨rfl, hj, hkp⟩ | ⟨rfl, hjx, hkp⟩)
   ·refine ⟨_, rfl, ?_⟩
    intro ac T
    replace M := hkp.mem M (by intro p hp; cases hp) (fun b h => .inl (by rw [hexb]; exact h))
    refine Zso hK _ _ ?_; clear hK K
    refine fl_q (v := (.bool false)) T rfl rfl rfl rfl (Zrq (rn_not rfl (T.e 0 rfl)) (by simp)) ?_; clear T ac; intro ac T
    refine fl_nil ?_
    replace T := T.pick [0, 21, 22, 23] rfl
    refine nm_then ?_
    refine wpIn_cond_false (T.e 0 rfl) ?_
    refine wpIn_skip ?_
    refine Znb ?_
    refine rb_nm (L := []) ?_ (M.mask [] rfl)
    exact ⟨_, hpT9, hj, (M.old q1 hn1), (M.old qy hny), (M.old qx hnx), (hDs.mem M hxe), rfl⟩
   refine ⟨_, rfl, ?_⟩
   intro ac T
   replace M := hkp.mem M (by intro p hp; cases hp) (fun b h => .inl (by rw [hexb]; exact h))
   refine Zso hK _ _ ?_; clear hK K
   refine fl_q (v := (.bool true)) T rfl rfl rfl rfl (Zrq (rn_not rfl (T.e 0 rfl)) (by simp)) ?_; clear T ac; intro ac T
   refine fl_nil ?_
   replace T := T.pick [0, 21, 22, 23] rfl
   refine nm_then ?_
   refine wpIn_cond_true (T.e 0 rfl) ?_
   refine wpIn_ret ?_
   refine Zrb ?_
   refine rb_ret (L := []) ⟨rfl, rfl, ⟨_, hpT9, hjx⟩, hDs.mem M hxe⟩ M
  ·rintro D2 pre Lx ac wc hDn hSd hj hz T M
   obtain ⟨preT, hpT, hj, q1, qy, qx, hDs, rfl⟩ := hj
   replace T : TmD ((D2 :: Ds).map dfD) ac 71 [(1, .pointer (some ⟨b1, 0, none⟩)), (2, .pointer (some ⟨g1, 0, none⟩)), (6, .pointer (some ⟨gx, 0, none⟩)), (48, .func (.func 253) #[] #[.pointer (some ⟨gu2, 0, none⟩)])] := T
   have hDs := hDs.cons M Zz2 (by omega) (by omega) (Nat.le_refl _) (by omega)
   have hB : B ≤ wc.heap.size := by omega
   have hp : preT.map (·.1) = rlQ r kl ++ (rwQ r (k + 1)) := by rw [hpT, rwQ_succ hk, show pre.map (fun a => wdP r k a.1) = wideP r k from by rw [map_pu (wdP r k), hSd]; rfl]
   clear M
   obtain ⟨w, hwe⟩ : ∃ q : World, q = wc := ⟨_, rfl⟩
   have M : Mem w noEx wc [] := by rw [hwe]; exact Mem.init wc _
   rw [← hwe] at hj q1 qy qx hDs hB
   clear hwe
   replace T := T.pick [0, 1, 2] rfl
   refine Znb ?_
   refine Znb ?_
   refine Zns ?_
   refine Zsr ?_
   refine lq T (Zro (Mem.old M qx (fun h => h)) rfl (T.e 2 rfl) rfl) ?_; clear T ac; intro ac T
   replace T := T.pick [0, 1, 2] rfl
   refine Zln ?_
   refine wp_region_lit ?_
   refine Zl2 ?_
   refine Zoa M T rfl rfl rfl rfl ?_; clear M T; intro g5 wc ac M T
   refine Zl2 ?_
   refine Zos M T rfl rfl (T.e 0 rfl) (T.e 1 rfl) rfl .head rfl (by simp) rfl (by kernel_rfl) ?_; clear M T; intro wc ac M T
   replace T := T.pick [0, 2, 3] rfl
   refine Zln ?_
   refine wp_region_lit ?_
   refine Zg2 T (Zq (Zro (Mem.nth M 0 rfl) rfl (T.e 0 rfl) rfl)) rfl (fun _ T => Zq (rn_add rfl (T.e 0 rfl) evc (by omega))) rfl ?_; clear T ac; intro ac T
   refine Zl2 ?_
   refine Zos M T rfl rfl (T.e 2 rfl) (T.e 0 rfl) rfl .head rfl (by simp) rfl (by kernel_rfl) ?_; clear M T; intro wc ac M T
   replace T := T.pick [2, 3, 4] rfl
   refine Zln ?_
   have qy := M.old qy (fun h => h)
   have qx := M.nth 0 rfl
   have hbx : B ≤ g5 := Nat.le_trans hB (M.ge (Zne (i := 0) rfl))
   have hj := hJ _ _ _ hj (KpN.of_below M.below)
   have q1 := M.old q1 (fun h => h)
   have hDs := hDs.below M.below M.size
   have hB := Nat.le_trans hB M.size
   exact ⟨_, by omega, wc, g5, k + 1, (D2 :: Ds), preT, rfl, (by omega), (by omega), hp, hj, q1, qy, qx, hDs, hB, hbx, T.pick [1, 2, 0] rfl, (Mem.init _ _)⟩
  ·rintro D2 c9 pre Lx ac wc hDn hSp ⟨rfl, rfl, ⟨preT, hpT, hjx⟩, hDs⟩ hz T M
   replace T : TmD ((D2 :: Ds).map dfD) ac 71 [(1, .pointer (some ⟨b1, 0, none⟩)), (2, .pointer (some ⟨g1, 0, none⟩)), (6, .pointer (some ⟨gx, 0, none⟩)), (48, .func (.func 253) #[] #[.pointer (some ⟨gu2, 0, none⟩)])] := T
   have hDs := hDs.cons M Zz2 (by omega) (by omega) (Nat.le_refl _) (by omega)
   refine wp_ret ?_
   refine Zrb ?_
   refine Zrb ?_
   refine Zrt ?_
   refine Zrt ?_
   refine Zrb ?_
   refine rtB (D2 :: Ds) T hDs ?_; clear T; intro w9 ac hk9 T
   refine rt_0 T rfl ?_
   exact ⟨⟨_, rfl⟩, .inr ⟨preT, by rw [hpT, map_pu (wdP r k)]; exact pre_wide hkl1 hSp hk (by omega), hJx _ _ _ hjx hk9⟩⟩
 intro h2
 have hkl : (k : Int) = max 1 r.wi := by omega
 refine wp_exit ?_
 refine Zet ?_
 refine Zet ?_
 refine ex_hit ?_
 refine nmB (Ds) T (hDs.below M.below M.size) ?_; clear T; intro w9 ac hk9 T
 refine rt_0 T rfl ?_
 exact ⟨⟨_, rfl⟩, .inl ⟨preT, by rw [hp]; exact (rooms_eq hkl1 hkl).symm, hJ _ _ _ (hJ _ _ _ hj (KpN.of_below M.below)) hk9⟩⟩
theorem rooms1_seq (b1 : Nat) (eb : Nat → Prop) (r : Rm) (w : World) (hs : r.s < 32) (hs0 : 0 < r.s) (hlo : 0 ≤ r.lo ∧ r.lo ≤ 100) (hwi : 0 ≤ r.wi ∧ r.wi ≤ 100) (hx1 : ¬ eb b1) (heb : ∀ b, eb b → b < w.heap.size) (q1 : Bk w b1 #[.int .u64 (r.s : Int), .int .i64 r.lo, .int .i64 r.wi]) :
   SeqB (α := Ru r) Tryz.prog 224 #[.pointer (some ⟨b1, 0, none⟩)] (fun x => (twL x.1).toArray) eb (fun _ _ => True) (fun xs => xs.map (·.1) = roomsP r) (fun pre => pre.map (·.1) <+: roomsP r) w :=
 fun lr J Jx W hW hl1 hl2 hJ hJx hY hj => rooms1_in lr b1 W.heap.size eb r J Jx W hs hs0 hlo hwi (fun h => h.elim (fun h => by have := q1.lt; omega) hx1) hl2 (fun b h => Nat.lt_of_lt_of_le (heb b h) hW.size) (Nat.le_refl _) hJ hJx hY (q1.below hW) hj
section
open Go.RowKit
open Go.Maps (Keyed)
def rmV (r : Rm) : Value := .agg #[.int .u64 (r.s : Int), .int .i64 r.lo, .int .i64 r.wi]
theorem rmV_inj {r q : Rm} (h : rmV r = rmV q) : r = q := by
 cases r; cases q
 simp [rmV] at h
 simp [h]
 omega
def okR (a c : Int) (L : List Pt) (key val : Value) : Prop := ∀ r : Rm, key = rmV r → val = .bool (canB a c L r)
theorem okR_of {a c : Int} {L : List Pt} {r : Rm} {b : Bool} (h : canB a c L r = b) : okR a c L (rmV r) (.bool b) := fun q e => by
 obtain rfl := rmV_inj e
 rw [h]
theorem wfu64 {n : Nat} (h : n < 32) : (Lit.int .u64 (n : Int)).wf = true := by
 simp [Lit.wf, IntKind.min, IntKind.max, IntKind.bits, IntKind.signed]
 omega
theorem rm_key_of {P : Program} {k u i : TypeId} {f0 f1 f2 : Field} (hk : P.underlying k = some (.struct #[f0, f1, f2])) (hu : P.underlying u = some (.int .u64)) (hi : P.underlying i = some (.int .i64))
  (hkt : P.keyType k = true) (ck : P.cellsOf k = 3) (cu : P.cellsOf u = 1) (ci : P.cellsOf i = 1) (n : Nat) (hn : P.types.size = n + 1 + 1)
  (t0 : f0.type = u) (t1 : f1.type = i) (t2 : f2.type = i) (o0 : f0.offset = 0) (o1 : f1.offset = 1) (o2 : f2.offset = 2)
  (n0 : (f0.name != "_") = true) (n1 : (f1.name != "_") = true) (n2 : (f2.name != "_") = true)
  (r : Rm) (h0 : r.s < 32) (h1 : -100000 ≤ r.lo ∧ r.lo ≤ 100000) (h2 : -100000 ≤ r.wi ∧ r.wi ≤ 100000) : ∃ l, keyOf P k (rmV r) = some l := by
 unfold keyOf
 have w0 := wfu64 h0
 have w1 := wf64 h1
 have w2 := wf64 h2
 simp only [bne_iff_ne, ne_eq] at n0 n1 n2
 simp [rmV, hk, hkt, Value.formed, ck, hn, Program.keyLits, Value.cells, hu, hi, cu, ci, w0, w1, w2, t0, t1, t2, o0, o1, o2, n0, n1, n2]
theorem Tryz.rowRm : (193 : TypeId) < Tryz.prog.types.size := of_decide_eq_true (by kernel_rfl)
theorem Tryz.wideRm : (match Tryz.prog.underlying 193 with | some (.array _ _) | some (.struct _) => true | _ => false) = true := by rw [Tryz.underlying193]
theorem Tryz.atRm : Tryz.prog.keyTypeAt 4 193 = true := by kernel_rfl
theorem Tryz.keyed193 : Keyed Tryz.prog 193 := by
 refine Keyed.of_law (deep_law_laid Tryz.laidOut (m := 4) ?_ ?_ Tryz.atRm ?_)
 · omega
 · exact Tryz.rowRm
 · exact Tryz.wideRm
theorem Tryz.keyTypeRm : Tryz.prog.keyType 193 = true := by kernel_rfl
theorem Tryz.cellsRm : Tryz.prog.cellsOf 193 = 3 := by kernel_rfl
theorem Tryz.cellsSet : Tryz.prog.cellsOf 191 = 1 := by kernel_rfl
theorem Tryz.rm_key (r : Rm) (h0 : r.s < 32) (h1 : -100000 ≤ r.lo ∧ r.lo ≤ 100000) (h2 : -100000 ≤ r.wi ∧ r.wi ≤ 100000) : ∃ l, keyOf Tryz.prog 193 (rmV r) = some l :=
 rm_key_of Tryz.underlying193 Tryz.underlying191 Tryz.underlying3 Tryz.keyTypeRm Tryz.cellsRm Tryz.cellsSet Tryz.cellsInt _ Tryz.typesSome rfl rfl rfl rfl rfl rfl (by decide) (by decide) (by decide) r h0 h1 h2
structure PlW (w : World) (n1 : Nat) (a c : Int) (ga gc : Nat) (B : Option Addr) (L : List Pt) : Prop where
 qa : Bk w ga #[.int .i64 a]
 qc : Bk w gc #[.int .i64 c]
 hL : Rd w n1 4 B L.length (pc L)
 la : ga < n1
 lc : gc < n1
 l1 : 8 < n1
 le : n1 ≤ w.heap.size
 tab : TabW w
theorem PlW.kpN {m n1 : Nat} {w w' : World} {a c : Int} {ga gc : Nat} {B : Option Addr} {L : List Pt} (h : PlW w n1 a c ga gc B L) (hk : KpN m w w') : PlW w' n1 a c ga gc B L :=
 ⟨hk.bk h.qa, hk.bk h.qc, hk.rd h.hL, h.la, h.lc, h.l1, Nat.le_trans h.le hk.2.2.2.1, h.tab.kpN hk⟩
theorem Rd.memX {n1 size n : Nat} {w w' : World} {B : Option Addr} {xs : List Value} {ex : Nat → Prop} {L : List (Nat × BA)} (h : Rd w n1 size B n xs) (M : Mem w ex w' L) (hx : ∀ b, ex b → n1 ≤ b) (hle : n1 ≤ w.heap.size) : Rd w' n1 size B n xs :=
 ⟨h.1, fun hn => by
  obtain ⟨b, o, h1, h2, h3⟩ := h.2 hn
  exact ⟨b, o, h1, h2, fun j u hu => (World.cell?_of_block (w := w) (a := ⟨b, o + j, none⟩) (M.block b (by omega) (fun he => by have := hx b he; omega))).trans (h3 j u hu)⟩⟩
theorem PlW.mem {n1 : Nat} {w w' : World} {a c : Int} {ga gc : Nat} {B : Option Addr} {Lp : List Pt} {ex : Nat → Prop} {L : List (Nat × BA)} (h : PlW w n1 a c ga gc B Lp) (M : Mem w ex w' L) (hx : ∀ b, ex b → n1 ≤ b) : PlW w' n1 a c ga gc B Lp :=
 ⟨M.old h.qa (fun he => by have := hx _ he; have := h.la; omega), M.old h.qc (fun he => by have := hx _ he; have := h.lc; omega), h.hL.memX M hx h.le, h.la, h.lc, h.l1, Nat.le_trans h.le M.size, h.tab.mem M (fun he => by have := hx _ he; have := h.l1; omega)⟩
theorem Mem.joinE {g : Nat} {w0 w w' : World} {ex : Nat → Prop} {L L' : List (Nat × BA)} {p p' : BA} (M : Mem w0 ex w L) (N : Mem w (fun b => b = g) w' [(g, p')]) (hu : Upd L g p p' L') : Mem w0 ex w' L' :=
 M.callW hu ⟨N.os, N.tape, N.output, N.size, fun b hb hne => N.block b hb (fun e => hne (by rw [e]))⟩ (N.blk (g, p') Zz2).2
theorem Mem.other {w0 w : World} {ex : Nat → Prop} {L : List (Nat × BA)} {g : Nat} {p : BA} {bs : List Nat} (M : Mem w0 ex w L) (i : Nat) (h : nthE L i = some (g, p)) (hb : bs = (L.eraseIdx i).map (·.1)) : g ∉ bs := fun hg => by
 subst hb
 have hnd := M.nd
 have hL : L = L.take i ++ (g, p) :: L.drop (i + 1) := by
   have hi := (List.getElem?_eq_some_iff.1 (nthE_get h))
   obtain ⟨h1, h2⟩ := hi
   rw [← h2, List.getElem_cons_drop, List.take_append_drop]
 rw [List.eraseIdx_eq_take_drop_succ] at hg
 rw [hL, List.map_append, List.map_cons] at hnd
 obtain ⟨-, h3, h4⟩ := List.nodup_append.1 hnd
 rw [List.map_append, List.mem_append] at hg
 rcases hg with hg | hg
 · exact h4 _ hg _ Zz2 rfl
 · exact (List.nodup_cons.1 h3).1 hg
theorem Mem.lts {w0 w : World} {ex : Nat → Prop} {L : List (Nat × BA)} {bs : List Nat} (M : Mem w0 ex w L) (hb : bs = L.map (·.1)) : ∀ b, b ∈ bs → b < w.heap.size := fun b h => by
 subst hb
 obtain ⟨p, hp, rfl⟩ := List.mem_map.1 h
 exact M.lt hp
theorem Mem.ges {n1 : Nat} {w0 w : World} {ex : Nat → Prop} {L : List (Nat × BA)} {bs : List Nat} (M : Mem w0 ex w L) (h0 : n1 ≤ w0.heap.size) (hx : ∀ b, ex b → n1 ≤ b) (hb : bs = L.map (·.1)) : ∀ b, b ∈ bs → n1 ≤ b := fun b h => by
 subst hb
 obtain ⟨p, hp, rfl⟩ := List.mem_map.1 h
 rcases (M.blk p hp).1 with h | h
 · omega
 · exact hx _ h
theorem pow32 {n s : Nat} (h : s < 2 ^ n) (hn : n ≤ 5) : s < 32 := by
 have := Nat.pow_le_pow_right (n := 2) (by omega) hn
 omega
theorem fits_any (s : Sk) (A : Option Addr) (d : Nat) (a c : Int) (ga gc : Nat) (B : Option Addr) (e : Nat) (L : List Pt) (gm n1 : Nat) (r : Rm)  (w : World) (ha : 0 ≤ a ∧ a ≤ 2) (hc : 0 ≤ c ∧ c ≤ 2) (hg : ∀ p ∈ L, p.good) (h5 : L.length ≤ 5) (hn1 : n1 ≤ gm) (he : PlW w n1 a c ga gc B L) (hs : r.s < 2 ^ L.length) (h1 : popP r.s = 1)  :
   Calls Tryz.prog 186 #[.agg #[.int .i64 s.lo, .int .i64 s.wi, .int .i64 s.a0, .int .i64 s.a1, .int .i64 s.c0, .int .i64 s.c1, .slice A s.ps.length d, .func (.func 183) #[] #[.pointer (some ⟨ga, 0, none⟩)], .func (.func 184) #[] #[.pointer (some ⟨gc, 0, none⟩)], .slice B L.length e, .map (some gm)], .agg #[.int .u64 (r.s : Int), .int .i64 r.lo, .int .i64 r.wi]] w fun e w' => e = .returned (.tuple #[.bool ((fitsP a c (L.getD (onlyP r.s) default) r.lo r.wi).1), .bool ((fitsP a c (L.getD (onlyP r.s) default) r.lo r.wi).2)]) ∧ Below w.heap.size w w' := by
 have hs32 := pow32 hs h5
 have hT := he.tab
 obtain ⟨bB, oB, SB⟩ := Sp.old (he.hL.more he.le)
 obtain ⟨-, honly⟩ := sel_one L r.s hs h5 h1
 obtain ⟨ko, hko⟩ : ∃ k : Nat, onlyP r.s = k := ⟨_, rfl⟩
 obtain ⟨p, hkp⟩ : ∃ p, L[ko]? = some p := ⟨_, List.getElem?_eq_getElem (by omega)⟩
 have hpe : L.getD (onlyP r.s) default = p := by rw [List.getD_eq_getElem?_getD, hko, hkp]; rfl
 have hpg := hg p (List.mem_of_getElem? hkp)
 have qa := he.qa
 have qc := he.qc
 refine Zpx noEx Tryz.func186 rfl 52 rfl [.agg #[.int .i64 s.lo, .int .i64 s.wi, .int .i64 s.a0, .int .i64 s.a1, .int .i64 s.c0, .int .i64 s.c1, .slice A s.ps.length d, .func (.func 183) #[] #[.pointer (some ⟨ga, 0, none⟩)], .func (.func 184) #[] #[.pointer (some ⟨gc, 0, none⟩)], .slice B L.length e, .map (some gm)], .agg #[.int .u64 (r.s : Int), .int .i64 r.lo, .int .i64 r.wi]] rfl rfl (Mem.init w _) ?_
 intro ac wc T M
 refine Zsr ?_
 refine Zl2 ?_
 refine Zob M T rfl rfl rfl rfl (T.e 0 rfl) rfl ?_; clear M T; intro g1 wc ac M T
 refine Zl2 ?_
 refine Zob M T rfl rfl rfl rfl (T.e 2 rfl) rfl ?_; clear M T; intro g2 wc ac M T
 refine Zg2 T (Zq (Zra rfl evc)) rfl (Zc rfl) rfl ?_; clear T ac; intro ac T
 replace T := T.pick [2, 3] rfl
 refine Zln ?_
 refine cut_seq (fun ac wc => ∃ (gr1_7 : Nat), Tm ac 52 [(2, .pointer (some ⟨g1, 0, none⟩)), (3, .pointer (some ⟨g2, 0, none⟩)), (6, .pointer (some ⟨gr1_7, 0, none⟩))] ∧ Mem w noEx wc [(gr1_7, .cells [.int .i64 p.l, .int .i64 p.w, .bool p.gr, .int .i64 p.pa]), (g2, .cells [.int .u64 (r.s : Int), .int .i64 r.lo, .int .i64 r.wi]), (g1, .cells [.int .i64 s.lo, .int .i64 s.wi, .int .i64 s.a0, .int .i64 s.a1, .int .i64 s.c0, .int .i64 s.c1, .slice A s.ps.length d, .func (.func 183) #[] #[.pointer (some ⟨ga, 0, none⟩)], .func (.func 184) #[] #[.pointer (some ⟨gc, 0, none⟩)], .slice B L.length e, .map (some gm)])]) ?_ ?_
 ·refine Zgs M (M.mask [true, true] rfl) 9 (by kernel_rfl) rfl (by kernel_rfl) ?_
  clear M; intro wc M
  refine gq (v := (.pointer (some ⟨g1, 9, none⟩))) T 0 1 rfl (fun _ _ _ _ _ => (Zrf (off := 9) rfl (T.e 1 rfl) (fun _ _ _ => by kernel_rfl))) ?_; clear T ac; intro ac T
  refine gq T 1 3 rfl (fun B w' hD hl hS => (Zro (Mem.nth (show Mem w noEx w' _ from hS) 1 rfl) rfl (T.e 0 rfl) rfl)) ?_; clear T ac; intro ac T
  refine gq (v := (.pointer (some ⟨g2, 0, none⟩))) T 2 7 rfl (fun _ _ _ _ _ => (Zrf (off := 0) rfl (T.e 2 rfl) (fun _ _ _ => by kernel_rfl))) ?_; clear T ac; intro ac T
  refine gq T 3 15 rfl (fun B w' hD hl hS => (Zro (Mem.nth (show Mem w noEx w' _ from hS) 0 rfl) rfl (T.e 0 rfl) rfl)) ?_; clear T ac; intro ac T
  refine g_m2 (i := 4) (j := 7) (by kernel_rfl) ?_ ?_
  ·refine gi 31 ?_; intro K hK
   refine Zoc (first := []) (cap := []) T rfl rfl rfl rfl evf (.cons (T.e 0 rfl) .nil) Tryz.func188 rfl rfl ?_
   refine Calls.mono (only_any r.s _ (by omega) h1 (hT.mem0 M)) ?_
   clear T; rintro e wc ⟨rfl, hb⟩ ac T
   replace M := M.call hb; clear hb
   refine Zso hK _ _ (M.mask [true, true] rfl) ?_; clear hK K
   refine g_addU M ?_
   refine gq T 5 63 rfl (fun _ _ _ _ _ => (Zri (size := 4) ko rfl (T.e 3 rfl) (T.e 0 rfl) ⟨_, Tryz.underlying47, by kernel_rfl⟩ (by rw [hko]) (by omega) (SB.at0 (by omega)))) ?_; clear T ac; intro ac T
   refine gq (v := (.agg #[.int .i64 p.l, .int .i64 p.w, .bool p.gr, .int .i64 p.pa])) T 6 127 rfl (fun B w' hD hl hS => (rn_rowat (Sp.pcR SB (show Mem w noEx w' _ from (MA.lft hS)) (Zz9 _) hkp) rfl (T.e 0 rfl) rfl)) ?_; clear T ac; intro ac T
   refine gw 7 255 ?_; intro K hK
   refine Zoa M T rfl rfl rfl rfl ?_; clear M T; intro gr1_7 wc ac M T
   refine Zso hK _ _ (MA.mk (M.mask [false, true, true] rfl) (M.mask [false, true, true] rfl)) ?_; clear hK K
   refine gw 8 511 ?_; intro K hK
   refine Zos M T rfl rfl (T.e 0 rfl) (T.e 1 rfl) rfl .head rfl (by simp) rfl (by kernel_rfl) ?_; clear M T; intro wc ac M T
   refine Zso hK _ _ (MA.mk (M.mask [false, true, true] rfl) (M.mask [false, true, true] rfl)) ?_; clear hK K
   refine Zgd (by kernel_rfl) ?_
   replace T := T.pick [0, 8, 9] rfl
   exact ⟨gr1_7, (T.pick (E' := [(2, .pointer (some ⟨g1, 0, none⟩)), (3, .pointer (some ⟨g2, 0, none⟩)), (6, .pointer (some ⟨gr1_7, 0, none⟩))]) [2, 1, 0] rfl).as (by rfl), M.mask [true, true, true] rfl⟩
  refine gi 143 ?_; intro K hK
  refine Zoa M T rfl rfl rfl rfl ?_; clear M T; intro gr1_7 wc ac M T
  refine Zso hK _ _ (M.mask [false, true, true] rfl) ?_; clear hK K
  refine g_addU (M.perm [1, 2] rfl rfl) ?_
  refine g_addG 8 M ?_
  refine gw 4 159 ?_; intro K hK
  refine Zoc (first := []) (cap := []) T rfl rfl rfl rfl evf (.cons (T.e 1 rfl) .nil) Tryz.func188 rfl rfl ?_
  refine Calls.mono (only_any r.s _ (by omega) h1 (hT.mem0 M)) ?_
  clear T; rintro e wc ⟨rfl, hb⟩ ac T
  replace M := M.call hb; clear hb
  refine Zso hK _ _ (MA.mk (fun _ => M.mask [true, true, true] rfl) (MA.mk (M.mask [false, true, true] rfl) (M.mask [false, true, true] rfl))) ?_; clear hK K
  refine g_addU (M.perm [1, 2] rfl rfl) ?_
  refine g_addG 8 M ?_
  refine gq T 5 191 rfl (fun _ _ _ _ _ => (Zri (size := 4) ko rfl (T.e 4 rfl) (T.e 0 rfl) ⟨_, Tryz.underlying47, by kernel_rfl⟩ (by rw [hko]) (by omega) (SB.at0 (by omega)))) ?_; clear T ac; intro ac T
  refine gq (v := (.agg #[.int .i64 p.l, .int .i64 p.w, .bool p.gr, .int .i64 p.pa])) T 6 255 rfl (fun B w' hD hl hS => (rn_rowat (Sp.pcR SB (show Mem w noEx w' _ from ((MA.lft hS) (hD.wait (i := 6) (m := 8) (by kernel_rfl) hl))) (Zz9 _) hkp) rfl (T.e 0 rfl) rfl)) ?_; clear T ac; intro ac T
  refine gw 8 511 ?_; intro K hK
  refine Zos M T rfl rfl (T.e 3 rfl) (T.e 0 rfl) rfl .head rfl (by simp) rfl (by kernel_rfl) ?_; clear M T; intro wc ac M T
  refine Zso hK _ _ (MA.mk (fun h => (no_of (by kernel_rfl) h).elim) (MA.mk (M.mask [false, true, true] rfl) (MA.mk (fun h => (no_of (by kernel_rfl) h).elim) (MA.mk (M.mask [false, true, true] rfl) (M.mask [false, true, true] rfl))))) ?_; clear hK K
  refine Zgd (by kernel_rfl) ?_
  replace T := T.pick [3, 8, 9] rfl
  exact ⟨gr1_7, (T.pick (E' := [(2, .pointer (some ⟨g1, 0, none⟩)), (3, .pointer (some ⟨g2, 0, none⟩)), (6, .pointer (some ⟨gr1_7, 0, none⟩))]) [2, 1, 0] rfl).as (by rfl), M.mask [true, true, true] rfl⟩
 clear T M
 rintro ac wc ⟨gr1_7, T, M⟩
 refine wp_seq ?_
 refine Zsr ?_
 refine Zl2 ?_
 refine ow_bs (e := 4) [.bool false, .bool true] M T rfl rfl rfl rfl (.cons evc (.cons evc .nil)) (fun _ => by kernel_rfl) ?_; clear M T; intro g3 wc ac M T
 refine Zg2 (v1 := (.int .i64 2)) T (Zq (Zrl rfl Tryz.underlying320 (T.e 0 rfl))) rfl (fun _ T => Zq (Zrm rfl evc)) rfl ?_; clear T ac; intro ac T
 refine Zln ?_
 refine wp_block ?_
 refine wp_loop_rounds 4 ?_
 refine rounds_S ?_
 refine Zsr ?_
 refine lq (v := (.bool true)) T (Zrq (rn_lss rfl (T.e 0 rfl) (T.e 1 rfl)) (by simp)) ?_; clear T ac; intro ac T
 refine Zln ?_
 refine wp_seq ?_
 refine wp_cond_true (T.e 0 rfl) ?_
 refine Zsk ?_
 refine wp_seq ?_
 refine wp_block ?_
 refine Zsr ?_
 refine Zg3 (v1 := (.pointer (some ⟨g3, 0, none⟩))) T (Zq (Zri (size := 1) 0 rfl (T.e 3 rfl) (T.e 1 rfl) ⟨_, Tryz.underlying320, by kernel_rfl⟩ rfl (by decide) rfl)) rfl (Zo M 0 0 rfl rfl rfl rfl) rfl (Za 0 rfl rfl) rfl ?_; clear T ac; intro ac T
 replace T := T.pick [0, 4, 5, 6, 7, 8, 9] rfl
 refine Zln ?_
 refine Zsr ?_
 refine Zg4 (v1 := (.pointer (some ⟨g1, 0, none⟩))) T (Zq (Zrf (off := 0) rfl (T.e 4 rfl) (fun _ _ _ => by kernel_rfl))) rfl (Zr M 3 0 rfl rfl rfl rfl) rfl (Zr M 1 8 rfl rfl rfl rfl) rfl (Zm 3 rfl rfl) rfl ?_; clear T ac; intro ac T
 refine Zl2 ?_
 refine Zoc (first := []) (cap := []) T rfl rfl rfl rfl evf (.cons (T.e 2 rfl) (.cons (T.e 1 rfl) (.cons (T.e 0 rfl) .nil))) Tryz.func132 rfl rfl ?_
 refine Calls.mono (size_any s A d a c ga gc p false _ (by omega) (by omega) hpg (M.old qa (fun h => h)) (M.old qc (fun h => h))) ?_
 clear T; rintro e wc ⟨rfl, hb⟩ ac T
 replace M := M.call hb; clear hb
 refine Zg5 T (Zq (Zrm rfl (T.e 0 rfl))) rfl (Ze 0 rfl rfl rfl) rfl (Ze 1 rfl rfl rfl) rfl (Za 1 rfl rfl) rfl (Za 1 rfl rfl) rfl ?_; clear T ac; intro ac T
 replace T := T.pick [0, 1, 10, 11, 12, 13, 14, 15, 16] rfl
 refine Zln ?_
 refine cut_seq (fun ac wc => Tm ac 52 [(2, .pointer (some ⟨g1, 0, none⟩)), (3, .pointer (some ⟨g2, 0, none⟩)), (6, .pointer (some ⟨gr1_7, 0, none⟩)), (8, .bool false), (18, .slice (some ⟨g3, 0, none⟩) 2 2), (19, .int .i64 2), (20, .int .i64 0), (49, .bool ((decide ((sizeL a c p false) ≤ r.lo)) && (decide ((sizeW a c p false) ≤ r.wi))))] ∧ Mem w noEx wc [(g3, .cells [.bool false, .bool true]), (gr1_7, .cells [.int .i64 p.l, .int .i64 p.w, .bool p.gr, .int .i64 p.pa]), (g2, .cells [.int .u64 (r.s : Int), .int .i64 r.lo, .int .i64 r.wi]), (g1, .cells [.int .i64 s.lo, .int .i64 s.wi, .int .i64 s.a0, .int .i64 s.a1, .int .i64 s.c0, .int .i64 s.c1, .slice A s.ps.length d, .func (.func 183) #[] #[.pointer (some ⟨ga, 0, none⟩)], .func (.func 184) #[] #[.pointer (some ⟨gc, 0, none⟩)], .slice B L.length e, .map (some gm)])]) ?_ ?_
 ·refine wp_region_lit ?_
  refine Zg5 (v2 := (.pointer (some ⟨g2, 1, none⟩))) T (Zq (Zrm rfl (T.e 1 rfl))) rfl (Zf 1 8 rfl rfl) rfl (Zo M 2 0 rfl rfl rfl rfl) rfl (fun _ T => Zq (rn_leq rfl (T.e 2 rfl) (T.e 0 rfl))) rfl (Zm 0 rfl rfl) rfl ?_; clear T ac; intro ac T
  rcases Bool.eq_false_or_eq_true (decide ((sizeL a c p false) ≤ r.lo)) with h1 | h1
  ·replace h1 := of_decide_eq_true h1
   refine Zg6 (v2 := (.pointer (some ⟨g2, 2, none⟩))) T (Zw (Zwy rfl rfl (T.e 0 rfl) (Zdt h1)) (Zrm rfl (T.e 5 rfl))) rfl (fun _ T => Zw (Zwy rfl rfl (T.e 1 rfl) (Zdt h1)) (Zrf (off := 2) rfl (T.e 13 rfl) (fun _ _ _ => by kernel_rfl))) rfl (fun _ T => Zw (Zwy rfl rfl (T.e 2 rfl) (Zdt h1)) (Zro (Mem.nth M 2 rfl) rfl (T.e 0 rfl) rfl)) rfl (fun _ T => Zw (Zwy rfl rfl (T.e 3 rfl) (Zdt h1)) (rn_leq rfl (T.e 2 rfl) (T.e 0 rfl))) rfl (fun _ T => Zq (Zr1 rfl (T.e 4 rfl) (Zdt h1) (T.e 0 rfl))) rfl (Zm 0 rfl rfl) rfl ?_; clear T ac; intro ac T
   rcases Bool.eq_false_or_eq_true (decide ((sizeW a c p false) ≤ r.wi)) with h2 | h2
   ·replace h2 := of_decide_eq_true h2
    refine Zg7 (v6 := (.bool true)) T (Zw (Zwy rfl rfl (T.e 0 rfl) (Zdt h2)) (Zrm rfl (T.e 13 rfl))) rfl (fun _ T => Zw (Zwy rfl rfl (T.e 1 rfl) (Zdt h2)) (Zrm rfl (T.e 0 rfl))) rfl (fun _ T => Zp (Zwn rfl rfl (T.e 0 rfl) rfl)) rfl (fun _ T => Zp (Zwn rfl rfl (T.e 1 rfl) rfl)) rfl (fun _ T => Zw (Zwy rfl rfl (T.e 4 rfl) (Zdt h2)) (Zr0 rfl (T.e 2 rfl) rfl evc)) rfl (fun _ T => Zw (Zwy rfl rfl (T.e 5 rfl) (Zdt h2)) (Zrq (rn_not rfl (T.e 0 rfl)) (by simp))) rfl (fun _ T => Zq (Zr1 rfl (T.e 6 rfl) (Zdt h2) (T.e 0 rfl))) rfl ?_; clear T ac; intro ac T
    refine wpList_nil ?_
    replace T := T.pick [0, 1, 2, 3, 4, 5, 6, 9, 10, 11, 12, 20, 21, 22, 23, 24, 25, 26] rfl
    exact ⟨(T.pick (E' := [(2, .pointer (some ⟨g1, 0, none⟩)), (3, .pointer (some ⟨g2, 0, none⟩)), (6, .pointer (some ⟨gr1_7, 0, none⟩)), (8, .bool false), (18, .slice (some ⟨g3, 0, none⟩) 2 2), (19, .int .i64 2), (20, .int .i64 0), (49, .bool true)]) [15, 16, 17, 11, 14, 13, 12, 0] rfl).as (by (try rw [show (decide ((sizeL a c p false) ≤ r.lo)) = true from (Zdt h1)]); (try rw [show (decide ((sizeW a c p false) ≤ r.wi)) = true from (Zdt h2)]); (try rfl)), M.mask [true, true, true, true] rfl⟩
   replace h2 := of_decide_eq_false h2
   refine Zg7 T (Zp (Zwn rfl rfl (T.e 0 rfl) (Zdf h2))) rfl (fun _ T => Zp (Zwn rfl rfl (T.e 1 rfl) (Zdf h2))) rfl (fun _ T => Zp (Zwu rfl rfl (T.e 0 rfl))) rfl (fun _ T => Zp (Zwu rfl rfl (T.e 1 rfl))) rfl (fun _ T => Zp (Zwn rfl rfl (T.e 4 rfl) (Zdf h2))) rfl (fun _ T => Zp (Zwn rfl rfl (T.e 5 rfl) (Zdf h2))) rfl (fun _ T => Zq (Zr0 rfl (T.e 6 rfl) (Zdf h2) evc)) rfl ?_; clear T ac; intro ac T
   refine wpList_nil ?_
   replace T := T.pick [0, 1, 2, 3, 4, 5, 6, 9, 10, 11, 12, 20, 21, 22, 23, 24, 25, 26] rfl
   exact ⟨(T.pick (E' := [(2, .pointer (some ⟨g1, 0, none⟩)), (3, .pointer (some ⟨g2, 0, none⟩)), (6, .pointer (some ⟨gr1_7, 0, none⟩)), (8, .bool false), (18, .slice (some ⟨g3, 0, none⟩) 2 2), (19, .int .i64 2), (20, .int .i64 0), (49, .bool false)]) [15, 16, 17, 11, 14, 13, 12, 0] rfl).as (by (try rw [show (decide ((sizeL a c p false) ≤ r.lo)) = true from (Zdt h1)]); (try rw [show (decide ((sizeW a c p false) ≤ r.wi)) = false from (Zdf h2)]); (try rfl)), M.mask [true, true, true, true] rfl⟩
  replace h1 := of_decide_eq_false h1
  refine Zg8 T (Zp (Zwn rfl rfl (T.e 0 rfl) (Zdf h1))) rfl (fun _ T => Zp (Zwn rfl rfl (T.e 1 rfl) (Zdf h1))) rfl (fun _ T => Zp (Zwn rfl rfl (T.e 2 rfl) (Zdf h1))) rfl (fun _ T => Zp (Zwn rfl rfl (T.e 3 rfl) (Zdf h1))) rfl (fun _ T => Zq (Zr0 rfl (T.e 4 rfl) (Zdf h1) evc)) rfl (Zm 0 rfl rfl) rfl (fun _ T => Zp (Zwn rfl rfl (T.e 0 rfl) rfl)) rfl (fun _ T => Zp (Zwn rfl rfl (T.e 1 rfl) rfl)) rfl ?_; clear T ac; intro ac T
  refine Zg5 T (Zp (Zwu rfl rfl (T.e 0 rfl))) rfl (fun _ T => Zp (Zwu rfl rfl (T.e 1 rfl))) rfl (fun _ T => Zp (Zwn rfl rfl (T.e 4 rfl) rfl)) rfl (fun _ T => Zp (Zwn rfl rfl (T.e 5 rfl) rfl)) rfl (fun _ T => Zq (Zr0 rfl (T.e 6 rfl) rfl evc)) rfl ?_; clear T ac; intro ac T
  refine wpList_nil ?_
  replace T := T.pick [0, 1, 2, 3, 4, 5, 6, 9, 10, 11, 12, 20, 21, 22, 23, 24, 25, 26] rfl
  exact ⟨(T.pick (E' := [(2, .pointer (some ⟨g1, 0, none⟩)), (3, .pointer (some ⟨g2, 0, none⟩)), (6, .pointer (some ⟨gr1_7, 0, none⟩)), (8, .bool false), (18, .slice (some ⟨g3, 0, none⟩) 2 2), (19, .int .i64 2), (20, .int .i64 0), (49, .bool false)]) [15, 16, 17, 11, 14, 13, 12, 0] rfl).as (by (try rw [show (decide ((sizeL a c p false) ≤ r.lo)) = false from (Zdf h1)]); (try rfl)), M.mask [true, true, true, true] rfl⟩
 clear T M
 rintro ac wc ⟨T, M⟩
 refine wp_cond_split (T.e 7 rfl) ?_ ?_
 ·intro h3
  (have h3' := h3; try simp only [Zb1, Zb2, Zb3, Zb4, Zb5, Zb6, Zb7] at h3')
  refine Zsr ?_
  refine Zg3 T (Zq (Zrm rfl (T.e 3 rfl))) rfl (Za 0 rfl rfl) rfl (Zc rfl) rfl ?_; clear T ac; intro ac T
  refine wpList_nil ?_
  replace T := T.pick [0, 1] rfl
  replace M := M.mask [false, false, false, false] rfl
  refine Znr ?_
  refine Zrb ?_
  refine Zrt ?_
  refine Zrt ?_
  refine Zrb ?_
  refine Zrt ?_
  refine rt_2 T rfl (T.e 1 rfl) (T.e 0 rfl) ?_
  have e9 : fitsP a c (L.getD (onlyP r.s) default) r.lo r.wi = (false, true) := by rw [hpe]; unfold fitsP fitsT; (try simp_all); (try ((repeat' split) <;> first | rfl | omega | (exfalso; simp_all; omega) | (simp_all; done)))
  rw [e9]
  exact ⟨rfl, M.below⟩
 intro h3
 (have h3' := h3; try simp only [Zb1, Zb2, Zb3, Zb4, Zb5, Zb6, Zb7] at h3')
 refine wp_skip ?_
 refine Znb ?_
 refine nm_then ?_
 refine wp_region_lit ?_
 refine lq (v := (.int .i64 1)) T (rn_ofI (rn_add rfl (T.e 6 rfl) evc (by omega)) (by rfl)) ?_; clear T ac; intro ac T
 refine l_q (v := (.int .i64 1)) (T.pick [0, 1, 2, 3, 4, 5, 6, 8] rfl) rfl rfl rfl rfl (Zrm rfl (T.e 0 rfl)) ?_; clear T ac; intro ac T
 replace T := T.pick [0, 2, 3, 4, 6, 7] rfl
 refine Zln ?_
 refine rounds_S ?_
 refine Zsr ?_
 refine lq (v := (.bool true)) T (Zrq (rn_lss rfl (T.e 0 rfl) (T.e 5 rfl)) (by simp)) ?_; clear T ac; intro ac T
 refine Zln ?_
 refine wp_seq ?_
 refine wp_cond_true (T.e 0 rfl) ?_
 refine Zsk ?_
 refine wp_seq ?_
 refine wp_block ?_
 refine Zsr ?_
 refine Zg3 (v1 := (.pointer (some ⟨g3, 1, none⟩))) T (Zq (Zri (size := 1) 1 rfl (T.e 5 rfl) (T.e 1 rfl) ⟨_, Tryz.underlying320, by kernel_rfl⟩ rfl (by decide) rfl)) rfl (Zo M 0 0 rfl rfl rfl rfl) rfl (Za 0 rfl rfl) rfl ?_; clear T ac; intro ac T
 replace T := T.pick [0, 4, 5, 6, 7, 8, 9] rfl
 refine Zln ?_
 refine Zsr ?_
 refine Zg4 (v1 := (.pointer (some ⟨g1, 0, none⟩))) T (Zq (Zrf (off := 0) rfl (T.e 2 rfl) (fun _ _ _ => by kernel_rfl))) rfl (Zr M 3 0 rfl rfl rfl rfl) rfl (Zr M 1 6 rfl rfl rfl rfl) rfl (Zm 3 rfl rfl) rfl ?_; clear T ac; intro ac T
 refine Zl2 ?_
 refine Zoc (first := []) (cap := []) T rfl rfl rfl rfl evf (.cons (T.e 2 rfl) (.cons (T.e 1 rfl) (.cons (T.e 0 rfl) .nil))) Tryz.func132 rfl rfl ?_
 refine Calls.mono (size_any s A d a c ga gc p true _ (by omega) (by omega) hpg (M.old qa (fun h => h)) (M.old qc (fun h => h))) ?_
 clear T; rintro e wc ⟨rfl, hb⟩ ac T
 replace M := M.call hb; clear hb
 refine Zg5 T (Zq (Zrm rfl (T.e 0 rfl))) rfl (Ze 0 rfl rfl rfl) rfl (Ze 1 rfl rfl rfl) rfl (Za 1 rfl rfl) rfl (Za 1 rfl rfl) rfl ?_; clear T ac; intro ac T
 replace T := T.pick [0, 1, 10, 11, 12, 13, 14, 15, 16] rfl
 refine Zln ?_
 refine cut_seq (fun ac wc => Tm ac 52 [(2, .pointer (some ⟨g1, 0, none⟩)), (3, .pointer (some ⟨g2, 0, none⟩)), (6, .pointer (some ⟨gr1_7, 0, none⟩)), (8, .bool true), (18, .slice (some ⟨g3, 0, none⟩) 2 2), (19, .int .i64 2), (20, .int .i64 1), (49, .bool ((decide ((sizeL a c p true) ≤ r.lo)) && ((decide ((sizeW a c p true) ≤ r.wi)) && (!p.gr))))] ∧ Mem w noEx wc [(g3, .cells [.bool false, .bool true]), (gr1_7, .cells [.int .i64 p.l, .int .i64 p.w, .bool p.gr, .int .i64 p.pa]), (g2, .cells [.int .u64 (r.s : Int), .int .i64 r.lo, .int .i64 r.wi]), (g1, .cells [.int .i64 s.lo, .int .i64 s.wi, .int .i64 s.a0, .int .i64 s.a1, .int .i64 s.c0, .int .i64 s.c1, .slice A s.ps.length d, .func (.func 183) #[] #[.pointer (some ⟨ga, 0, none⟩)], .func (.func 184) #[] #[.pointer (some ⟨gc, 0, none⟩)], .slice B L.length e, .map (some gm)])]) ?_ ?_
 ·refine wp_region_lit ?_
  refine Zg5 (v2 := (.pointer (some ⟨g2, 1, none⟩))) T (Zq (Zrm rfl (T.e 1 rfl))) rfl (Zf 1 6 rfl rfl) rfl (Zo M 2 0 rfl rfl rfl rfl) rfl (fun _ T => Zq (rn_leq rfl (T.e 2 rfl) (T.e 0 rfl))) rfl (Zm 0 rfl rfl) rfl ?_; clear T ac; intro ac T
  rcases Bool.eq_false_or_eq_true (decide ((sizeL a c p true) ≤ r.lo)) with h4 | h4
  ·replace h4 := of_decide_eq_true h4
   refine Zg6 (v2 := (.pointer (some ⟨g2, 2, none⟩))) T (Zw (Zwy rfl rfl (T.e 0 rfl) (Zdt h4)) (Zrm rfl (T.e 5 rfl))) rfl (fun _ T => Zw (Zwy rfl rfl (T.e 1 rfl) (Zdt h4)) (Zrf (off := 2) rfl (T.e 11 rfl) (fun _ _ _ => by kernel_rfl))) rfl (fun _ T => Zw (Zwy rfl rfl (T.e 2 rfl) (Zdt h4)) (Zro (Mem.nth M 2 rfl) rfl (T.e 0 rfl) rfl)) rfl (fun _ T => Zw (Zwy rfl rfl (T.e 3 rfl) (Zdt h4)) (rn_leq rfl (T.e 2 rfl) (T.e 0 rfl))) rfl (fun _ T => Zq (Zr1 rfl (T.e 4 rfl) (Zdt h4) (T.e 0 rfl))) rfl (Zm 0 rfl rfl) rfl ?_; clear T ac; intro ac T
   rcases Bool.eq_false_or_eq_true (decide ((sizeW a c p true) ≤ r.wi)) with h5 | h5
   ·replace h5 := of_decide_eq_true h5
    refine Zg7 (v3 := (.pointer (some ⟨gr1_7, 2, none⟩))) T (Zw (Zwy rfl rfl (T.e 0 rfl) (Zdt h5)) (Zrm rfl (T.e 13 rfl))) rfl (fun _ T => Zw (Zwy rfl rfl (T.e 1 rfl) (Zdt h5)) (Zrm rfl (T.e 0 rfl))) rfl (fun _ T => Zw (Zwy rfl rfl (T.e 0 rfl) rfl) (Zrf (off := 2) rfl (T.e 19 rfl) (fun _ _ _ => by kernel_rfl))) rfl (fun _ T => Zw (Zwy rfl rfl (T.e 1 rfl) rfl) (Zro (Mem.nth M 1 rfl) rfl (T.e 0 rfl) rfl)) rfl (fun _ T => Zw (Zwy rfl rfl (T.e 4 rfl) (Zdt h5)) (Zr1 rfl (T.e 2 rfl) rfl (T.e 0 rfl))) rfl (fun _ T => Zw (Zwy rfl rfl (T.e 5 rfl) (Zdt h5)) (rn_not rfl (T.e 0 rfl))) rfl (fun _ T => Zq (Zr1 rfl (T.e 6 rfl) (Zdt h5) (T.e 0 rfl))) rfl ?_; clear T ac; intro ac T
    refine wpList_nil ?_
    replace T := T.pick [0, 1, 2, 3, 4, 5, 6, 9, 10, 11, 12, 20, 21, 22, 23, 24, 25, 26] rfl
    exact ⟨(T.pick (E' := [(2, .pointer (some ⟨g1, 0, none⟩)), (3, .pointer (some ⟨g2, 0, none⟩)), (6, .pointer (some ⟨gr1_7, 0, none⟩)), (8, .bool true), (18, .slice (some ⟨g3, 0, none⟩) 2 2), (19, .int .i64 2), (20, .int .i64 1), (49, .bool (!p.gr))]) [13, 14, 15, 11, 16, 17, 12, 0] rfl).as (by (try rw [show (decide ((sizeL a c p true) ≤ r.lo)) = true from (Zdt h4)]); (try rw [show (decide ((sizeW a c p true) ≤ r.wi)) = true from (Zdt h5)]); (try rfl)), M.mask [true, true, true, true] rfl⟩
   replace h5 := of_decide_eq_false h5
   refine Zg7 T (Zp (Zwn rfl rfl (T.e 0 rfl) (Zdf h5))) rfl (fun _ T => Zp (Zwn rfl rfl (T.e 1 rfl) (Zdf h5))) rfl (fun _ T => Zp (Zwu rfl rfl (T.e 0 rfl))) rfl (fun _ T => Zp (Zwu rfl rfl (T.e 1 rfl))) rfl (fun _ T => Zp (Zwn rfl rfl (T.e 4 rfl) (Zdf h5))) rfl (fun _ T => Zp (Zwn rfl rfl (T.e 5 rfl) (Zdf h5))) rfl (fun _ T => Zq (Zr0 rfl (T.e 6 rfl) (Zdf h5) evc)) rfl ?_; clear T ac; intro ac T
   refine wpList_nil ?_
   replace T := T.pick [0, 1, 2, 3, 4, 5, 6, 9, 10, 11, 12, 20, 21, 22, 23, 24, 25, 26] rfl
   exact ⟨(T.pick (E' := [(2, .pointer (some ⟨g1, 0, none⟩)), (3, .pointer (some ⟨g2, 0, none⟩)), (6, .pointer (some ⟨gr1_7, 0, none⟩)), (8, .bool true), (18, .slice (some ⟨g3, 0, none⟩) 2 2), (19, .int .i64 2), (20, .int .i64 1), (49, .bool false)]) [13, 14, 15, 11, 16, 17, 12, 0] rfl).as (by (try rw [show (decide ((sizeL a c p true) ≤ r.lo)) = true from (Zdt h4)]); (try rw [show (decide ((sizeW a c p true) ≤ r.wi)) = false from (Zdf h5)]); (try rfl)), M.mask [true, true, true, true] rfl⟩
  replace h4 := of_decide_eq_false h4
  refine Zg8 T (Zp (Zwn rfl rfl (T.e 0 rfl) (Zdf h4))) rfl (fun _ T => Zp (Zwn rfl rfl (T.e 1 rfl) (Zdf h4))) rfl (fun _ T => Zp (Zwn rfl rfl (T.e 2 rfl) (Zdf h4))) rfl (fun _ T => Zp (Zwn rfl rfl (T.e 3 rfl) (Zdf h4))) rfl (fun _ T => Zq (Zr0 rfl (T.e 4 rfl) (Zdf h4) evc)) rfl (Zm 0 rfl rfl) rfl (fun _ T => Zp (Zwn rfl rfl (T.e 0 rfl) rfl)) rfl (fun _ T => Zp (Zwn rfl rfl (T.e 1 rfl) rfl)) rfl ?_; clear T ac; intro ac T
  refine Zg5 T (Zp (Zwu rfl rfl (T.e 0 rfl))) rfl (fun _ T => Zp (Zwu rfl rfl (T.e 1 rfl))) rfl (fun _ T => Zp (Zwn rfl rfl (T.e 4 rfl) rfl)) rfl (fun _ T => Zp (Zwn rfl rfl (T.e 5 rfl) rfl)) rfl (fun _ T => Zq (Zr0 rfl (T.e 6 rfl) rfl evc)) rfl ?_; clear T ac; intro ac T
  refine wpList_nil ?_
  replace T := T.pick [0, 1, 2, 3, 4, 5, 6, 9, 10, 11, 12, 20, 21, 22, 23, 24, 25, 26] rfl
  exact ⟨(T.pick (E' := [(2, .pointer (some ⟨g1, 0, none⟩)), (3, .pointer (some ⟨g2, 0, none⟩)), (6, .pointer (some ⟨gr1_7, 0, none⟩)), (8, .bool true), (18, .slice (some ⟨g3, 0, none⟩) 2 2), (19, .int .i64 2), (20, .int .i64 1), (49, .bool false)]) [13, 14, 15, 11, 16, 17, 12, 0] rfl).as (by (try rw [show (decide ((sizeL a c p true) ≤ r.lo)) = false from (Zdf h4)]); (try rfl)), M.mask [true, true, true, true] rfl⟩
 clear T M
 rintro ac wc ⟨T, M⟩
 refine wp_cond_split (T.e 7 rfl) ?_ ?_
 ·intro h6
  (have h6' := h6; try simp only [Zb1, Zb2, Zb3, Zb4, Zb5, Zb6, Zb7] at h6')
  refine Zsr ?_
  refine Zg3 T (Zq (Zrm rfl (T.e 3 rfl))) rfl (Za 0 rfl rfl) rfl (Zc rfl) rfl ?_; clear T ac; intro ac T
  refine wpList_nil ?_
  replace T := T.pick [0, 1] rfl
  replace M := M.mask [false, false, false, false] rfl
  refine Znr ?_
  refine Zrb ?_
  refine Zrt ?_
  refine Zrt ?_
  refine Zrb ?_
  refine Zrt ?_
  refine rt_2 T rfl (T.e 1 rfl) (T.e 0 rfl) ?_
  have e9 : fitsP a c (L.getD (onlyP r.s) default) r.lo r.wi = (true, true) := by rw [hpe]; unfold fitsP fitsT; (try simp_all); (try ((repeat' split) <;> first | rfl | omega | (exfalso; simp_all; omega) | (simp_all; done)))
  rw [e9]
  exact ⟨rfl, M.below⟩
 intro h6
 (have h6' := h6; try simp only [Zb1, Zb2, Zb3, Zb4, Zb5, Zb6, Zb7] at h6')
 refine wp_skip ?_
 refine Znb ?_
 refine nm_then ?_
 refine wp_region_lit ?_
 refine lq (v := (.int .i64 2)) T (rn_ofI (rn_add rfl (T.e 6 rfl) evc (by omega)) (by rfl)) ?_; clear T ac; intro ac T
 refine l_q (v := (.int .i64 2)) (T.pick [0, 1, 2, 3, 4, 5, 6, 8] rfl) rfl rfl rfl rfl (Zrm rfl (T.e 0 rfl)) ?_; clear T ac; intro ac T
 replace T := T.pick [0, 2, 3, 4, 6, 7] rfl
 refine Zln ?_
 refine rounds_S ?_
 refine Zsr ?_
 refine lq (v := (.bool false)) T (Zrq (rn_lss rfl (T.e 0 rfl) (T.e 5 rfl)) (by simp)) ?_; clear T ac; intro ac T
 refine Zln ?_
 refine wp_seq ?_
 refine wp_cond_false (T.e 0 rfl) ?_
 refine wp_exit ?_
 refine Zet ?_
 refine Zet ?_
 refine ex_hit ?_
 refine nm_then ?_
 refine Zsr ?_
 refine Zg2 T (Zq (Zra rfl evc)) rfl (Zc rfl) rfl ?_; clear T ac; intro ac T
 refine wpList_nil ?_
 replace T := T.pick [0, 1] rfl
 replace M := M.mask [false, false, false, false] rfl
 refine Znr ?_
 refine rt_2 T rfl (T.e 1 rfl) (T.e 0 rfl) ?_
 have e9 : fitsP a c (L.getD (onlyP r.s) default) r.lo r.wi = (false, false) := by rw [hpe]; unfold fitsP fitsT; (try simp_all); (try ((repeat' split) <;> first | rfl | omega | (exfalso; simp_all; omega) | (simp_all; done)))
 rw [e9]
 exact ⟨rfl, M.below⟩
def CanSpec (s : Sk) (A : Option Addr) (d : Nat) (a c : Int) (ga gc : Nat) (B : Option Addr) (e : Nat) (L : List Pt) (gm n1 : Nat) (n : Nat) : Prop := ∀ (r : Rm) (w : World), popP r.s < n → r.s < 2 ^ L.length → (0 ≤ r.lo ∧ r.lo ≤ 100) → (0 ≤ r.wi ∧ r.wi ≤ 100) → PlW w n1 a c ga gc B L → BA.holds w gm (.any (memoQ Tryz.prog 193 (okR a c L))) →
 Calls Tryz.prog 124 #[.agg #[.int .i64 s.lo, .int .i64 s.wi, .int .i64 s.a0, .int .i64 s.a1, .int .i64 s.c0, .int .i64 s.c1, .slice A s.ps.length d, .func (.func 183) #[] #[.pointer (some ⟨ga, 0, none⟩)], .func (.func 184) #[] #[.pointer (some ⟨gc, 0, none⟩)], .slice B L.length e, .map (some gm)], .agg #[.int .u64 (r.s : Int), .int .i64 r.lo, .int .i64 r.wi]] w (fun e9 w' => e9 = .returned (.bool (canB a c L r)) ∧ Mem w (fun b => b = gm) w' [(gm, .any (memoQ Tryz.prog 193 (okR a c L)))])
set_option maxHeartbeats 4000000 in
theorem can_step (s : Sk) (A : Option Addr) (d : Nat) (a c : Int) (ga gc : Nat) (B : Option Addr) (e : Nat) (L : List Pt) (gm n1 : Nat) (n : Nat) (r : Rm)  (w : World) (ha : 0 ≤ a ∧ a ≤ 2) (hc : 0 ≤ c ∧ c ≤ 2) (hg : ∀ p ∈ L, p.good) (h5 : L.length ≤ 5) (hn1 : n1 ≤ gm) (ih : CanSpec s A d a c ga gc B e L gm n1 n) (hn : popP r.s < n + 1) (hs : r.s < 2 ^ L.length) (hlo : 0 ≤ r.lo ∧ r.lo ≤ 100) (hwi : 0 ≤ r.wi ∧ r.wi ≤ 100) (he : PlW w n1 a c ga gc B L) (hq : BA.holds w gm (.any (memoQ Tryz.prog 193 (okR a c L)))) :
   Calls Tryz.prog 124 #[.agg #[.int .i64 s.lo, .int .i64 s.wi, .int .i64 s.a0, .int .i64 s.a1, .int .i64 s.c0, .int .i64 s.c1, .slice A s.ps.length d, .func (.func 183) #[] #[.pointer (some ⟨ga, 0, none⟩)], .func (.func 184) #[] #[.pointer (some ⟨gc, 0, none⟩)], .slice B L.length e, .map (some gm)], .agg #[.int .u64 (r.s : Int), .int .i64 r.lo, .int .i64 r.wi]] w fun e9 w' => e9 = .returned (.bool (canB a c L r)) ∧ Mem w (fun b => b = gm) w' [(gm, .any (memoQ Tryz.prog 193 (okR a c L)))] := by
 have hs32 := pow32 hs h5
 have hx9 : ∀ b, b = gm → n1 ≤ b := fun b h => by omega
 refine px_enterM (fun b => b = gm) Tryz.func124 rfl 56 rfl [.agg #[.int .i64 s.lo, .int .i64 s.wi, .int .i64 s.a0, .int .i64 s.a1, .int .i64 s.c0, .int .i64 s.c1, .slice A s.ps.length d, .func (.func 183) #[] #[.pointer (some ⟨ga, 0, none⟩)], .func (.func 184) #[] #[.pointer (some ⟨gc, 0, none⟩)], .slice B L.length e, .map (some gm)], .agg #[.int .u64 (r.s : Int), .int .i64 r.lo, .int .i64 r.wi]] rfl rfl (Mem.initEx (p := .any (memoQ Tryz.prog 193 (okR a c L))) hq) ?_
 intro ac wc T M
 refine Zsr ?_
 refine Zl2 ?_
 refine Zob M T rfl rfl rfl rfl (T.e 0 rfl) rfl ?_; clear M T; intro g1 wc ac M T
 refine Zl2 ?_
 refine Zob M T rfl rfl rfl rfl (T.e 2 rfl) rfl ?_; clear M T; intro g2 wc ac M T
 refine lq T (Zra rfl evc) ?_; clear T ac; intro ac T
 replace T := T.pick [1, 2] rfl
 refine Zln ?_
 refine Zsr ?_
 refine Zg4 (v1 := (.pointer (some ⟨g2, 0, none⟩))) (v3 := (.func (.func 185) #[.int .u64 (r.s : Int)] #[])) T (Zq (Zrf (off := 0) rfl (T.e 0 rfl) (fun _ _ _ => by kernel_rfl))) rfl (Zo M 0 0 rfl rfl rfl rfl) rfl (fun _ T => Zq (rn_makeFunc rfl (.cons (T.e 0 rfl) .nil) .nil)) rfl (Za 0 rfl rfl) rfl ?_; clear T ac; intro ac T
 replace T := T.pick [0, 4, 5] rfl
 refine Zln ?_
 refine wp_seq ?_
 refine Zsr ?_
 refine lq T (Zrm rfl (T.e 0 rfl)) ?_; clear T ac; intro ac T
 refine Zl2 ?_
 refine Zoc (first := [.int .u64 (r.s : Int)]) (cap := []) T rfl rfl rfl rfl (T.e 0 rfl) .nil Tryz.func185 rfl rfl ?_
 refine Calls.mono (many_any r.s _ (by omega)) ?_
 clear T; rintro e wc ⟨rfl, hb⟩ ac T
 replace M := M.call hb; clear hb
 replace T := T.pick [0, 3, 4] rfl
 refine Zln ?_
 refine wp_block ?_
 refine Zsr ?_
 refine Zg2 T (Zq (rn_eql rfl (T.e 0 rfl) evc)) rfl (Za 0 rfl rfl) rfl ?_; clear T ac; intro ac T
 replace T := T.pick [0, 2, 3, 4] rfl
 refine Zln ?_
 refine wp_if (T.e 0 rfl) ?_ ?_
 ·intro h1
  refine Zsr ?_
  refine lq T (Zra rfl evc) ?_; clear T ac; intro ac T
  refine wpList_nil ?_
  replace T := T.pick [0] rfl
  replace M := M.mask [false, false, true] rfl
  refine Znr ?_
  refine Zrb ?_
  refine Zrt ?_
  refine rtM (L := [(gm, .any (memoQ Tryz.prog 193 (okR a c L)))]) [] T (M.perm [0] rfl rfl) ?_; clear T M; intro wc ac T M
  refine rt_1 T rfl (T.e 0 rfl) ?_
  exact ⟨by rw [canB_iff.2 (can_none hs h5 (by omega))], M.mask [true] rfl⟩
 intro h1
 refine Zsr ?_
 refine Zg2 T (Zq (rn_eql rfl (T.e 1 rfl) evc)) rfl (Za 0 rfl rfl) rfl ?_; clear T ac; intro ac T
 replace T := T.pick [0, 4, 5] rfl
 refine Zln ?_
 refine wp_if (T.e 0 rfl) ?_ ?_
 ·intro h2
  refine Zsr ?_
  refine Zg2 T (Zq (Zrr (Mem.nth M 1 rfl) rfl (T.e 2 rfl) rfl)) rfl (Zr M 0 2 rfl rfl rfl rfl) rfl ?_; clear T ac; intro ac T
  refine Zl2 ?_
  refine Zoc (first := []) (cap := []) T rfl rfl rfl rfl evf (.cons (T.e 1 rfl) (.cons (T.e 0 rfl) .nil)) Tryz.func186 rfl rfl ?_
  refine Calls.mono (fits_any s A d a c ga gc B e L gm n1 r _ ha hc hg h5 hn1 (he.mem M hx9) hs (by omega)) ?_
  clear T; rintro e wc ⟨rfl, hb⟩ ac T
  replace M := M.call hb; clear hb
  refine Zg5 T (Zq (Zrm rfl (T.e 0 rfl))) rfl (Ze 0 rfl rfl rfl) rfl (Ze 1 rfl rfl rfl) rfl (Za 1 rfl rfl) rfl (Za 1 rfl rfl) rfl ?_; clear T ac; intro ac T
  refine wpList_nil ?_
  replace T := T.pick [0] rfl
  replace M := M.mask [false, false, true] rfl
  refine nm_then ?_
  refine Zsr ?_
  refine Zg2 T (Zq (Zrm rfl (T.e 0 rfl))) rfl (Za 0 rfl rfl) rfl ?_; clear T ac; intro ac T
  replace T := T.pick [0] rfl
  refine Zln ?_
  refine wp_ret ?_
  refine Zrb ?_
  refine Zrt ?_
  refine rtM (L := [(gm, .any (memoQ Tryz.prog 193 (okR a c L)))]) [] T (M.perm [0] rfl rfl) ?_; clear T M; intro wc ac T M
  refine rt_1 T rfl (T.e 0 rfl) ?_
  have hc9 : canB a c L r = (fitsP a c (L.getD (onlyP r.s) default) r.lo r.wi).2 := by rw [Bool.eq_iff_iff, canB_iff, can_one hs h5 (by omega), fitsP_iff]
  exact ⟨by rw [hc9], M.mask [true] rfl⟩
 intro h2
 refine wp_skip ?_
 refine Znb ?_
 refine Zns ?_
 refine Zsr ?_
 refine Zg3 (v1 := (.pointer (some ⟨g1, 10, none⟩))) T (Zq (Zrf (off := 10) rfl (T.e 2 rfl) (fun _ _ _ => by kernel_rfl))) rfl (Zo M 1 0 rfl rfl rfl rfl) rfl (Zr M 0 3 rfl rfl rfl rfl) rfl ?_; clear T ac; intro ac T
 refine Zl2 ?_
 obtain ⟨klk1, hklk1⟩ := Tryz.rm_key r hs32 (by omega) (by omega)
 refine ow_lk (okv := (okR a c L)) Tryz.keyed193 Tryz.underlying185 Tryz.zeroBool M T (Zne (i := 2) rfl) rfl rfl rfl rfl (T.e 1 rfl) (T.e 0 rfl) hklk1 ?_; clear T; intro vk1 bk1 hvk1 hzk1 ac T
 refine Zg5 T (Zq (Zrm rfl (T.e 0 rfl))) rfl (Ze 0 rfl rfl rfl) rfl (Ze 1 rfl rfl rfl) rfl (Za 1 rfl rfl) rfl (Za 1 rfl rfl) rfl ?_; clear T ac; intro ac T
 replace T := T.pick [0, 1, 10, 11] rfl
 refine Zln ?_
 refine Zsr ?_
 refine lq T (Zrm rfl (T.e 0 rfl)) ?_; clear T ac; intro ac T
 replace T := T.pick [0, 2, 3, 4] rfl
 refine Zln ?_
 refine wp_cond_split (T.e 0 rfl) ?_ ?_
 ·intro h3
  have hv9 := hvk1 h3 r rfl
  subst hv9
  refine Zsr ?_
  refine Zg2 T (Zq (Zrm rfl (T.e 1 rfl))) rfl (Za 0 rfl rfl) rfl ?_; clear T ac; intro ac T
  refine wpList_nil ?_
  replace T := T.pick [0] rfl
  replace M := M.mask [false, false, true] rfl
  refine Znr ?_
  refine Zrt ?_
  refine rtM (L := [(gm, .any (memoQ Tryz.prog 193 (okR a c L)))]) [] T (M.perm [0] rfl rfl) ?_; clear T M; intro wc ac T M
  refine rt_1 T rfl (T.e 0 rfl) ?_
  exact ⟨rfl, M.mask [true] rfl⟩
 intro h3
 refine Zsk ?_
 refine Zsr ?_
 refine Zl2 ?_
 refine Zoa M T rfl rfl rfl rfl ?_; clear M T; intro g3 wc ac M T
 refine Zl2 ?_
 refine Zos M T rfl rfl (T.e 0 rfl) evc rfl .head rfl (by simp) rfl (by kernel_rfl) ?_; clear M T; intro wc ac M T
 replace T := T.pick [0, 3, 4] rfl
 refine Zln ?_
 refine wp_seq ?_
 refine Zsr ?_
 refine lq T (Zrr (Mem.nth M 1 rfl) rfl (T.e 1 rfl) rfl) ?_; clear T ac; intro ac T
 refine Zl2 ?_
 refine Zoc (first := []) (cap := []) T rfl rfl rfl rfl evf (.cons (T.e 0 rfl) .nil) Tryz.func187 rfl rfl ?_
 refine Calls.mono (rooms_any r _) ?_
 clear T; rintro e wc ⟨gu3, rfl, N⟩ ac T
 replace M := M.join N; clear N
 replace M := M.mask [true, true, true, true, true] rfl
 replace T := T.pick [0, 2, 3, 4] rfl
 refine Zln ?_
 refine wp_block ?_
 have qp := M.nth 0 rfl
 have hno : gu3 ∉ ([g3, g2, g1, gm] : List Nat) := M.other 0 rfl rfl
 have hE := he.mem M hx9
 have hs0 : 0 < r.s := Nat.pos_of_ne_zero (fun h0 => (by have h00 : popP r.s = 0 := (by rw [h0]; rfl); omega))
 have hown : ∀ b, b ∈ ([g3, g2, g1, gm] : List Nat) → n1 ≤ b := fun b hb => M.ges he.le hx9 (bs := [gu3, g3, g2, g1, gm]) rfl b (by simp only [List.mem_cons, List.not_mem_nil, or_false] at hb ⊢; omega)
 replace T := T.pick [3, 2, 1, 0] rfl
 replace M := M.mask [false, true, true, true, true] rfl
 have hlt_g3 := M.lt (Zne (i := 0) rfl)
 have hlt_g2 := M.lt (Zne (i := 1) rfl)
 have hlt_g1 := M.lt (Zne (i := 2) rfl)
 have hlt_gm := M.lt (Zne (i := 3) rfl)
 refine px_rangeB (α := Ru r) (γ := Nat) (n := 56) T (T.e 3 rfl) (enters_of Tryz.func224 (by kernel_rfl) rfl) (fun b => b ∈ ([g3, g2, g1, gm] : List Nat)) (rooms1_seq gu3 (fun b => b ∈ ([g3, g2, g1, gm] : List Nat)) r _ hs32 hs0 hlo hwi hno (M.lts rfl) qp) (fun _ => rfl) (fun (pre : List (Ru r)) (Lx : List (Nat × BA)) (W : World) => (PlW W n1 a c ga gc B L) ∧ (∀ q ∈ pre.map (·.1), ¬ (canB a c L q.a = true ∧ canB a c L q.b = true)) ∧ Lx = [(g3, .cells [.bool false]), (g2, .cells [.int .u64 (r.s : Int), .int .i64 r.lo, .int .i64 r.wi]), (g1, .cells [.int .i64 s.lo, .int .i64 s.wi, .int .i64 s.a0, .int .i64 s.a1, .int .i64 s.c0, .int .i64 s.c1, .slice A s.ps.length d, .func (.func 183) #[] #[.pointer (some ⟨ga, 0, none⟩)], .func (.func 184) #[] #[.pointer (some ⟨gc, 0, none⟩)], .slice B L.length e, .map (some gm)]), (gm, .any (memoQ Tryz.prog 193 (okR a c L)))]) (fun c9 pre Lx W => c9 = .exit 1 ∧ PlW W n1 a c ga gc B L ∧ (∃ q ∈ pre.map (fun x : Ru r => x.1), canB a c L q.a = true ∧ canB a c L q.b = true) ∧ Lx = [(g3, .cells [.bool true]), (g2, .cells [.int .u64 (r.s : Int), .int .i64 r.lo, .int .i64 r.wi]), (g1, .cells [.int .i64 s.lo, .int .i64 s.wi, .int .i64 s.a0, .int .i64 s.a1, .int .i64 s.c0, .int .i64 s.c1, .slice A s.ps.length d, .func (.func 183) #[] #[.pointer (some ⟨ga, 0, none⟩)], .func (.func 184) #[] #[.pointer (some ⟨gc, 0, none⟩)], .slice B L.length e, .map (some gm)]), (gm, .any (memoQ Tryz.prog 193 (okR a c L)))])
   (fun x => [(40, .agg #[.int .i64 x.1.x, .int .i64 x.1.y]), (39, .agg #[.int .u64 (x.1.a.s : Int), .int .i64 x.1.a.lo, .int .i64 x.1.a.wi, .int .u64 (x.1.b.s : Int), .int .i64 x.1.b.lo, .int .i64 x.1.b.wi]), (2, .pointer (some ⟨g1, 0, none⟩)), (3, .pointer (some ⟨g2, 0, none⟩)), (10, .pointer (some ⟨g3, 0, none⟩)), (38, .func (.func 224) #[] #[.pointer (some ⟨gu3, 0, none⟩)])]) (fun x g4 => [(11, .pointer (some ⟨g4, 0, none⟩)), (2, .pointer (some ⟨g1, 0, none⟩)), (3, .pointer (some ⟨g2, 0, none⟩)), (10, .pointer (some ⟨g3, 0, none⟩))]) (fun x g4 => [(g4, .cells [.int .u64 (x.1.a.s : Int), .int .i64 x.1.a.lo, .int .i64 x.1.a.wi, .int .u64 (x.1.b.s : Int), .int .i64 x.1.b.lo, .int .i64 x.1.b.wi])]) ?_ ?_ ?_ ?_ ?_ ?_ ?_ ?_ M ?_ ?_ ?_ ?_ ?_ ?_ ?_
 ·rintro pre Lx W ⟨he, hno, rfl⟩ p hp
  rcases List.mem_cons.1 hp with rfl | hp
  · exact hlt_g3
  rcases List.mem_cons.1 hp with rfl | hp
  · exact hlt_g2
  rcases List.mem_cons.1 hp with rfl | hp
  · exact hlt_g1
  rcases List.mem_cons.1 hp with rfl | hp
  · exact hlt_gm
  cases hp
 ·rintro c9 pre Lx W ⟨rfl, -, -, rfl⟩ p hp
  exact M.lts (bs := [g3, g2, g1, gm]) rfl _ (List.mem_map_of_mem (f := fun q : Nat × BA => q.1) hp)
 ·rintro pre Lx W ⟨he, hno, rfl⟩ p hp
  exact List.mem_map.2 ⟨p, hp, rfl⟩
 ·intro b hb
  simp only [List.mem_cons, List.not_mem_nil, or_false] at hb
  rcases hb with rfl | rfl | rfl | rfl
  · exact hlt_g3
  · exact hlt_g2
  · exact hlt_g1
  · exact hlt_gm
 ·intro b hb
  simp only [List.mem_cons, List.not_mem_nil, or_false] at hb
  rcases hb with rfl | rfl | rfl | rfl
  · exact (M.blk _ (Zne (i := 0) rfl)).1.symm
  · exact (M.blk _ (Zne (i := 1) rfl)).1.symm
  · exact (M.blk _ (Zne (i := 2) rfl)).1.symm
  · exact (M.blk _ (Zne (i := 3) rfl)).1.symm
 ·exact fun _ _ _ h _ => h
 ·rintro pre Lx W W' ⟨he, hno, rfl⟩ hK
  exact ⟨(he.kpN hK), hno, rfl⟩
 ·rintro c9 pre Lx W W' ⟨rfl, h1, h2, rfl⟩ hK
  exact ⟨rfl, h1.kpN hK, h2, rfl⟩
 ·exact ⟨hE, (by simp), rfl⟩
 ·exact fun x => T.round2 _ _ rfl rfl rfl rfl
 ·intro x c p hp
  rcases List.mem_cons.1 hp with rfl | hp
  · rfl
  cases hp
 ·intro lp9 x wc K1 ac T hK1
  have M := Mem.init wc noEx
  refine ri_lit (fun _ _ h => h) rfl ?_
  refine Zl2 ?_
  refine Zoa M T rfl rfl rfl rfl ?_; clear M T; intro g4 wc ac M T
  refine Zl2 ?_
  refine Zos M T rfl rfl (T.e 0 rfl) (T.e 2 rfl) rfl .head rfl (by simp) rfl (by kernel_rfl) ?_; clear M T; intro wc ac M T
  replace T := T.pick [0, 3, 4, 5] rfl
  refine Zln ?_
  exact hK1 g4 _ _ (T.pick [0, 1, 2, 3] rfl) (M.mask [true] rfl)
 ·rintro lp9 pre x g4 Lx ac w hj hox hz hlp M0 hnl9 exb wc hexb hwc T M
  have hnx_g4 : ¬ exb g4 := by rw [hexb]; exact hnl9 _ Zz2
  obtain ⟨he, hno, rfl⟩ := hj
  replace T : TmD [] ac 56 [(11, .pointer (some ⟨g4, 0, none⟩)), (2, .pointer (some ⟨g1, 0, none⟩)), (3, .pointer (some ⟨g2, 0, none⟩)), (10, .pointer (some ⟨g3, 0, none⟩))] := T
  replace M : Mem w exb wc [(g3, .cells [.bool false]), (g2, .cells [.int .u64 (r.s : Int), .int .i64 r.lo, .int .i64 r.wi]), (g1, .cells [.int .i64 s.lo, .int .i64 s.wi, .int .i64 s.a0, .int .i64 s.a1, .int .i64 s.c0, .int .i64 s.c1, .slice A s.ps.length d, .func (.func 183) #[] #[.pointer (some ⟨ga, 0, none⟩)], .func (.func 184) #[] #[.pointer (some ⟨gc, 0, none⟩)], .slice B L.length e, .map (some gm)]), (gm, .any (memoQ Tryz.prog 193 (okR a c L)))] := M
  replace M0 : Mem _ _ w ([(g4, .cells [.int .u64 (x.1.a.s : Int), .int .i64 x.1.a.lo, .int .i64 x.1.a.wi, .int .u64 (x.1.b.s : Int), .int .i64 x.1.b.lo, .int .i64 x.1.b.wi])] ++ [(g3, .cells [.bool false]), (g2, .cells [.int .u64 (r.s : Int), .int .i64 r.lo, .int .i64 r.wi]), (g1, .cells [.int .i64 s.lo, .int .i64 s.wi, .int .i64 s.a0, .int .i64 s.a1, .int .i64 s.c0, .int .i64 s.c1, .slice A s.ps.length d, .func (.func 183) #[] #[.pointer (some ⟨ga, 0, none⟩)], .func (.func 184) #[] #[.pointer (some ⟨gc, 0, none⟩)], .slice B L.length e, .map (some gm)]), (gm, .any (memoQ Tryz.prog 193 (okR a c L)))]) := M0
  have hxb : ∀ b, exb b → n1 ≤ b := by rw [hexb]; exact hown
  have hx9 := hxb
  obtain ⟨⟨hq1, hq2, hq3, hq4⟩, hq5, hq6⟩ := rooms_pop hs32 x.2
  obtain ⟨⟨hr1, hr2, hr3, hr4⟩, ⟨hr5, hr6, hr7, hr8⟩, -⟩ := rooms_bd hlo.1 hwi.1 x.2
  obtain ⟨hp1, hp2⟩ := rooms_pow hs h5 x.2
  refine wpIn_block ?_
  refine ci_seq (fun ac wc => Tm ac 56 [(2, .pointer (some ⟨g1, 0, none⟩)), (3, .pointer (some ⟨g2, 0, none⟩)), (10, .pointer (some ⟨g3, 0, none⟩)), (50, .bool ((canB a c L x.1.a) && (canB a c L x.1.b)))] ∧ Mem w exb wc [(g3, .cells [.bool false]), (g2, .cells [.int .u64 (r.s : Int), .int .i64 r.lo, .int .i64 r.wi]), (g1, .cells [.int .i64 s.lo, .int .i64 s.wi, .int .i64 s.a0, .int .i64 s.a1, .int .i64 s.c0, .int .i64 s.c1, .slice A s.ps.length d, .func (.func 183) #[] #[.pointer (some ⟨ga, 0, none⟩)], .func (.func 184) #[] #[.pointer (some ⟨gc, 0, none⟩)], .slice B L.length e, .map (some gm)]), (gm, .any (memoQ Tryz.prog 193 (okR a c L)))]) ?_ ?_
  ·refine ri_lit (fun _ _ h => h) rfl ?_
   refine Zg3 (v2 := (.pointer (some ⟨g4, 0, none⟩))) T (Zq (Zrr (Mem.nth M 2 rfl) rfl (T.e 1 rfl) rfl)) rfl (fun _ T => Zq (rn_indexA (size := 3) 0 rfl (T.e 1 rfl) evc Tryz.underlying271 (by kernel_rfl) rfl)) rfl (fun _ T => Zq (Zrr (Mem.old M (Mem.nth M0 0 rfl) hnx_g4) rfl (T.e 0 rfl) rfl)) rfl ?_; clear T ac; intro ac T
   refine Zl2 ?_
   refine Zoc (first := []) (cap := []) T rfl rfl rfl rfl evf (.cons (T.e 2 rfl) (.cons (T.e 0 rfl) .nil)) Tryz.func124 rfl rfl ?_
   refine Calls.mono (ih x.1.a _ (by omega) hp1 (by omega) (by omega) (he.mem M hx9) (M.at (Zne (i := 3) rfl))) ?_
   clear T; rintro e wc ⟨rfl, N⟩ ac T
   replace M := M.joinE N (.tail (.tail (.tail .head)))
   clear N
   refine lq T (Zrm rfl (T.e 0 rfl)) ?_; clear T ac; intro ac T
   rcases Bool.eq_false_or_eq_true (canB a c L x.1.a) with h4 | h4
   ·refine Zg3 (v2 := (.pointer (some ⟨g4, 3, none⟩))) T (Zw (Zwy rfl rfl (T.e 0 rfl) h4) (Zrr (Mem.nth M 2 rfl) rfl (T.e 6 rfl) rfl)) rfl (fun _ T => Zw (Zwy rfl rfl (T.e 1 rfl) h4) (rn_indexA (size := 3) 1 rfl (T.e 6 rfl) evc Tryz.underlying271 (by kernel_rfl) rfl)) rfl (fun _ T => Zw (Zwy rfl rfl (T.e 2 rfl) h4) (Zrr (Mem.old M (Mem.nth M0 0 rfl) hnx_g4) rfl (T.e 0 rfl) rfl)) rfl ?_; clear T ac; intro ac T
    refine l_w (Zwy rfl rfl (T.e 3 rfl) h4) ?_; intro K hK
    refine Zoc (first := []) (cap := []) T rfl rfl rfl rfl evf (.cons (T.e 2 rfl) (.cons (T.e 0 rfl) .nil)) Tryz.func124 rfl rfl ?_
    refine Calls.mono (ih x.1.b _ (by omega) hp2 (by omega) (by omega) (he.mem M hx9) (M.at (Zne (i := 3) rfl))) ?_
    clear T; rintro e wc ⟨rfl, N⟩ ac T
    replace M := M.joinE N (.tail (.tail (.tail .head)))
    clear N
    refine Zso hK _ _ ?_; clear hK K
    refine lq T (Zr1 rfl (T.e 4 rfl) h4 (T.e 0 rfl)) ?_; clear T ac; intro ac T
    refine wpList_nil ?_
    replace T := T.pick [0, 1, 2, 3, 4, 11, 12, 13] rfl
    exact ⟨(T.pick (E' := [(2, .pointer (some ⟨g1, 0, none⟩)), (3, .pointer (some ⟨g2, 0, none⟩)), (10, .pointer (some ⟨g3, 0, none⟩)), (50, .bool (canB a c L x.1.b))]) [5, 6, 7, 0] rfl).as (by (try rw [show (canB a c L x.1.a) = true from h4]); (try rfl)), M.mask [true, true, true, true] rfl⟩
   refine Zg5 T (Zp (Zwn rfl rfl (T.e 0 rfl) h4)) rfl (fun _ T => Zp (Zwn rfl rfl (T.e 1 rfl) h4)) rfl (fun _ T => Zp (Zwn rfl rfl (T.e 2 rfl) h4)) rfl (fun _ T => Zp (Zwn rfl rfl (T.e 3 rfl) h4)) rfl (fun _ T => Zq (Zr0 rfl (T.e 4 rfl) h4 evc)) rfl ?_; clear T ac; intro ac T
   refine wpList_nil ?_
   replace T := T.pick [0, 1, 2, 3, 4, 11, 12, 13] rfl
   exact ⟨(T.pick (E' := [(2, .pointer (some ⟨g1, 0, none⟩)), (3, .pointer (some ⟨g2, 0, none⟩)), (10, .pointer (some ⟨g3, 0, none⟩)), (50, .bool false)]) [5, 6, 7, 0] rfl).as (by (try rw [show (canB a c L x.1.a) = false from h4]); (try rfl)), M.mask [true, true, true, true] rfl⟩
  clear T M
  rintro ac wc ⟨T, M⟩
  refine wpIn_cond_split (T.e 3 rfl) ?_ ?_
  ·intro h5
   (have h5' := h5; try simp only [Zb1, Zb2, Zb3, Zb4, Zb5, Zb6, Zb7] at h5')
   refine wpIn_seq ?_
   refine ri_lit (fun _ _ h => h) rfl ?_
   refine Zl2 ?_
   refine Zos M T rfl rfl (T.e 2 rfl) evc rfl .head rfl (by simp) rfl (by kernel_rfl) ?_; clear M T; intro wc ac M T
   replace T := T.pick [0, 1, 2] rfl
   refine Zln ?_
   refine wpIn_exit ?_
   refine ex_miss rfl ?_
   refine rb_exit (L := [(g3, .cells [.bool true]), (g2, .cells [.int .u64 (r.s : Int), .int .i64 r.lo, .int .i64 r.wi]), (g1, .cells [.int .i64 s.lo, .int .i64 s.wi, .int .i64 s.a0, .int .i64 s.a1, .int .i64 s.c0, .int .i64 s.c1, .slice A s.ps.length d, .func (.func 183) #[] #[.pointer (some ⟨ga, 0, none⟩)], .func (.func 184) #[] #[.pointer (some ⟨gc, 0, none⟩)], .slice B L.length e, .map (some gm)]), (gm, .any (memoQ Tryz.prog 193 (okR a c L)))]) ⟨rfl, he.mem M hxb, ⟨x.1, by rw [List.map_append]; exact List.mem_append_right _ Zz2, ⟨by simp_all, by simp_all⟩⟩, rfl⟩ (M.perm [0, 1, 2, 3] rfl rfl)
  intro h5
  (have h5' := h5; try simp only [Zb1, Zb2, Zb3, Zb4, Zb5, Zb6, Zb7] at h5')
  refine wpIn_skip ?_
  refine Znb ?_
  refine rb_nm (L := [(g3, .cells [.bool false]), (g2, .cells [.int .u64 (r.s : Int), .int .i64 r.lo, .int .i64 r.wi]), (g1, .cells [.int .i64 s.lo, .int .i64 s.wi, .int .i64 s.a0, .int .i64 s.a1, .int .i64 s.c0, .int .i64 s.c1, .slice A s.ps.length d, .func (.func 183) #[] #[.pointer (some ⟨ga, 0, none⟩)], .func (.func 184) #[] #[.pointer (some ⟨gc, 0, none⟩)], .slice B L.length e, .map (some gm)]), (gm, .any (memoQ Tryz.prog 193 (okR a c L)))]) ?_ (M.mask [true, true, true, true] rfl)
  exact ⟨(he.mem M hxb), (by rw [List.map_append]; intro q hq; rcases List.mem_append.1 hq with hq | hq; exact hno q hq; rw [List.mem_singleton.1 hq]; simp_all), rfl⟩
 ·rintro D1 pre Lx ac wc hDn hSd hj hz T M
  obtain ⟨he, hno, rfl⟩ := hj
  replace T : TmD ((([D1] : List Nat)).map dfD) ac 56 [(2, .pointer (some ⟨g1, 0, none⟩)), (3, .pointer (some ⟨g2, 0, none⟩)), (10, .pointer (some ⟨g3, 0, none⟩)), (38, .func (.func 224) #[] #[.pointer (some ⟨gu3, 0, none⟩)])] := T
  have hc9 : canB a c L r = false := by rw [← Bool.not_eq_true, canB_iff, can_cut hs h5 (by omega)]; rintro ⟨q, hq, k1, k2⟩; exact hno q (by rw [hSd]; exact hq) ⟨canB_iff.2 k1, canB_iff.2 k2⟩
  replace T := T.pick [0, 1, 2] rfl
  refine Znb ?_
  refine nm_then ?_
  refine Zsr ?_
  refine Zg4 (v1 := (.pointer (some ⟨g1, 10, none⟩))) T (Zq (Zrf (off := 10) rfl (T.e 0 rfl) (fun _ _ _ => by kernel_rfl))) rfl (Zo M 3 0 rfl rfl rfl rfl) rfl (Zr M 2 3 rfl rfl rfl rfl) rfl (Zo M 1 5 rfl rfl rfl rfl) rfl ?_; clear T ac; intro ac T
  refine Zl2 ?_
  obtain ⟨klk2, hklk2⟩ := Tryz.rm_key r hs32 (by omega) (by omega)
  refine ow_muM (okv := (okR a c L)) Tryz.keyed193 Tryz.underlying185 M T rfl rfl (T.e 2 rfl) (T.e 1 rfl) (T.e 0 rfl) (.tail (.tail (.tail (.tail .head)))) hklk2 (okR_of hc9) ?_; clear M T; intro wc ac M T
  refine wpList_nil ?_
  replace T := T.pick [6] rfl
  replace M := M.mask [true, true, false, false, true] rfl
  refine nm_then ?_
  refine Zsr ?_
  refine Zg2 T (Zq (Zro (Mem.nth M 1 rfl) rfl (T.e 0 rfl) rfl)) rfl (Za 0 rfl rfl) rfl ?_; clear T ac; intro ac T
  refine wpList_nil ?_
  replace T := T.pick [0] rfl
  replace M := M.mask [true, false, true] rfl
  refine Znr ?_
  refine rtM (L := [(gm, .any (memoQ Tryz.prog 193 (okR a c L)))]) (([D1] : List Nat)) T (M.perm [1, 0] rfl rfl) ?_; clear T M; intro wc ac T M
  refine rt_1 T rfl (T.e 0 rfl) ?_
  exact ⟨by rw [hc9], M.mask [true] rfl⟩
 ·rintro D1 c9 pre Lx ac wc hDn hSp ⟨rfl, he9, ⟨q9, hq9, hb9⟩, rfl⟩ hz T M
  replace T : TmD ((([D1] : List Nat)).map dfD) ac 56 [(2, .pointer (some ⟨g1, 0, none⟩)), (3, .pointer (some ⟨g2, 0, none⟩)), (10, .pointer (some ⟨g3, 0, none⟩)), (38, .func (.func 224) #[] #[.pointer (some ⟨gu3, 0, none⟩)])] := T
  have hc9 : canB a c L r = true := canB_iff.2 ((can_cut hs h5 (by omega)).2 ⟨q9, hSp.subset hq9, canB_iff.1 hb9.1, canB_iff.1 hb9.2⟩)
  refine wp_exit ?_
  refine ex_hit ?_
  refine nm_then ?_
  refine Zsr ?_
  refine Zg4 (v1 := (.pointer (some ⟨g1, 10, none⟩))) T (Zq (Zrf (off := 10) rfl (T.e 0 rfl) (fun _ _ _ => by kernel_rfl))) rfl (Zo M 3 0 rfl rfl rfl rfl) rfl (Zr M 2 3 rfl rfl rfl rfl) rfl (Zo M 1 5 rfl rfl rfl rfl) rfl ?_; clear T ac; intro ac T
  refine Zl2 ?_
  obtain ⟨klk3, hklk3⟩ := Tryz.rm_key r hs32 (by omega) (by omega)
  refine ow_muM (okv := (okR a c L)) Tryz.keyed193 Tryz.underlying185 M T rfl rfl (T.e 2 rfl) (T.e 1 rfl) (T.e 0 rfl) (.tail (.tail (.tail (.tail .head)))) hklk3 (okR_of hc9) ?_; clear M T; intro wc ac M T
  refine wpList_nil ?_
  replace T := T.pick [6] rfl
  replace M := M.mask [true, true, false, false, true] rfl
  refine nm_then ?_
  refine Zsr ?_
  refine Zg2 T (Zq (Zro (Mem.nth M 1 rfl) rfl (T.e 0 rfl) rfl)) rfl (Za 0 rfl rfl) rfl ?_; clear T ac; intro ac T
  refine wpList_nil ?_
  replace T := T.pick [0] rfl
  replace M := M.mask [true, false, true] rfl
  refine Znr ?_
  refine rtM (L := [(gm, .any (memoQ Tryz.prog 193 (okR a c L)))]) (([D1] : List Nat)) T (M.perm [1, 0] rfl rfl) ?_; clear T M; intro wc ac T M
  refine rt_1 T rfl (T.e 0 rfl) ?_
  exact ⟨by rw [hc9], M.mask [true] rfl⟩
end
section
variable {α : Type} (enc : α → List Value) (z : Nat)
theorem fm_length (hz : ∀ x, (enc x).length = z) : ∀ l : List α, (l.flatMap enc).length = l.length * z
 | [] => by simp
 | x :: l => by rw [List.flatMap_cons, List.length_append, fm_length hz l, hz, List.length_cons, Nat.add_mul]; omega
theorem fm_put (hz : ∀ x, (enc x).length = z) (f : Nat) (x' : α) (ds : List Value) : ∀ (l : List α) (k : Nat) (x : α), l[k]? = some x → enc x' = (enc x).take f ++ ds ++ (enc x).drop (f + ds.length) → f + ds.length ≤ z → (l.flatMap enc).take (k * z + f) ++ ds ++ (l.flatMap enc).drop (k * z + f + ds.length) = (l.set k x').flatMap enc
 | [], k, x, h, _, _ => by simp at h
 | y :: l, 0, x, h, he, hf => by
  simp at h
  subst h
  have h4 := hz y
  rw [Zz7, List.flatMap_cons, List.flatMap_cons, Nat.zero_mul, Nat.zero_add, List.take_append_of_le_length (by omega), List.drop_append_of_le_length (by omega), he]
  simp
 | y :: l, k + 1, x, h, he, hf => by
  have h4 := hz y
  have ih := fm_put hz f x' ds l k x (by simpa using h) he hf
  rw [Zz8, List.flatMap_cons, List.flatMap_cons, show (k + 1) * z + f = (enc y).length + (k * z + f) by rw [h4, Nat.add_mul]; omega, List.take_length_add_append, show (enc y).length + (k * z + f) + ds.length = (enc y).length + (k * z + f + ds.length) by omega, List.drop_length_add_append, ← ih]
  simp
end
theorem rep_get {α : Type} (enc : α → List Value) (z : Nat) (x0 : α) (hz : (enc x0).length = z) : ∀ (m i : Nat), i < m * z → ((List.replicate m x0).flatMap enc)[i]? = (enc x0)[i % z]?
 | 0, i, h => by simp at h
 | m + 1, i, h => by
  rw [List.replicate_succ, List.flatMap_cons]
  rw [Nat.add_mul] at h
  rcases Nat.lt_or_ge i z with h1 | h1
  ·rw [List.getElem?_append_left (by omega), Nat.mod_eq_of_lt h1]
  ·rw [List.getElem?_append_right (by omega), hz, rep_get enc z x0 hz m (i - z) (by omega), Nat.mod_eq_sub_mod h1]
theorem made_fm {α : Type} (enc : α → List Value) (z : Nat) (x0 : α) (hz : (enc x0).length = z) (h0 : 0 < z) (m : Nat) : madeCells (enc x0).toArray (m * z) = ((List.replicate m x0).flatMap enc ++ []).toArray := by
 have hl : ((List.replicate m x0).flatMap enc).length = m * z := by
  induction m with
  | zero => simp
  | succ m ih => rw [List.replicate_succ, List.flatMap_cons, List.length_append, ih, hz, Nat.add_mul]; omega
 apply Array.ext
 ·simp only [size_madeCells, List.append_nil, List.size_toArray, hl]
 ·intro i h1 h2
  rw [size_madeCells] at h1
  have h3 := rep_get enc z x0 hz m i h1
  have h4 : i % z < (enc x0).length := by rw [hz]; exact Nat.mod_lt _ h0
  simp only [madeCells, Array.getElem_map, Array.getElem_range, Zz3, List.append_nil, List.size_toArray, hz]
  rw [List.getElem?_eq_getElem (by rw [hl]; exact h1), List.getElem?_eq_getElem h4] at h3
  injection h3 with h3
  rw [h3]
  simp [h4]
section
variable {P : Program} {op : Oper} {a : Act} {K : Act → World → Prop} {Q : Exit → Act → World → Prop} {w0 w : World} {ex : Nat → Prop} {L : List (Nat × BA)} {E : List (Nat × Value)} {df : List Deferred} {t n : Nat}
theorem ow_stK {α : Type} (enc : α → List Value) (z : Nat) (hz : ∀ x, (enc x).length = z) (f : Nat) {ty : TypeId} {x y : Operand} {g k : Nat} {v : Value} {ds : List Value} {l : List α} {p p' : α} {ys : List Value} {L' : List (Nat × BA)} (M : Mem w0 ex w L) (T : TmD df a n E) (ho : op.op = .store ty x y) (hd : op.dst = none)
   (hx : a.eval x = .pointer (some ⟨g, 0 + k * z + f, none⟩)) (hy : a.eval y = v) (hv : v.cells = ds.toArray) (hp : l[k]? = some p) (he : enc p' = (enc p).take f ++ ds ++ (enc p).drop (f + ds.length)) (hf : f + ds.length ≤ z) (h1 : ds.all (·.oneCell') = true) (hi : (P.info? ty).map (·.size) = some ds.length)
   (hu : Upd L g (.cells (l.flatMap enc ++ ys)) (.cells ((l.set k p').flatMap enc ++ ys)) L') (h : ∀ w' a', Mem w0 ex w' L' → TmD df a' n E → K a' w') : op.wp P a w K Q := by
 have hk := (List.getElem?_eq_some_iff.1 hp).1
 have hl := fm_length enc z hz l
 have hkz : k * z + z ≤ l.length * z := by have := Nat.mul_le_mul_right z (show k + 1 ≤ l.length by omega); rw [Nat.add_mul] at this; omega
 refine m_stw (ds := ds) M ho hx hy hv hu ?_ (by rw [List.length_append, hl]; omega) h1 hi fun w' M' => h w' _ M' (by rw [hd]; exact T.put0 _)
 have hq := fm_put enc z hz f p' ds l k p hp he hf
 rw [Nat.zero_add, List.take_append_of_le_length (by rw [hl]; omega), List.drop_append_of_le_length (by rw [hl]; omega), ← List.append_assoc, ← hq]
theorem ow_msK {α : Type} (enc : α → List Value) (z bytes : Nat) (x0 : α) {v0 : Value} (hz : (enc x0).length = z) (h0 : 0 < z) (hv : v0.cells = (enc x0).toArray) {ty e m : Nat} {x y : Operand} (M : Mem w0 ex w L) (T : TmD df a n E) (ho : op.op = .makeSlice ty x y) (hd : op.dst = some t) (hf : freshE E t = true) (hn : Nat.blt t n = true) (hx : a.eval x = .int .i64 (m : Int)) (hy : a.eval y = .int .i64 (m : Int))
  (ht : P.underlying ty = some (.slice e)) (hinfo : (P.info? e).map (fun i => (i.zero, i.size, i.bytes)) = some (some v0, z, bytes)) (hm : m ≤ 1000) (hb1 : bytes ≤ 1000) (hz1 : z ≤ 1000)
  (h : ∀ g w' a', w.heap.size ≤ g → Mem w0 ex w' ((g, .cells ((List.replicate m x0).flatMap enc ++ [])) :: L) → TmD df a' n ((t, .slice (some ⟨g, 0, none⟩) m m) :: E) → K a' w') : op.wp P a w K Q := by
 obtain ⟨i, hi, hz2, hs, hb⟩ := info_parts hinfo
 have h5 : m * z ≤ 1000 * 1000 := Nat.mul_le_mul hm hz1
 have h6 : bytes * m ≤ 1000 * 1000 := Nat.mul_le_mul hb1 hm
 have h7 : (bytes : Int) * (m : Int) ≤ 1000 * 1000 := by rw [← Int.natCast_mul]; exact Int.ofNat_le.2 h6
 have hr := run_makeSlice (P := P) w ty e i _ ht hi hz2 .i64 .i64 (m : Int) (m : Int) (by omega) (Int.le_refl _) (by rw [hs, Int.toNat_natCast]; omega) (by rw [hb]; omega) (by omega)
 rw [hs, Int.toNat_natCast, hv, made_fm enc z x0 hz h0] at hr
 unfold Oper.wp execOp
 simp only [ho, hx, hy, hr, Sem.run_bind, Result.andThen_ok, Sem.run_pure]
 rw [Oper.upon_value, hd]
 exact h _ _ _ (Nat.le_refl _) (M.new _ _) (T.put hn hf _)
end
theorem Tryz.info123 : (Tryz.prog.info? 123).map (fun i => (i.zero, i.size, i.bytes)) = some (some (.agg #[.int .i64 0, .int .i64 0, .bool false]), 3, 24) := by kernel_rfl
theorem Tryz.info119 : (Tryz.prog.info? 119).map (fun i => (i.zero, i.size, i.bytes)) = some (some (.agg #[.int .i64 0, .int .i64 0, .bool false, .int .i64 0]), 4, 32) := by kernel_rfl
theorem can_any (s : Sk) (A : Option Addr) (d : Nat) (a c : Int) (ga gc : Nat) (B : Option Addr) (e : Nat) (L : List Pt) (gm n1 : Nat) (ha : 0 ≤ a ∧ a ≤ 2) (hc : 0 ≤ c ∧ c ≤ 2) (hg : ∀ p ∈ L, p.good) (h5 : L.length ≤ 5) (hn1 : n1 ≤ gm)  : ∀ n : Nat, CanSpec s A d a c ga gc B e L gm n1 n
 | 0 => fun r w hn => by omega
 | n + 1 => fun r w hn hs hlo hwi he hq => can_step s A d a c ga gc B e L gm n1 n r w ha hc hg h5 hn1 (can_any s A d a c ga gc B e L gm n1 ha hc hg h5 hn1 n) hn hs hlo hwi he hq
theorem whole_bits : ∀ n, n < 6 → usubI (ushlI 1 (n : Nat)) 1 = ((2 ^ n - 1 : Nat) : Int) := by decide +kernel
theorem whole_pow (n : Nat) : 2 ^ n - 1 < 2 ^ n := by have := Nat.two_pow_pos n; omega
theorem Mem.initE2 {w : World} {g1 g2 : Nat} {p1 p2 : BA} (h1 : p1.holds w g1) (h2 : p2.holds w g2) (hne : g1 ≠ g2) : Mem w (fun b => b = g1 ∨ b = g2) w [(g1, p1), (g2, p2)] :=
 ⟨rfl, rfl, rfl, Nat.le_refl _, fun _ _ _ => rfl, fun q hq => by
  simp only [List.mem_cons, List.not_mem_nil, or_false] at hq
  rcases hq with rfl | rfl
  ·exact ⟨.inr (.inl rfl), h1⟩
  ·exact ⟨.inr (.inr rfl), h2⟩, by simp [hne]⟩
theorem Mem.joinE2 {g1 g2 : Nat} {w0 w w' : World} {ex : Nat → Prop} {L L1 L2 : List (Nat × BA)} {p1 p2 q1 q2 : BA} (M : Mem w0 ex w L) (N : Mem w (fun b => b = g1 ∨ b = g2) w' [(g1, q1), (g2, q2)]) (hu : Upd L g1 p1 q1 L1) (hv : Upd L1 g2 p2 q2 L2) : Mem w0 ex w' L2 := by
 have hk : L2.map (·.1) = L.map (·.1) := hv.keys.trans hu.keys
 have hx : ∀ b, b < w0.heap.size → ¬ ex b → w'.heap[b]? = w0.heap[b]? := fun b hb he => by
   have h1 : b ≠ g1 := fun e => by
     have := (M.blk _ hu.mem).1
     rcases this with h | h
     · have : w0.heap.size ≤ g1 := h
       omega
     · exact he (e ▸ h)
   have h2 : b ≠ g2 := fun e => by
     have hm : g2 ∈ L.map (·.1) := by rw [← hu.keys]; exact List.mem_map.2 ⟨_, hv.mem, rfl⟩
     obtain ⟨p, hp, hpe⟩ := List.mem_map.1 hm
     have := (M.blk _ hp).1
     rcases this with h | h
     · have : w0.heap.size ≤ p.1 := h
       omega
     · exact he (by rw [e, ← hpe]; exact h)
   exact (N.block b (Nat.lt_of_lt_of_le hb M.size) (fun h => h.elim h1 h2)).trans (M.block b hb he)
 refine ⟨N.os.trans M.os, N.tape.trans M.tape, N.output.trans M.output, Nat.le_trans M.size N.size, hx, fun p hp => ?_, by rw [hk]; exact M.nd⟩
 have hg : w0.heap.size ≤ p.1 ∨ ex p.1 := by
   have hm : p.1 ∈ L.map (·.1) := by rw [← hk]; exact List.mem_map.2 ⟨p, hp, rfl⟩
   obtain ⟨q, hq, hqe⟩ := List.mem_map.1 hm
   rw [← hqe]
   exact (M.blk q hq).1
 refine ⟨hg, ?_⟩
 rcases hv.all (by rw [hu.keys]; exact M.nd) p hp with rfl | ⟨hp1, hne2⟩
 · exact (N.blk (g2, q2) (Zz1 Zz2)).2
 · rcases hu.all M.nd p hp1 with rfl | ⟨hp0, hne1⟩
   · exact (N.blk (g1, q1) Zz2).2
   · exact BA.same (M.blk p hp0).2 N.size (N.block _ (BA.lt (M.blk p hp0).2) (fun h => h.elim hne1 hne2))
def PlanrPost (s : Sk) (A : Option Addr) (d : Nat) (a c : Int) (ga gc : Nat) (B : Option Addr) (e : Nat) (L : List Pt) (w : World) (e9 : Ending) (w' : World) : Prop := ∃ gm, e9 = .returned (.agg #[.int .i64 s.lo, .int .i64 s.wi, .int .i64 s.a0, .int .i64 s.a1, .int .i64 s.c0, .int .i64 s.c1, .slice A s.ps.length d, .func (.func 183) #[] #[.pointer (some ⟨ga, 0, none⟩)], .func (.func 184) #[] #[.pointer (some ⟨gc, 0, none⟩)], .slice B L.length e, .map (some gm)]) ∧ Mem w noEx w' [(gm, .any (memoQ Tryz.prog 193 (okR a c L)))]
theorem plannerOf_any (s : Sk) (A : Option Addr) (d : Nat) (a c : Int) (ga gc : Nat) (B : Option Addr) (e : Nat) (L : List Pt)  (w : World)  :
  Calls Tryz.prog 122 #[.agg #[.int .i64 s.lo, .int .i64 s.wi, .int .i64 s.a0, .int .i64 s.a1, .int .i64 s.c0, .int .i64 s.c1, .slice A s.ps.length d, .func (.func 183) #[] #[.pointer (some ⟨ga, 0, none⟩)], .func (.func 184) #[] #[.pointer (some ⟨gc, 0, none⟩)]], .slice B L.length e] w (PlanrPost s A d a c ga gc B e L w) := by
 refine Zpx noEx Tryz.func122 rfl 9 rfl [.agg #[.int .i64 s.lo, .int .i64 s.wi, .int .i64 s.a0, .int .i64 s.a1, .int .i64 s.c0, .int .i64 s.c1, .slice A s.ps.length d, .func (.func 183) #[] #[.pointer (some ⟨ga, 0, none⟩)], .func (.func 184) #[] #[.pointer (some ⟨gc, 0, none⟩)]], .slice B L.length e] rfl rfl (Mem.init w _) ?_
 intro ac wc T M
 refine Zsr ?_
 refine Zl2 ?_
 refine Zob M T rfl rfl rfl rfl (T.e 0 rfl) rfl ?_; clear M T; intro g1 wc ac M T
 refine Zl2 ?_
 refine Zoa M T rfl rfl rfl rfl ?_; clear M T; intro g2 wc ac M T
 replace T := T.pick [0, 1, 3] rfl
 refine Zln ?_
 refine Zsr ?_
 refine Zg2 T (Zq (Zrr (Mem.nth M 1 rfl) rfl (T.e 1 rfl) rfl)) rfl (Zm 3 rfl rfl) rfl ?_; clear T ac; intro ac T
 refine Zl2 ?_
 refine ow_mmM (okR a c L) M T rfl Tryz.underlying185 rfl rfl rfl ?_; clear M T; intro g3 wc ac M T
 refine lq (v := (.agg #[.int .i64 s.lo, .int .i64 s.wi, .int .i64 s.a0, .int .i64 s.a1, .int .i64 s.c0, .int .i64 s.c1, .slice A s.ps.length d, .func (.func 183) #[] #[.pointer (some ⟨ga, 0, none⟩)], .func (.func 184) #[] #[.pointer (some ⟨gc, 0, none⟩)], .slice B L.length e, .map (some g3)])) T (rn_build rfl (.cons (T.e 2 rfl) (.cons (T.e 1 rfl) (.cons (T.e 0 rfl) .nil))) (fun _ => by kernel_rfl)) ?_; clear T ac; intro ac T
 refine Zl2 ?_
 refine Zos M T rfl rfl (T.e 4 rfl) (T.e 0 rfl) rfl (.tail .head) rfl (by simp) rfl (by kernel_rfl) ?_; clear M T; intro wc ac M T
 refine wpList_nil ?_
 replace T := T.pick [4] rfl
 replace M := M.mask [true, true, false] rfl
 refine Znr ?_
 refine rt_c M T rfl (T.e 0 rfl) (Zne (i := 1) rfl) rfl ?_
 exact ⟨g3, rfl, M.mask [true, false] rfl⟩
theorem whole_any (s : Sk) (A : Option Addr) (d : Nat) (a c : Int) (ga gc : Nat) (B : Option Addr) (e : Nat) (L : List Pt) (gm : Nat)  (w : World) (h5 : L.length ≤ 5)  :
  Calls Tryz.prog 125 #[.agg #[.int .i64 s.lo, .int .i64 s.wi, .int .i64 s.a0, .int .i64 s.a1, .int .i64 s.c0, .int .i64 s.c1, .slice A s.ps.length d, .func (.func 183) #[] #[.pointer (some ⟨ga, 0, none⟩)], .func (.func 184) #[] #[.pointer (some ⟨gc, 0, none⟩)], .slice B L.length e, .map (some gm)]] w fun e w' => e = .returned (.agg #[.int .u64 ((2 ^ L.length - 1 : Nat) : Int), .int .i64 s.lo, .int .i64 s.wi]) ∧ Below w.heap.size w w' := by
 refine Zpx noEx Tryz.func125 rfl 17 rfl [.agg #[.int .i64 s.lo, .int .i64 s.wi, .int .i64 s.a0, .int .i64 s.a1, .int .i64 s.c0, .int .i64 s.c1, .slice A s.ps.length d, .func (.func 183) #[] #[.pointer (some ⟨ga, 0, none⟩)], .func (.func 184) #[] #[.pointer (some ⟨gc, 0, none⟩)], .slice B L.length e, .map (some gm)]] rfl rfl (Mem.init w _) ?_
 intro ac wc T M
 refine Zsr ?_
 refine Zl2 ?_
 refine Zob M T rfl rfl rfl rfl (T.e 0 rfl) rfl ?_; clear M T; intro g1 wc ac M T
 refine Zl2 ?_
 refine Zoa M T rfl rfl rfl rfl ?_; clear M T; intro g2 wc ac M T
 replace T := T.pick [0, 1] rfl
 refine Zln ?_
 refine wp_seq ?_
 refine Zgs M (M.perm [1] rfl rfl) 15 (by kernel_rfl) rfl (by kernel_rfl) ?_
 clear M; intro wc M
 refine g_addG 14 M ?_
 refine gq (v := (.pointer (some ⟨g1, 9, none⟩))) T 0 1 rfl (fun _ _ _ _ _ => (Zrf (off := 9) rfl (T.e 1 rfl) (fun _ _ _ => by kernel_rfl))) ?_; clear T ac; intro ac T
 refine gq T 1 3 rfl (fun B w' hD hl hS => (Zro (Mem.nth (show Mem w noEx w' _ from ((MA.lft hS) (hD.wait (i := 1) (m := 14) (by kernel_rfl) hl))) 1 rfl) rfl (T.e 0 rfl) rfl)) ?_; clear T ac; intro ac T
 refine gq T 2 7 rfl (fun _ _ _ _ _ => (Zrl rfl Tryz.underlying47 (T.e 0 rfl))) ?_; clear T ac; intro ac T
 refine gq T 3 15 rfl (fun _ _ _ _ _ => (rn_shlU rfl evc (T.e 0 rfl) (by omega))) ?_; clear T ac; intro ac T
 refine gq T 4 31 rfl (fun _ _ _ _ _ => (rn_subU rfl (T.e 0 rfl) evc)) ?_; clear T ac; intro ac T
 refine gq (v := (.pointer (some ⟨g1, 0, none⟩))) T 5 63 rfl (fun _ _ _ _ _ => (Zrf (off := 0) rfl (T.e 6 rfl) (fun _ _ _ => by kernel_rfl))) ?_; clear T ac; intro ac T
 refine gq (v := (.pointer (some ⟨g1, 0, none⟩))) T 6 127 rfl (fun _ _ _ _ _ => (Zrf (off := 0) rfl (T.e 0 rfl) (fun _ _ _ => by kernel_rfl))) ?_; clear T ac; intro ac T
 refine gq (v := (.pointer (some ⟨g1, 0, none⟩))) T 7 255 rfl (fun _ _ _ _ _ => (Zrf (off := 0) rfl (T.e 0 rfl) (fun _ _ _ => by kernel_rfl))) ?_; clear T ac; intro ac T
 refine gq T 8 511 rfl (fun B w' hD hl hS => (Zro (Mem.nth (show Mem w noEx w' _ from ((MA.lft hS) (hD.wait (i := 8) (m := 14) (by kernel_rfl) hl))) 1 rfl) rfl (T.e 0 rfl) rfl)) ?_; clear T ac; intro ac T
 refine gq (v := (.pointer (some ⟨g1, 0, none⟩))) T 9 1023 rfl (fun _ _ _ _ _ => (Zrf (off := 0) rfl (T.e 10 rfl) (fun _ _ _ => by kernel_rfl))) ?_; clear T ac; intro ac T
 refine gq (v := (.pointer (some ⟨g1, 0, none⟩))) T 10 2047 rfl (fun _ _ _ _ _ => (Zrf (off := 0) rfl (T.e 0 rfl) (fun _ _ _ => by kernel_rfl))) ?_; clear T ac; intro ac T
 refine gq (v := (.pointer (some ⟨g1, 1, none⟩))) T 11 4095 rfl (fun _ _ _ _ _ => (Zrf (off := 1) rfl (T.e 0 rfl) (fun _ _ _ => by kernel_rfl))) ?_; clear T ac; intro ac T
 refine gq T 12 8191 rfl (fun B w' hD hl hS => (Zro (Mem.nth (show Mem w noEx w' _ from ((MA.lft hS) (hD.wait (i := 12) (m := 14) (by kernel_rfl) hl))) 1 rfl) rfl (T.e 0 rfl) rfl)) ?_; clear T ac; intro ac T
 refine gq (v := (.agg #[.int .u64 (usubI (ushlI 1 ((L.length : Nat) : Int)) 1), .int .i64 s.lo, .int .i64 s.wi])) T 13 16383 rfl (fun _ _ _ _ _ => (rn_build rfl (.cons (T.e 8 rfl) (.cons (T.e 4 rfl) (.cons (T.e 0 rfl) .nil))) (fun _ => by kernel_rfl))) ?_; clear T ac; intro ac T
 refine gw 14 32767 ?_; intro K hK
 refine Zos M T rfl rfl (T.e 14 rfl) (T.e 0 rfl) rfl .head rfl (by simp) rfl (by kernel_rfl) ?_; clear M T; intro wc ac M T
 refine Zso hK _ _ (MA.mk (fun h => (no_of (by kernel_rfl) h).elim) (M.mask [false, true] rfl)) ?_; clear hK K
 refine Zgd (by kernel_rfl) ?_
 replace T := T.pick [14] rfl
 replace M := M.mask [true, false] rfl
 refine Znr ?_
 refine rt_c M T rfl (T.e 0 rfl) (Zne (i := 0) rfl) rfl ?_
 exact ⟨by rw [whole_bits _ (by omega)], M.below⟩
set_option maxHeartbeats 2000000 in
theorem fit_any (s : Sk) (A : Option Addr) (d : Nat) (a c : Int) (ga gc : Nat) (B : Option Addr) (e : Nat) (L : List Pt) (n1 : Nat)  (w : World) (ha : 0 ≤ a ∧ a ≤ 2) (hc : 0 ≤ c ∧ c ≤ 2) (hg : ∀ p ∈ L, p.good) (h5 : L.length ≤ 5) (hlo : 0 ≤ s.lo ∧ s.lo ≤ 12) (hwi : 0 ≤ s.wi ∧ s.wi ≤ 12) (hn9 : n1 ≤ w.heap.size) (he : PlW w n1 a c ga gc B L)  :
  Calls Tryz.prog 230 #[.agg #[.int .i64 s.lo, .int .i64 s.wi, .int .i64 s.a0, .int .i64 s.a1, .int .i64 s.c0, .int .i64 s.c1, .slice A s.ps.length d, .func (.func 183) #[] #[.pointer (some ⟨ga, 0, none⟩)], .func (.func 184) #[] #[.pointer (some ⟨gc, 0, none⟩)]], .slice B L.length e] w fun e w' => e = .returned (.bool (canB a c L (⟨(2 ^ L.length - 1 : Nat), s.lo, s.wi⟩ : Rm))) ∧ Below w.heap.size w w' := by
 have hx9 : ∀ b, noEx b → n1 ≤ b := fun b h => h.elim
 refine Zpx noEx Tryz.func230 rfl 13 rfl [.agg #[.int .i64 s.lo, .int .i64 s.wi, .int .i64 s.a0, .int .i64 s.a1, .int .i64 s.c0, .int .i64 s.c1, .slice A s.ps.length d, .func (.func 183) #[] #[.pointer (some ⟨ga, 0, none⟩)], .func (.func 184) #[] #[.pointer (some ⟨gc, 0, none⟩)]], .slice B L.length e] rfl rfl (Mem.init w _) ?_
 intro ac wc T M
 refine Zsr ?_
 refine Zl2 ?_
 refine Zob M T rfl rfl rfl rfl (T.e 0 rfl) rfl ?_; clear M T; intro g1 wc ac M T
 refine lq T (Zra rfl evc) ?_; clear T ac; intro ac T
 replace T := T.pick [1, 3] rfl
 refine Zln ?_
 refine Zsr ?_
 refine Zg2 T (Zq (Zrr (Mem.nth M 0 rfl) rfl (T.e 0 rfl) rfl)) rfl (Zm 2 rfl rfl) rfl ?_; clear T ac; intro ac T
 refine Zl2 ?_
 refine Zoc (first := []) (cap := []) T rfl rfl rfl rfl evf (.cons (T.e 1 rfl) (.cons (T.e 0 rfl) .nil)) Tryz.func122 rfl rfl ?_
 refine Calls.mono (plannerOf_any s A d a c ga gc B e L _) ?_
 clear T; rintro e wc ⟨gmu1, rfl, N⟩ ac T
 replace M := M.join N; clear N
 replace M := M.mask [true, true] rfl
 have hn1 : n1 ≤ gmu1 := Nat.le_trans hn9 (M.ge (Zne (i := 0) rfl))
 refine Zl2 ?_
 refine Zoa M T rfl rfl rfl rfl ?_; clear M T; intro g2 wc ac M T
 refine Zl2 ?_
 refine Zos M T rfl rfl (T.e 0 rfl) (T.e 1 rfl) rfl .head rfl (by simp) rfl (by kernel_rfl) ?_; clear M T; intro wc ac M T
 refine wpList_nil ?_
 replace T := T.pick [0] rfl
 replace M := M.mask [true, true, false] rfl
 refine Zns ?_
 refine Zgs M (M.mask [true, true] rfl) 5 (by kernel_rfl) rfl (by kernel_rfl) ?_
 clear M; intro wc M
 refine gq T 0 1 rfl (fun B w' hD hl hS => (Zrr (Mem.nth (show Mem w noEx w' _ from hS) 0 rfl) rfl (T.e 0 rfl) rfl)) ?_; clear T ac; intro ac T
 refine gq T 1 3 rfl (fun B w' hD hl hS => (Zrr (Mem.nth (show Mem w noEx w' _ from hS) 0 rfl) rfl (T.e 1 rfl) rfl)) ?_; clear T ac; intro ac T
 refine gw 2 7 ?_; intro K hK
 refine Zoc (first := []) (cap := []) T rfl rfl rfl rfl evf (.cons (T.e 0 rfl) .nil) Tryz.func125 rfl rfl ?_
 refine Calls.mono (whole_any s A d a c ga gc B e L gmu1 _ h5) ?_
 clear T; rintro e wc ⟨rfl, hb⟩ ac T
 replace M := M.call hb; clear hb
 refine Zso hK _ _ (M.mask [true, true] rfl) ?_; clear hK K
 refine gw 3 15 ?_; intro K hK
 refine Zoc (first := []) (cap := []) T rfl rfl rfl rfl evf (.cons (T.e 2 rfl) (.cons (T.e 0 rfl) .nil)) Tryz.func124 rfl rfl ?_
 refine Calls.mono (can_any s A d a c ga gc B e L gmu1 n1 ha hc hg h5 hn1 6 (⟨(2 ^ L.length - 1 : Nat), s.lo, s.wi⟩ : Rm) _ (pop_lt _) (whole_pow _) (by dsimp only; omega) (by dsimp only; omega) (he.mem M hx9) (M.at (Zne (i := 1) rfl))) ?_
 clear T; rintro e wc ⟨rfl, N⟩ ac T
 replace M := M.joinE N (.tail .head)
 clear N
 refine Zso hK _ _ (M.mask [true, true] rfl) ?_; clear hK K
 refine gq T 4 31 rfl (fun _ _ _ _ _ => (Zra rfl (T.e 0 rfl))) ?_; clear T ac; intro ac T
 refine Zgd (by kernel_rfl) ?_
 replace T := T.pick [0] rfl
 replace M := M.mask [false, true] rfl
 refine Znr ?_
 refine rt_1 T rfl (T.e 0 rfl) ?_
 exact ⟨rfl, M.below⟩
def LaySpec (s : Sk) (A : Option Addr) (d : Nat) (a c : Int) (ga gc : Nat) (B : Option Addr) (e : Nat) (L : List Pt) (gm n1 : Nat) (gs f n : Nat) : Prop := ∀ (r : Rm) (x y : Int) (sp : List Spt) (ys : List Value) (w : World), popP r.s < n → r.s < 2 ^ L.length → (0 ≤ r.lo ∧ r.lo ≤ 100) → (0 ≤ r.wi ∧ r.wi ≤ 100) → (0 ≤ x ∧ x + r.lo ≤ 100) → (0 ≤ y ∧ y + r.wi ≤ 100) → sp.length = L.length → canB a c L r = true → PlW w n1 a c ga gc B L → BA.holds w gm (.any (memoQ Tryz.prog 193 (okR a c L))) → BA.holds w gs (.cells (tc sp ++ ys)) →
 Calls Tryz.prog 126 #[.agg #[.int .i64 s.lo, .int .i64 s.wi, .int .i64 s.a0, .int .i64 s.a1, .int .i64 s.c0, .int .i64 s.c1, .slice A s.ps.length d, .func (.func 183) #[] #[.pointer (some ⟨ga, 0, none⟩)], .func (.func 184) #[] #[.pointer (some ⟨gc, 0, none⟩)], .slice B L.length e, .map (some gm)], .agg #[.int .u64 (r.s : Int), .int .i64 r.lo, .int .i64 r.wi], .int .i64 x, .int .i64 y, .slice (some ⟨gs, 0, none⟩) L.length f] w (fun e9 w' => e9 = .returned (.tuple #[]) ∧ ∃ A9, Lay a c L r x y A9 ∧ Mem w (fun b => b = gm ∨ b = gs) w' [(gm, .any (memoQ Tryz.prog 193 (okR a c L))), (gs, .cells (tc (putS sp A9) ++ ys))])
set_option maxHeartbeats 4000000 in
theorem lay_step (s : Sk) (A : Option Addr) (d : Nat) (a c : Int) (ga gc : Nat) (B : Option Addr) (e : Nat) (L : List Pt) (gm n1 : Nat) (gs f n : Nat) (r : Rm) (x y : Int) (sp : List Spt) (ys : List Value)  (w : World) (ha : 0 ≤ a ∧ a ≤ 2) (hc : 0 ≤ c ∧ c ≤ 2) (hg : ∀ p ∈ L, p.good) (h5 : L.length ≤ 5) (hn1 : n1 ≤ gm) (hsm : gm ≠ gs) (hn2 : n1 ≤ gs) (ih : LaySpec s A d a c ga gc B e L gm n1 gs f n) (hn : popP r.s < n + 1) (hs : r.s < 2 ^ L.length) (hlo : 0 ≤ r.lo ∧ r.lo ≤ 100) (hwi : 0 ≤ r.wi ∧ r.wi ≤ 100) (hxb : 0 ≤ x ∧ x + r.lo ≤ 100) (hyb : 0 ≤ y ∧ y + r.wi ≤ 100) (hsl : sp.length = L.length) (hc9 : canB a c L r = true) (he : PlW w n1 a c ga gc B L) (hq : BA.holds w gm (.any (memoQ Tryz.prog 193 (okR a c L)))) (hq2 : BA.holds w gs (.cells (tc sp ++ ys))) :
   Calls Tryz.prog 126 #[.agg #[.int .i64 s.lo, .int .i64 s.wi, .int .i64 s.a0, .int .i64 s.a1, .int .i64 s.c0, .int .i64 s.c1, .slice A s.ps.length d, .func (.func 183) #[] #[.pointer (some ⟨ga, 0, none⟩)], .func (.func 184) #[] #[.pointer (some ⟨gc, 0, none⟩)], .slice B L.length e, .map (some gm)], .agg #[.int .u64 (r.s : Int), .int .i64 r.lo, .int .i64 r.wi], .int .i64 x, .int .i64 y, .slice (some ⟨gs, 0, none⟩) L.length f] w fun e9 w' => e9 = .returned (.tuple #[]) ∧ ∃ A9, Lay a c L r x y A9 ∧ Mem w (fun b => b = gm ∨ b = gs) w' [(gm, .any (memoQ Tryz.prog 193 (okR a c L))), (gs, .cells (tc (putS sp A9) ++ ys))] := by
 have hs32 := pow32 hs h5
 have hx9 : ∀ b, (b = gm ∨ b = gs) → n1 ≤ b := fun b h => by omega
 have Sc := Sp.pre (w := w) (ex := (fun b => b = gm ∨ b = gs)) (size := 3) (n := sp.length) (g := gs) (xs := tc sp) (ys := ys) (by simp [tc_length])
 obtain ⟨ko, hko⟩ : ∃ k : Nat, onlyP r.s = k := ⟨_, rfl⟩
 refine px_enterM (fun b => b = gm ∨ b = gs) Tryz.func126 rfl 72 rfl [.agg #[.int .i64 s.lo, .int .i64 s.wi, .int .i64 s.a0, .int .i64 s.a1, .int .i64 s.c0, .int .i64 s.c1, .slice A s.ps.length d, .func (.func 183) #[] #[.pointer (some ⟨ga, 0, none⟩)], .func (.func 184) #[] #[.pointer (some ⟨gc, 0, none⟩)], .slice B L.length e, .map (some gm)], .agg #[.int .u64 (r.s : Int), .int .i64 r.lo, .int .i64 r.wi], .int .i64 x, .int .i64 y, .slice (some ⟨gs, 0, none⟩) L.length f] rfl rfl (Mem.initE2 (p1 := .any (memoQ Tryz.prog 193 (okR a c L))) (p2 := .cells (tc sp ++ ys)) hq hq2 hsm) ?_
 intro ac wc T M
 refine Zsr ?_
 refine Zl2 ?_
 refine Zob M T rfl rfl rfl rfl (T.e 0 rfl) rfl ?_; clear M T; intro g1 wc ac M T
 refine Zl2 ?_
 refine Zob M T rfl rfl rfl rfl (T.e 2 rfl) rfl ?_; clear M T; intro g2 wc ac M T
 refine Zl2 ?_
 refine Zob M T rfl rfl rfl rfl (T.e 4 rfl) rfl ?_; clear M T; intro g3 wc ac M T
 refine Zl2 ?_
 refine Zob M T rfl rfl rfl rfl (T.e 6 rfl) rfl ?_; clear M T; intro g4 wc ac M T
 refine Zl2 ?_
 refine Zob M T rfl rfl rfl rfl (T.e 8 rfl) rfl ?_; clear M T; intro g5 wc ac M T
 replace T := T.pick [0, 1, 2, 3, 4] rfl
 refine Zln ?_
 refine wp_scope_straight ?_
 refine wp_seq ?_
 refine Zsr ?_
 refine Zg2 (v1 := (.pointer (some ⟨g2, 0, none⟩))) T (Zq (Zrf (off := 0) rfl (T.e 3 rfl) (fun _ _ _ => by kernel_rfl))) rfl (Zo M 3 0 rfl rfl rfl rfl) rfl ?_; clear T ac; intro ac T
 refine Zl2 ?_
 refine Zoc (first := []) (cap := []) T rfl rfl rfl rfl evf (.cons (T.e 0 rfl) .nil) Tryz.func185 rfl rfl ?_
 refine Calls.mono (many_any r.s _ (by omega)) ?_
 clear T; rintro e wc ⟨rfl, hb⟩ ac T
 replace M := M.call hb; clear hb
 replace T := T.pick [0, 3, 4, 5, 6, 7] rfl
 refine Zln ?_
 refine wp_block ?_
 refine Zsr ?_
 refine Zg2 T (Zq (rn_eql rfl (T.e 0 rfl) evc)) rfl (Za 0 rfl rfl) rfl ?_; clear T ac; intro ac T
 replace T := T.pick [0, 2, 3, 4, 5, 6, 7] rfl
 refine Zln ?_
 refine wp_if (T.e 0 rfl) ?_ ?_
 ·intro h1
  refine wp_ret ?_
  refine Zrb ?_
  refine Zrt ?_
  refine rt_ng ?_
  refine rtM (L := [(g5, .cells [.slice (some ⟨gs, 0, none⟩) L.length f]), (g4, .cells [.int .i64 y]), (g3, .cells [.int .i64 x]), (g2, .cells [.int .u64 (r.s : Int), .int .i64 r.lo, .int .i64 r.wi]), (g1, .cells [.int .i64 s.lo, .int .i64 s.wi, .int .i64 s.a0, .int .i64 s.a1, .int .i64 s.c0, .int .i64 s.c1, .slice A s.ps.length d, .func (.func 183) #[] #[.pointer (some ⟨ga, 0, none⟩)], .func (.func 184) #[] #[.pointer (some ⟨gc, 0, none⟩)], .slice B L.length e, .map (some gm)]), (gm, .any (memoQ Tryz.prog 193 (okR a c L))), (gs, .cells (tc sp ++ ys))]) [] T (M.perm [0, 1, 2, 3, 4, 5, 6] rfl rfl) ?_; clear T M; intro wc ac T M
  refine rt_0 T rfl ?_
  exact ⟨rfl, [], .none (by omega), M.perm [5, 6] rfl rfl⟩
 intro h1
 refine Zsr ?_
 refine Zg2 T (Zq (rn_eql rfl (T.e 1 rfl) evc)) rfl (Za 0 rfl rfl) rfl ?_; clear T ac; intro ac T
 replace T := T.pick [0, 4, 5, 6, 7, 8] rfl
 refine Zln ?_
 refine wp_if (T.e 0 rfl) ?_ ?_
 ·intro h2
  obtain ⟨-, honly⟩ := sel_one L r.s hs h5 (by omega)
  obtain ⟨p0, hkp⟩ : ∃ p, sp[ko]? = some p := ⟨_, List.getElem?_eq_getElem (by omega)⟩
  refine Zsr ?_
  refine Zg2 T (Zq (Zrr (Mem.nth M 4 rfl) rfl (T.e 5 rfl) rfl)) rfl (Zr M 3 5 rfl rfl rfl rfl) rfl ?_; clear T ac; intro ac T
  refine Zl2 ?_
  refine Zoc (first := []) (cap := []) T rfl rfl rfl rfl evf (.cons (T.e 1 rfl) (.cons (T.e 0 rfl) .nil)) Tryz.func186 rfl rfl ?_
  refine Calls.mono (fits_any s A d a c ga gc B e L gm n1 r _ ha hc hg h5 hn1 (he.mem M hx9) hs (by omega)) ?_
  clear T; rintro e wc ⟨rfl, hb⟩ ac T
  replace M := M.call hb; clear hb
  refine Zg5 T (Zq (Zrm rfl (T.e 0 rfl))) rfl (Ze 0 rfl rfl rfl) rfl (Ze 1 rfl rfl rfl) rfl (Za 1 rfl rfl) rfl (Za 1 rfl rfl) rfl ?_; clear T ac; intro ac T
  refine wpList_nil ?_
  replace T := T.pick [1, 9, 10, 11, 12] rfl
  replace M := M.mask [true, true, true, true, false, true, true] rfl
  refine Zns ?_
  refine Zgs M (M.perm [] rfl rfl) 10 (by kernel_rfl) rfl (by kernel_rfl) ?_
  clear M; intro wc M
  refine g_addG 9 M ?_
  refine gq T 0 1 rfl (fun B w' hD hl hS => (Zro (Mem.nth (show Mem w (fun b => b = gm ∨ b = gs) w' _ from ((MA.lft hS) (hD.wait (i := 0) (m := 9) (by kernel_rfl) hl))) 0 rfl) rfl (T.e 1 rfl) rfl)) ?_; clear T ac; intro ac T
  refine gq (v := (.pointer (some ⟨g2, 0, none⟩))) T 1 3 rfl (fun _ _ _ _ _ => (Zrf (off := 0) rfl (T.e 5 rfl) (fun _ _ _ => by kernel_rfl))) ?_; clear T ac; intro ac T
  refine gq T 2 7 rfl (fun B w' hD hl hS => (Zro (Mem.nth (show Mem w (fun b => b = gm ∨ b = gs) w' _ from ((MA.lft hS) (hD.wait (i := 2) (m := 9) (by kernel_rfl) hl))) 3 rfl) rfl (T.e 0 rfl) rfl)) ?_; clear T ac; intro ac T
  refine gq T 4 23 rfl (fun B w' hD hl hS => (Zro (Mem.nth (show Mem w (fun b => b = gm ∨ b = gs) w' _ from ((MA.lft hS) (hD.wait (i := 4) (m := 9) (by kernel_rfl) hl))) 2 rfl) rfl (T.e 6 rfl) rfl)) ?_; clear T ac; intro ac T
  refine gq T 5 55 rfl (fun B w' hD hl hS => (Zro (Mem.nth (show Mem w (fun b => b = gm ∨ b = gs) w' _ from ((MA.lft hS) (hD.wait (i := 5) (m := 9) (by kernel_rfl) hl))) 1 rfl) rfl (T.e 6 rfl) rfl)) ?_; clear T ac; intro ac T
  refine gq T 6 119 rfl (fun _ _ _ _ _ => (Zrm rfl (T.e 5 rfl))) ?_; clear T ac; intro ac T
  refine gq (v := (.agg #[.int .i64 x, .int .i64 y, .bool ((fitsP a c (L.getD (onlyP r.s) default) r.lo r.wi).1)])) T 7 247 rfl (fun _ _ _ _ _ => (rn_build rfl (.cons (T.e 2 rfl) (.cons (T.e 1 rfl) (.cons (T.e 0 rfl) .nil))) (fun _ => by kernel_rfl))) ?_; clear T ac; intro ac T
  refine gw 3 255 ?_; intro K hK
  refine Zoc (first := []) (cap := []) T rfl rfl rfl rfl evf (.cons (T.e 4 rfl) .nil) Tryz.func188 rfl rfl ?_
  refine Calls.mono (only_any r.s _ (by omega) (by omega) ((he.mem M hx9).tab)) ?_
  clear T; rintro e wc ⟨rfl, hb⟩ ac T
  replace M := M.call hb; clear hb
  refine Zso hK _ _ (MA.mk (fun _ => M.mask [true, true, true, true, true, true] rfl) (M.mask [false, false, false, false, false, false] rfl)) ?_; clear hK K
  refine gq T 8 511 rfl (fun _ _ _ _ _ => (Zri (size := 3) ko rfl (T.e 7 rfl) (T.e 0 rfl) ⟨_, Tryz.underlying110, by kernel_rfl⟩ (by rw [hko]) (by omega) rfl)) ?_; clear T ac; intro ac T
  refine gw 9 1023 ?_; intro K hK
  refine ow_stK tcE 3 (fun _ => rfl) 0 (p' := (⟨x, y, ((fitsP a c (L.getD (onlyP r.s) default) r.lo r.wi).1)⟩ : Spt)) M T rfl rfl (T.e 0 rfl) (T.e 2 rfl) rfl hkp rfl (Nat.le_of_ble_eq_true rfl) rfl rfl (.tail (.tail (.tail (.tail (.tail .head))))) ?_; clear M T; intro wc ac M T
  obtain ⟨lo1, hlo1⟩ : ∃ q : List Spt, q = sp.set ko (⟨x, y, ((fitsP a c (L.getD (onlyP r.s) default) r.lo r.wi).1)⟩) := ⟨_, rfl⟩
  have lhlo1 : lo1.length = sp.length := by rw [hlo1, List.length_set]
  replace M : Mem w (fun b => b = gm ∨ b = gs) wc [(g5, .cells [.slice (some ⟨gs, 0, none⟩) L.length f]), (g4, .cells [.int .i64 y]), (g3, .cells [.int .i64 x]), (g2, .cells [.int .u64 (r.s : Int), .int .i64 r.lo, .int .i64 r.wi]), (gm, .any (memoQ Tryz.prog 193 (okR a c L))), (gs, .cells (tc lo1 ++ ys))] := by rw [hlo1]; exact M
  have Ss1 := Sp.pre (w := w) (ex := (fun b => b = gm ∨ b = gs)) (size := 3) (n := lo1.length) (g := gs) (xs := tc lo1) (ys := ys) (by simp [tc_length])
  rw [lhlo1] at Ss1
  refine Zso hK _ _ (MA.mk (fun h => (no_of (by kernel_rfl) h).elim) (M.mask [false, false, false, false, false, false] rfl)) ?_; clear hK K
  refine Zgd (by kernel_rfl) ?_
  replace T := T.pick [] rfl
  replace M := M.mask [false, false, false, false, true, true] rfl
  refine Znr ?_
  refine Zrb ?_
  refine Zrt ?_
  refine rt_ng ?_
  refine rtM (L := [(gm, .any (memoQ Tryz.prog 193 (okR a c L))), (gs, .cells (tc lo1 ++ ys))]) [] T (M.perm [0, 1] rfl rfl) ?_; clear T M; intro wc ac T M
  refine rt_0 T rfl ?_
  have e9 : lo1 = putS sp [(onlyP r.s, ⟨x, y, (fitsP a c (L.getD (onlyP r.s) default) r.lo r.wi).1⟩)] := by rw [hlo1, hko]; rfl
  rw [e9] at M
  exact ⟨rfl, _, .one (by omega), M.perm [0, 1] rfl rfl⟩
 intro h2
 refine wp_skip ?_
 refine Znb ?_
 refine Zns ?_
 refine wp_label ?_
 refine nm_then ?_
 refine Zsr ?_
 refine lq T (Zrr (Mem.nth M 3 rfl) rfl (T.e 4 rfl) rfl) ?_; clear T ac; intro ac T
 refine Zl2 ?_
 refine Zoc (first := []) (cap := []) T rfl rfl rfl rfl evf (.cons (T.e 0 rfl) .nil) Tryz.func187 rfl rfl ?_
 refine Calls.mono (rooms_any r _) ?_
 clear T; rintro e wc ⟨gu4, rfl, N⟩ ac T
 replace M := M.join N; clear N
 replace M := M.mask [true, true, true, true, true, true, true, true] rfl
 refine wpList_nil ?_
 replace T := T.pick [0, 3, 4, 5, 7] rfl
 replace M := M.mask [true, true, true, true, false, true, true, true] rfl
 refine nm_then ?_
 refine wp_block ?_
 have qp := M.nth 0 rfl
 have hno : gu4 ∉ ([g5, g4, g3, g1, gm, gs] : List Nat) := M.other 0 rfl rfl
 have hE := he.mem M hx9
 have hs0 : 0 < r.s := Nat.pos_of_ne_zero (fun h0 => (by have h00 : popP r.s = 0 := (by rw [h0]; rfl); omega))
 have hown : ∀ b, b ∈ ([g5, g4, g3, g1, gm, gs] : List Nat) → n1 ≤ b := fun b hb => M.ges he.le hx9 (bs := [gu4, g5, g4, g3, g1, gm, gs]) rfl b (by simp only [List.mem_cons, List.not_mem_nil, or_false] at hb ⊢; omega)
 replace T := T.pick [4, 3, 2, 1, 0] rfl
 replace M := M.mask [false, true, true, true, true, true, true] rfl
 have hlt_g5 := M.lt (Zne (i := 0) rfl)
 have hlt_g4 := M.lt (Zne (i := 1) rfl)
 have hlt_g3 := M.lt (Zne (i := 2) rfl)
 have hlt_g1 := M.lt (Zne (i := 3) rfl)
 have hlt_gm := M.lt (Zne (i := 4) rfl)
 have hlt_gs := M.lt (Zne (i := 5) rfl)
 refine px_rangeB (α := Ru r) (γ := Nat × Nat) (n := 72) T (T.e 4 rfl) (enters_of Tryz.func224 (by kernel_rfl) rfl) (fun b => b ∈ ([g5, g4, g3, g1, gm, gs] : List Nat)) (rooms1_seq gu4 (fun b => b ∈ ([g5, g4, g3, g1, gm, gs] : List Nat)) r _ hs32 hs0 hlo hwi hno (M.lts rfl) qp) (fun _ => rfl) (fun (pre : List (Ru r)) (Lx : List (Nat × BA)) (W : World) => (PlW W n1 a c ga gc B L) ∧ (∀ q ∈ pre.map (fun x : Ru r => x.1), ¬ (canB a c L q.a = true ∧ canB a c L q.b = true)) ∧ Lx = [(g5, .cells [.slice (some ⟨gs, 0, none⟩) L.length f]), (g4, .cells [.int .i64 y]), (g3, .cells [.int .i64 x]), (g1, .cells [.int .i64 s.lo, .int .i64 s.wi, .int .i64 s.a0, .int .i64 s.a1, .int .i64 s.c0, .int .i64 s.c1, .slice A s.ps.length d, .func (.func 183) #[] #[.pointer (some ⟨ga, 0, none⟩)], .func (.func 184) #[] #[.pointer (some ⟨gc, 0, none⟩)], .slice B L.length e, .map (some gm)]), (gm, .any (memoQ Tryz.prog 193 (okR a c L))), (gs, .cells (tc sp ++ ys))]) (fun c9 pre Lx W => c9 = .ret ∧ ∃ (q : Two2) (l0 : List Two2) (A1 A2 : List (Nat × Spt)), pre.map (fun x : Ru r => x.1) = l0 ++ [q] ∧ (∀ z ∈ l0, ¬ (canB a c L z.a = true ∧ canB a c L z.b = true)) ∧ (canB a c L q.a = true ∧ canB a c L q.b = true) ∧ Lay a c L q.a x y A1 ∧ Lay a c L q.b (x + q.x) (y + q.y) A2 ∧ Lx = [(gm, .any (memoQ Tryz.prog 193 (okR a c L))), (gs, .cells (tc (putS (putS sp A1) A2) ++ ys))])
   (fun x9 => [(39, .agg #[.int .i64 x9.1.x, .int .i64 x9.1.y]), (38, .agg #[.int .u64 (x9.1.a.s : Int), .int .i64 x9.1.a.lo, .int .i64 x9.1.a.wi, .int .u64 (x9.1.b.s : Int), .int .i64 x9.1.b.lo, .int .i64 x9.1.b.wi]), (5, .pointer (some ⟨g1, 0, none⟩)), (7, .pointer (some ⟨g3, 0, none⟩)), (8, .pointer (some ⟨g4, 0, none⟩)), (9, .pointer (some ⟨g5, 0, none⟩)), (37, .func (.func 224) #[] #[.pointer (some ⟨gu4, 0, none⟩)])]) (fun x9 cc9 => [(13, .pointer (some ⟨cc9.1, 0, none⟩)), (12, .pointer (some ⟨cc9.2, 0, none⟩)), (5, .pointer (some ⟨g1, 0, none⟩)), (7, .pointer (some ⟨g3, 0, none⟩)), (8, .pointer (some ⟨g4, 0, none⟩)), (9, .pointer (some ⟨g5, 0, none⟩))]) (fun x9 cc9 => [(cc9.1, .cells [.int .i64 x9.1.x, .int .i64 x9.1.y]), (cc9.2, .cells [.int .u64 (x9.1.a.s : Int), .int .i64 x9.1.a.lo, .int .i64 x9.1.a.wi, .int .u64 (x9.1.b.s : Int), .int .i64 x9.1.b.lo, .int .i64 x9.1.b.wi])]) ?_ ?_ ?_ ?_ ?_ ?_ ?_ ?_ M ?_ ?_ ?_ ?_ ?_ ?_ ?_
 ·rintro pre Lx W ⟨he, hno, rfl⟩ p hp
  rcases List.mem_cons.1 hp with rfl | hp
  · exact hlt_g5
  rcases List.mem_cons.1 hp with rfl | hp
  · exact hlt_g4
  rcases List.mem_cons.1 hp with rfl | hp
  · exact hlt_g3
  rcases List.mem_cons.1 hp with rfl | hp
  · exact hlt_g1
  rcases List.mem_cons.1 hp with rfl | hp
  · exact hlt_gm
  rcases List.mem_cons.1 hp with rfl | hp
  · exact hlt_gs
  cases hp
 ·rintro c9 pre Lx W ⟨rfl, q9, l9, A1, A2, -, -, -, -, -, rfl⟩ p hp
  have h9 := List.mem_map_of_mem (f := fun q : Nat × BA => q.1) hp
  simp only [List.map_cons, List.map_nil, List.mem_cons, List.not_mem_nil, or_false] at h9
  exact M.lts (bs := [g5, g4, g3, g1, gm, gs]) rfl _ (by simp only [List.mem_cons, List.not_mem_nil, or_false]; omega)
 ·rintro pre Lx W ⟨he, hno, rfl⟩ p hp
  exact List.mem_map.2 ⟨p, hp, rfl⟩
 ·intro b hb
  simp only [List.mem_cons, List.not_mem_nil, or_false] at hb
  rcases hb with rfl | rfl | rfl | rfl | rfl | rfl
  · exact hlt_g5
  · exact hlt_g4
  · exact hlt_g3
  · exact hlt_g1
  · exact hlt_gm
  · exact hlt_gs
 ·intro b hb
  simp only [List.mem_cons, List.not_mem_nil, or_false] at hb
  rcases hb with rfl | rfl | rfl | rfl | rfl | rfl
  · exact (M.blk _ (Zne (i := 0) rfl)).1.symm
  · exact (M.blk _ (Zne (i := 1) rfl)).1.symm
  · exact (M.blk _ (Zne (i := 2) rfl)).1.symm
  · exact (M.blk _ (Zne (i := 3) rfl)).1.symm
  · exact (M.blk _ (Zne (i := 4) rfl)).1.symm
  · exact (M.blk _ (Zne (i := 5) rfl)).1.symm
 ·exact fun _ _ _ h _ => h
 ·rintro pre Lx W W' ⟨he, hno, rfl⟩ hK
  exact ⟨(he.kpN hK), hno, rfl⟩
 ·exact fun _ _ _ _ _ h _ => h
 ·exact ⟨hE, (by simp), rfl⟩
 ·exact fun x => T.round2 _ _ rfl rfl rfl rfl
 ·intro x c p hp
  rcases List.mem_cons.1 hp with rfl | hp
  · rfl
  rcases List.mem_cons.1 hp with rfl | hp
  · rfl
  cases hp
 ·intro lp9 x9 wc K1 ac T hK1
  have M := Mem.init wc noEx
  refine wpIn_seq ?_
  refine ri_lit (fun _ _ h => h) rfl ?_
  refine Zl2 ?_
  refine Zoa M T rfl rfl rfl rfl ?_; clear M T; intro g6 wc ac M T
  refine Zl2 ?_
  refine Zos M T rfl rfl (T.e 0 rfl) (T.e 2 rfl) rfl .head rfl (by simp) rfl (by kernel_rfl) ?_; clear M T; intro wc ac M T
  replace T := T.pick [0, 1, 3, 4, 5, 6] rfl
  refine Zln ?_
  refine ri_lit (fun _ _ h => h) rfl ?_
  refine Zl2 ?_
  refine Zoa M T rfl rfl rfl rfl ?_; clear M T; intro g7 wc ac M T
  refine Zl2 ?_
  refine Zos M T rfl rfl (T.e 0 rfl) (T.e 2 rfl) rfl .head rfl (by simp) rfl (by kernel_rfl) ?_; clear M T; intro wc ac M T
  replace T := T.pick [0, 1, 3, 4, 5, 6] rfl
  refine Zln ?_
  exact hK1 (g7, g6) _ _ (T.pick [0, 1, 2, 3, 4, 5] rfl) (M.mask [true, true] rfl)
 ·rintro lp9 pre x9 ⟨g7, g6⟩ Lx ac w hj hox hz hlp M0 hnl9 exb wc hexb hwc T M
  have hnx_g7 : ¬ exb g7 := by rw [hexb]; exact hnl9 _ Zz2
  have hnx_g6 : ¬ exb g6 := by rw [hexb]; exact hnl9 _ (Zz1 Zz2)
  obtain ⟨he, hno, rfl⟩ := hj
  replace T : TmD [] ac 72 [(13, .pointer (some ⟨g7, 0, none⟩)), (12, .pointer (some ⟨g6, 0, none⟩)), (5, .pointer (some ⟨g1, 0, none⟩)), (7, .pointer (some ⟨g3, 0, none⟩)), (8, .pointer (some ⟨g4, 0, none⟩)), (9, .pointer (some ⟨g5, 0, none⟩))] := T
  replace M : Mem w exb wc [(g5, .cells [.slice (some ⟨gs, 0, none⟩) L.length f]), (g4, .cells [.int .i64 y]), (g3, .cells [.int .i64 x]), (g1, .cells [.int .i64 s.lo, .int .i64 s.wi, .int .i64 s.a0, .int .i64 s.a1, .int .i64 s.c0, .int .i64 s.c1, .slice A s.ps.length d, .func (.func 183) #[] #[.pointer (some ⟨ga, 0, none⟩)], .func (.func 184) #[] #[.pointer (some ⟨gc, 0, none⟩)], .slice B L.length e, .map (some gm)]), (gm, .any (memoQ Tryz.prog 193 (okR a c L))), (gs, .cells (tc sp ++ ys))] := M
  replace M0 : Mem _ _ w ([(g7, .cells [.int .i64 x9.1.x, .int .i64 x9.1.y]), (g6, .cells [.int .u64 (x9.1.a.s : Int), .int .i64 x9.1.a.lo, .int .i64 x9.1.a.wi, .int .u64 (x9.1.b.s : Int), .int .i64 x9.1.b.lo, .int .i64 x9.1.b.wi])] ++ [(g5, .cells [.slice (some ⟨gs, 0, none⟩) L.length f]), (g4, .cells [.int .i64 y]), (g3, .cells [.int .i64 x]), (g1, .cells [.int .i64 s.lo, .int .i64 s.wi, .int .i64 s.a0, .int .i64 s.a1, .int .i64 s.c0, .int .i64 s.c1, .slice A s.ps.length d, .func (.func 183) #[] #[.pointer (some ⟨ga, 0, none⟩)], .func (.func 184) #[] #[.pointer (some ⟨gc, 0, none⟩)], .slice B L.length e, .map (some gm)]), (gm, .any (memoQ Tryz.prog 193 (okR a c L))), (gs, .cells (tc sp ++ ys))]) := M0
  have hxb : ∀ b, exb b → n1 ≤ b := by rw [hexb]; exact hown
  have hx9 := hxb
  obtain ⟨⟨hq1, hq2, hq3, hq4⟩, hq5, hq6⟩ := rooms_pop hs32 x9.2
  obtain ⟨⟨hr1, hr2, hr3, hr4⟩, ⟨hr5, hr6, hr7, hr8⟩, hr9, hr10, hr11, hr12⟩ := rooms_bd hlo.1 hwi.1 x9.2
  obtain ⟨hr13, hr14⟩ := rooms_bd2 hlo.1 hwi.1 x9.2
  obtain ⟨hp1, hp2⟩ := rooms_pow hs h5 x9.2
  refine wpIn_block ?_
  refine wpIn_seq ?_
  refine ci_seq (fun ac wc => Tm ac 72 [(5, .pointer (some ⟨g1, 0, none⟩)), (7, .pointer (some ⟨g3, 0, none⟩)), (8, .pointer (some ⟨g4, 0, none⟩)), (9, .pointer (some ⟨g5, 0, none⟩)), (12, .pointer (some ⟨g6, 0, none⟩)), (13, .pointer (some ⟨g7, 0, none⟩)), (51, .bool ((!(canB a c L x9.1.a)) || (!(canB a c L x9.1.b))))] ∧ Mem w exb wc [(g5, .cells [.slice (some ⟨gs, 0, none⟩) L.length f]), (g4, .cells [.int .i64 y]), (g3, .cells [.int .i64 x]), (g1, .cells [.int .i64 s.lo, .int .i64 s.wi, .int .i64 s.a0, .int .i64 s.a1, .int .i64 s.c0, .int .i64 s.c1, .slice A s.ps.length d, .func (.func 183) #[] #[.pointer (some ⟨ga, 0, none⟩)], .func (.func 184) #[] #[.pointer (some ⟨gc, 0, none⟩)], .slice B L.length e, .map (some gm)]), (gm, .any (memoQ Tryz.prog 193 (okR a c L))), (gs, .cells (tc sp ++ ys))]) ?_ ?_
  ·refine ri_lit (fun _ _ h => h) rfl ?_
   refine Zg3 (v2 := (.pointer (some ⟨g6, 0, none⟩))) T (Zq (Zrr (Mem.nth M 3 rfl) rfl (T.e 2 rfl) rfl)) rfl (fun _ T => Zq (rn_indexA (size := 3) 0 rfl (T.e 2 rfl) evc Tryz.underlying271 (by kernel_rfl) rfl)) rfl (fun _ T => Zq (Zrr (Mem.old M (Mem.nth M0 1 rfl) hnx_g6) rfl (T.e 0 rfl) rfl)) rfl ?_; clear T ac; intro ac T
   refine Zl2 ?_
   refine Zoc (first := []) (cap := []) T rfl rfl rfl rfl evf (.cons (T.e 2 rfl) (.cons (T.e 0 rfl) .nil)) Tryz.func124 rfl rfl ?_
   refine Calls.mono (can_any s A d a c ga gc B e L gm n1 ha hc hg h5 hn1 6 x9.1.a _ (pop_lt _) hp1 (by omega) (by omega) (he.mem M hx9) (M.at (Zne (i := 4) rfl))) ?_
   clear T; rintro e wc ⟨rfl, N⟩ ac T
   replace M := M.joinE N (.tail (.tail (.tail (.tail .head))))
   clear N
   refine Zg2 T (Zq (rn_not rfl (T.e 0 rfl))) rfl (Zm 0 rfl rfl) rfl ?_; clear T ac; intro ac T
   rcases Bool.eq_false_or_eq_true (!(canB a c L x9.1.a)) with h3 | h3
   ·refine Zg6 T (Zp (Zwn rfl rfl (T.e 0 rfl) h3)) rfl (fun _ T => Zp (Zwn rfl rfl (T.e 1 rfl) h3)) rfl (fun _ T => Zp (Zwn rfl rfl (T.e 2 rfl) h3)) rfl (fun _ T => Zp (Zwn rfl rfl (T.e 3 rfl) h3)) rfl (fun _ T => Zp (Zwn rfl rfl (T.e 4 rfl) h3)) rfl (fun _ T => Zq (Zr1 rfl (T.e 5 rfl) h3 evc)) rfl ?_; clear T ac; intro ac T
    refine wpList_nil ?_
    replace T := T.pick [0, 1, 2, 3, 4, 5, 12, 13, 14, 15, 16, 17] rfl
    exact ⟨(T.pick (E' := [(5, .pointer (some ⟨g1, 0, none⟩)), (7, .pointer (some ⟨g3, 0, none⟩)), (8, .pointer (some ⟨g4, 0, none⟩)), (9, .pointer (some ⟨g5, 0, none⟩)), (12, .pointer (some ⟨g6, 0, none⟩)), (13, .pointer (some ⟨g7, 0, none⟩)), (51, .bool true)]) [8, 9, 10, 11, 7, 6, 0] rfl).as (by (try rw [show (!(canB a c L x9.1.a)) = true from h3]); (try rfl)), M.mask [true, true, true, true, true, true] rfl⟩
   refine Zg3 (v2 := (.pointer (some ⟨g6, 3, none⟩))) T (Zw (Zwy rfl rfl (T.e 0 rfl) h3) (Zrr (Mem.nth M 3 rfl) rfl (T.e 8 rfl) rfl)) rfl (fun _ T => Zw (Zwy rfl rfl (T.e 1 rfl) h3) (rn_indexA (size := 3) 1 rfl (T.e 8 rfl) evc Tryz.underlying271 (by kernel_rfl) rfl)) rfl (fun _ T => Zw (Zwy rfl rfl (T.e 2 rfl) h3) (Zrr (Mem.old M (Mem.nth M0 1 rfl) hnx_g6) rfl (T.e 0 rfl) rfl)) rfl ?_; clear T ac; intro ac T
   refine l_w (Zwy rfl rfl (T.e 3 rfl) h3) ?_; intro K hK
   refine Zoc (first := []) (cap := []) T rfl rfl rfl rfl evf (.cons (T.e 2 rfl) (.cons (T.e 0 rfl) .nil)) Tryz.func124 rfl rfl ?_
   refine Calls.mono (can_any s A d a c ga gc B e L gm n1 ha hc hg h5 hn1 6 x9.1.b _ (pop_lt _) hp2 (by omega) (by omega) (he.mem M hx9) (M.at (Zne (i := 4) rfl))) ?_
   clear T; rintro e wc ⟨rfl, N⟩ ac T
   replace M := M.joinE N (.tail (.tail (.tail (.tail .head))))
   clear N
   refine Zso hK _ _ ?_; clear hK K
   refine Zg2 T (Zw (Zwy rfl rfl (T.e 4 rfl) h3) (rn_not rfl (T.e 0 rfl))) rfl (fun _ T => Zq (Zr0 rfl (T.e 5 rfl) h3 (T.e 0 rfl))) rfl ?_; clear T ac; intro ac T
   refine wpList_nil ?_
   replace T := T.pick [0, 1, 2, 3, 4, 5, 12, 13, 14, 15, 16, 17] rfl
   exact ⟨(T.pick (E' := [(5, .pointer (some ⟨g1, 0, none⟩)), (7, .pointer (some ⟨g3, 0, none⟩)), (8, .pointer (some ⟨g4, 0, none⟩)), (9, .pointer (some ⟨g5, 0, none⟩)), (12, .pointer (some ⟨g6, 0, none⟩)), (13, .pointer (some ⟨g7, 0, none⟩)), (51, .bool (!(canB a c L x9.1.b)))]) [8, 9, 10, 11, 7, 6, 0] rfl).as (by (try rw [show (!(canB a c L x9.1.a)) = false from h3]); (try rfl)), M.mask [true, true, true, true, true, true] rfl⟩
  clear T M
  rintro ac wc ⟨T, M⟩
  refine wpIn_cond_split (T.e 6 rfl) ?_ ?_
  ·intro h4
   (have h4' := h4; try simp only [Zb1, Zb2, Zb3, Zb4, Zb5, Zb6, Zb7] at h4')
   refine wpIn_exit ?_
   refine Zet ?_
   refine ex_hit ?_
   refine rb_nm (L := [(g5, .cells [.slice (some ⟨gs, 0, none⟩) L.length f]), (g4, .cells [.int .i64 y]), (g3, .cells [.int .i64 x]), (g1, .cells [.int .i64 s.lo, .int .i64 s.wi, .int .i64 s.a0, .int .i64 s.a1, .int .i64 s.c0, .int .i64 s.c1, .slice A s.ps.length d, .func (.func 183) #[] #[.pointer (some ⟨ga, 0, none⟩)], .func (.func 184) #[] #[.pointer (some ⟨gc, 0, none⟩)], .slice B L.length e, .map (some gm)]), (gm, .any (memoQ Tryz.prog 193 (okR a c L))), (gs, .cells (tc sp ++ ys))]) ?_ (M.mask [true, true, true, true, true, true] rfl)
   exact ⟨(he.mem M hxb), (by rw [List.map_append]; intro q hq; rcases List.mem_append.1 hq with hq | hq; exact hno q hq; rw [List.mem_singleton.1 hq]; rintro ⟨k1, k2⟩; simp_all), rfl⟩
  intro h4
  (have h4' := h4; try simp only [Zb1, Zb2, Zb3, Zb4, Zb5, Zb6, Zb7] at h4')
  refine wpIn_skip ?_
  refine nm_then ?_
  refine wpIn_seq ?_
  refine ri_lit (fun _ _ h => h) rfl ?_
  refine Zg6 (v2 := (.pointer (some ⟨g6, 0, none⟩))) T (Zq (Zrr (Mem.nth M 3 rfl) rfl (T.e 0 rfl) rfl)) rfl (fun _ T => Zq (rn_indexA (size := 3) 0 rfl (T.e 5 rfl) evc Tryz.underlying271 (by kernel_rfl) rfl)) rfl (fun _ T => Zq (Zrr (Mem.old M (Mem.nth M0 1 rfl) hnx_g6) rfl (T.e 0 rfl) rfl)) rfl (Zo M 2 4 rfl rfl rfl rfl) rfl (Zo M 1 6 rfl rfl rfl rfl) rfl (Zo M 0 8 rfl rfl rfl rfl) rfl ?_; clear T ac; intro ac T
  refine Zl2 ?_
  refine Zoc (first := []) (cap := []) T rfl rfl rfl rfl evf (.cons (T.e 5 rfl) (.cons (T.e 3 rfl) (.cons (T.e 2 rfl) (.cons (T.e 1 rfl) (.cons (T.e 0 rfl) .nil))))) Tryz.func126 rfl rfl ?_
  refine Calls.mono (ih x9.1.a x y sp ys _ (by omega) hp1 (by omega) (by omega) (by omega) (by omega) (by omega) (by simp_all) (he.mem M hx9) (M.at (Zne (i := 4) rfl)) (M.at (Zne (i := 5) rfl))) ?_
  clear T; rintro e wc ⟨rfl, N⟩ ac T
  obtain ⟨Az1, hAz1, N⟩ := N
  obtain ⟨spz1, hspz1⟩ : ∃ q, q = putS sp Az1 := ⟨_, rfl⟩
  rw [← hspz1] at N
  have lspz1 : spz1.length = sp.length := by rw [hspz1]; exact putS_length _ _
  replace M := M.joinE2 N (.tail (.tail (.tail (.tail .head)))) (.tail (.tail (.tail (.tail (.tail .head)))))
  clear N
  replace T := T.pick [7, 8, 9, 10, 11, 12] rfl
  refine Zln ?_
  refine wpIn_seq ?_
  refine ri_lit (fun _ _ h => h) rfl ?_
  refine Zg8 (v2 := (.pointer (some ⟨g6, 3, none⟩))) (v5 := (.pointer (some ⟨g7, 0, none⟩))) T (Zq (Zrr (Mem.nth M 3 rfl) rfl (T.e 0 rfl) rfl)) rfl (fun _ T => Zq (rn_indexA (size := 3) 1 rfl (T.e 5 rfl) evc Tryz.underlying271 (by kernel_rfl) rfl)) rfl (fun _ T => Zq (Zrr (Mem.old M (Mem.nth M0 1 rfl) hnx_g6) rfl (T.e 0 rfl) rfl)) rfl (Zo M 2 4 rfl rfl rfl rfl) rfl (fun _ T => Zq (rn_indexA (size := 1) 0 rfl (T.e 9 rfl) evc Tryz.underlying252 (by kernel_rfl) rfl)) rfl (fun _ T => Zq (Zro (Mem.old M (Mem.nth M0 0 rfl) hnx_g7) rfl (T.e 0 rfl) rfl)) rfl (fun _ T => Zq (rn_add rfl (T.e 2 rfl) (T.e 0 rfl) (by omega))) rfl (Zo M 1 9 rfl rfl rfl rfl) rfl ?_; clear T ac; intro ac T
  refine Zg4 (v1 := (.pointer (some ⟨g7, 1, none⟩))) T (Zq (rn_indexA (size := 1) 1 rfl (T.e 13 rfl) evc Tryz.underlying252 (by kernel_rfl) rfl)) rfl (fun _ T => Zq (Zro (Mem.old M (Mem.nth M0 0 rfl) hnx_g7) rfl (T.e 0 rfl) rfl)) rfl (fun _ T => Zq (rn_add rfl (T.e 2 rfl) (T.e 0 rfl) (by omega))) rfl (Zo M 0 14 rfl rfl rfl rfl) rfl ?_; clear T ac; intro ac T
  refine Zl2 ?_
  refine Zoc (first := []) (cap := []) T rfl rfl rfl rfl evf (.cons (T.e 11 rfl) (.cons (T.e 9 rfl) (.cons (T.e 5 rfl) (.cons (T.e 1 rfl) (.cons (T.e 0 rfl) .nil))))) Tryz.func126 rfl rfl ?_
  refine Calls.mono (ih x9.1.b (x + x9.1.x) (y + x9.1.y) spz1 ys _ (by omega) hp2 (by omega) (by omega) (by omega) (by omega) (by omega) (by simp_all) (he.mem M hx9) (M.at (Zne (i := 4) rfl)) (M.at (Zne (i := 5) rfl))) ?_
  clear T; rintro e wc ⟨rfl, N⟩ ac T
  obtain ⟨Az2, hAz2, N⟩ := N
  obtain ⟨spz2, hspz2⟩ : ∃ q, q = putS spz1 Az2 := ⟨_, rfl⟩
  rw [← hspz2] at N
  have lspz2 : spz2.length = spz1.length := by rw [hspz2]; exact putS_length _ _
  replace M := M.joinE2 N (.tail (.tail (.tail (.tail .head)))) (.tail (.tail (.tail (.tail (.tail .head)))))
  clear N
  refine wpList_nil ?_
  replace T := T.pick [] rfl
  replace M := M.mask [false, false, false, false, true, true] rfl
  refine nm_then ?_
  refine wpIn_ret ?_
  refine Zrb ?_
  rw [hspz2, hspz1] at M
  refine rb_ret (L := [(gm, .any (memoQ Tryz.prog 193 (okR a c L))), (gs, .cells (tc (putS (putS sp Az1) Az2) ++ ys))]) ⟨rfl, x9.1, pre.map (fun x : Ru r => x.1), Az1, Az2, by rw [List.map_append]; rfl, hno, ⟨by simp_all, by simp_all⟩, hAz1, hAz2, rfl⟩ (M.perm [0, 1] rfl rfl)
 ·rintro D1 pre Lx ac wc hDn hSd hj hz T M
  obtain ⟨he, hno, rfl⟩ := hj
  replace T : TmD ((([D1] : List Nat)).map dfD) ac 72 [(5, .pointer (some ⟨g1, 0, none⟩)), (7, .pointer (some ⟨g3, 0, none⟩)), (8, .pointer (some ⟨g4, 0, none⟩)), (9, .pointer (some ⟨g5, 0, none⟩)), (37, .func (.func 224) #[] #[.pointer (some ⟨gu4, 0, none⟩)])] := T
  exfalso
  obtain ⟨q, hq, k1, k2⟩ := (can_cut hs h5 (by omega)).1 (canB_iff.1 hc9)
  exact hno q (by rw [hSd]; exact hq) ⟨canB_iff.2 k1, canB_iff.2 k2⟩
 ·rintro D1 c9 pre Lx ac wc hDn hSp ⟨rfl, q9, l9, A1, A2, hl9, hn9, hb9, h91, h92, rfl⟩ hz T M
  replace T : TmD ((([D1] : List Nat)).map dfD) ac 72 [(5, .pointer (some ⟨g1, 0, none⟩)), (7, .pointer (some ⟨g3, 0, none⟩)), (8, .pointer (some ⟨g4, 0, none⟩)), (9, .pointer (some ⟨g5, 0, none⟩)), (37, .func (.func 224) #[] #[.pointer (some ⟨gu4, 0, none⟩)])] := T
  rw [putS_app] at M
  have hf9 : (roomsP r).find? (fun q => canB a c L q.a && canB a c L q.b) = some q9 := find_pre (l0 := l9) (hl9 ▸ hSp) (fun z hz => by simpa [Bool.and_eq_true] using hn9 z hz) (by rw [hb9.1, hb9.2]; rfl)
  have hA9 := Lay.cut (by omega) hf9 h91 h92
  refine wp_ret ?_
  refine Zrb ?_
  refine rt_ng ?_
  refine rtM (L := [(gm, .any (memoQ Tryz.prog 193 (okR a c L))), (gs, .cells (tc (putS sp (A1 ++ A2)) ++ ys))]) (([D1] : List Nat)) T (M.perm [1, 2, 0] rfl rfl) ?_; clear T M; intro wc ac T M
  refine rt_0 T rfl ?_
  exact ⟨rfl, _, hA9, M.perm [0, 1] rfl rfl⟩
theorem Rd.bound {w : World} {B n1 size n : Nat} {A : Option Addr} {xs : List Value} (h : Rd w B size A n xs) (hb : ∀ b o, A = some ⟨b, o, none⟩ → 0 < n → b < n1) : Rd w n1 size A n xs :=
 ⟨h.1, fun hn => by
  obtain ⟨b, o, h1, h2, h3⟩ := h.2 hn
  exact ⟨b, o, h1, hb b o h1 hn, h3⟩⟩
theorem Rd.blk {w : World} {B size n : Nat} {A : Option Addr} {xs : List Value} (h : Rd w B size A n xs) : ∀ b o, A = some ⟨b, o, none⟩ → 0 < n → b < B := fun b o ha hn => by
 obtain ⟨b', o', h1, h2, -⟩ := h.2 hn
 rw [ha] at h1
 injection h1 with h1
 injection h1 with h1 _ _
 omega
theorem Sl.capLe {e n size : Nat} {A : Option Addr} {c : Nat} {xs : List Value} {I : List (Nat × BA)} {w0 w : World} {ex : Nat → Prop} {L : List (Nat × BA)} (h : Sl e size (.slice A n c) n xs I) (M : Mem w0 ex w L) (hI : I.Sublist L) : n ≤ c := by
 rcases h with ⟨h1, h2, -, -⟩ | ⟨g, cap, h1, h2⟩
 ·omega
 ·injection h1 with _ _ h3
  subst h3
  obtain ⟨⟨-, h5⟩, h6⟩ := (M.blk (g, .row e size n xs c) (hI.subset (by rw [h2]; exact Zz2))).2
  rcases h5 with ⟨h7, -⟩ | ⟨g', cap, cur, h7, -, -, h8, -⟩
  ·cases h7
  ·injection h7 with _ _ h9
   omega
theorem Sl.spV {e n c size : Nat} {A : Option Addr} {xs : List Value} {I : List (Nat × BA)} (h : Sl e size (.slice A n c) n xs I) (hl : xs.length = n * size) : ∃ b o, ∀ (w : World) (ex : Nat → Prop), Sp w ex I A n size b o xs := by
 rcases h with ⟨h1, rfl, rfl, rfl⟩ | ⟨g, cap, h1, rfl⟩
 ·exact ⟨0, 0, fun w ex => Sp.nil⟩
 ·injection h1 with h1 _ h2
  subst h1
  exact ⟨g, 0, fun w ex => Sp.row (by omega)⟩
def lsE (n : Int) : List Int → List Int → Int
 | _, [] => 0
 | b, x :: r => if ¬ (0 ≤ x ∧ x ≤ n - 1) then 3 else if x ∈ b then 4 else lsE n (b ++ [x]) r
def lstE (s : Sk) (g : List Int) : Int := if skErr s ≠ 0 then skErr s else lsE s.ps.length [] g
def gP (s : Sk) (g : List Int) : List Pt := g.map fun x => s.ps.getD x.toNat default
def lstP (s : Sk) (g : List Int) : List Pt := if lstE s g = 0 then gP s g else []
theorem lsE_good {n : Int} : ∀ {g b : List Int}, lsE n b g = 0 → (∀ x ∈ g, 0 ≤ x ∧ x < n ∧ x ∉ b) ∧ g.Nodup
 | [], b, _ => by simp
 | x :: g, b, h => by
  unfold lsE at h
  split at h
  ·omega
  ·split at h
   ·omega
   ·rename_i h1 h2
    obtain ⟨k1, k2⟩ := lsE_good h
    refine ⟨fun y hy => ?_, List.nodup_cons.2 ⟨fun hx => ?_, k2⟩⟩
    ·rcases List.mem_cons.1 hy with rfl | hy
     ·exact ⟨by omega, by omega, h2⟩
     ·obtain ⟨q1, q2, q3⟩ := k1 y hy
      exact ⟨q1, q2, fun hb => q3 (List.mem_append_left _ hb)⟩
    ·exact (k1 x hx).2.2 (List.mem_append_right _ Zz2)
theorem lsE_of {n : Int} : ∀ {g b : List Int}, (∀ x ∈ g, 0 ≤ x ∧ x < n ∧ x ∉ b) → g.Nodup → lsE n b g = 0
 | [], b, _, _ => rfl
 | x :: g, b, h, hn => by
  obtain ⟨h1, h2, h3⟩ := h x Zz2
  unfold lsE
  rw [if_neg (by omega), if_neg h3]
  obtain ⟨n1, n2⟩ := List.nodup_cons.1 hn
  refine lsE_of (fun y hy => ?_) n2
  obtain ⟨q1, q2, q3⟩ := h y (Zz1 hy)
  refine ⟨q1, q2, fun hb => ?_⟩
  rcases List.mem_append.1 hb with hb | hb
  ·exact q3 hb
  ·exact n1 ((List.mem_singleton.1 hb) ▸ hy)
theorem lstE_iff {s : Sk} {g : List Int} : lstE s g = 0 ↔ s.good ∧ (∀ x ∈ g, 0 ≤ x ∧ x < s.ps.length) ∧ g.Nodup := by
 unfold lstE
 constructor
 ·intro h
  split at h
  ·omega
  ·rename_i h1
   obtain ⟨k1, k2⟩ := lsE_good h
   exact ⟨skErr_iff.1 (by omega), fun x hx => ⟨(k1 x hx).1, (k1 x hx).2.1⟩, k2⟩
 ·rintro ⟨h1, h2, h3⟩
  rw [if_neg (by rw [skErr_iff.2 h1]; simp)]
  exact lsE_of (fun x hx => ⟨(h2 x hx).1, (h2 x hx).2, by simp⟩) h3
theorem nodup_len {α : Type} [DecidableEq α] : ∀ (l m : List α), l.Nodup → (∀ x ∈ l, x ∈ m) → l.length ≤ m.length
 | [], _, _, _ => Nat.zero_le _
 | x :: l, m, hn, hs => by
  obtain ⟨h1, h2⟩ := List.nodup_cons.1 hn
  have hx := hs x Zz2
  have ih := nodup_len l (m.erase x) h2 fun y hy => (List.mem_erase_of_ne (a := y) (b := x) (fun e => h1 (by rw [← e]; exact hy))).2 (hs y (Zz1 hy))
  rw [List.length_erase_of_mem hx] at ih
  have := List.length_pos_of_mem hx
  simp only [List.length_cons]
  omega
theorem nodup_short {n : Nat} {g : List Int} (h : ∀ x ∈ g, 0 ≤ x ∧ x < (n : Int)) (hn : g.Nodup) : g.length ≤ n := by
 have h1 : (g.map Int.toNat).Nodup := by
  refine List.pairwise_map.2 (hn.imp_of_mem fun {a b} ha hb hne => ?_)
  have := h a ha
  have := h b hb
  omega
 have h2 : g.map Int.toNat ⊆ List.range n := fun k hk => by
  obtain ⟨x, hx, rfl⟩ := List.mem_map.1 hk
  have := h x hx
  rw [List.mem_range]
  omega
 have h3 := nodup_len _ _ h1 h2
 simpa using h3
theorem gP_good {s : Sk} {g : List Int} (hs : s.good) (h : ∀ x ∈ g, 0 ≤ x ∧ x < s.ps.length) : ∀ p ∈ gP s g, p.good := fun p hp => by
 obtain ⟨x, hx, rfl⟩ := List.mem_map.1 hp
 have := h x hx
 rw [List.getD_eq_getElem?_getD, List.getElem?_eq_getElem (by omega)]
 exact hs.ps _ (List.getElem_mem _)
theorem lstP_good {s : Sk} {g : List Int} (h : lstE s g = 0) : lstP s g = gP s g ∧ (∀ p ∈ gP s g, p.good) ∧ (gP s g).length ≤ 5 := by
 obtain ⟨h1, h2, h3⟩ := lstE_iff.1 h
 refine ⟨if_pos h, gP_good h1 h2, ?_⟩
 have := nodup_short h2 h3
 have := h1.len
 simp only [gP, List.length_map]
 omega
def whR (s : Sk) (L : List Pt) : Rm := ⟨2 ^ L.length - 1, s.lo, s.wi⟩
noncomputable def canS (s : Sk) (su : Bool) (L : List Pt) : Bool := canB (cutA s su) (cutC s su) L (whR s L)
theorem canS_iff {s : Sk} {su : Bool} {L : List Pt} : canS s su L = true ↔ Cut (Fit (cutA s su) (cutC s su)) L s.lo s.wi := by
 unfold canS
 rw [canB_iff]
 unfold canP whR
 rw [sel_all]
noncomputable def planE (s : Sk) (g : List Int) (su : Bool) : Int := if lstE s g ≠ 0 then lstE s g else if canS s su (gP s g) = true then 0 else 11
theorem Lay.det {a c : Int} {L : List Pt} {r : Rm} {x y : Int} {A : List (Nat × Spt)} (h : Lay a c L r x y A) : ∀ {B : List (Nat × Spt)}, Lay a c L r x y B → A = B := by
 induction h with
 | none h1 => intro B h; cases h <;> first | rfl | omega
 | one h1 => intro B h; cases h <;> first | rfl | omega
 | cut h1 h2 _ _ ih1 ih2 =>
  intro B h
  cases h with
  | none => omega
  | one => omega
  | cut k1 k2 k3 k4 =>
   rw [h2] at k2
   injection k2 with k2
   subst k2
   rw [ih1 k3, ih2 k4]
open Classical in
noncomputable def planA (s : Sk) (g : List Int) (su : Bool) : List (Nat × Spt) := if h : ∃ A, Lay (cutA s su) (cutC s su) (gP s g) (whR s (gP s g)) 0 0 A then Classical.choose h else []
theorem planA_eq {s : Sk} {g : List Int} {su : Bool} {A : List (Nat × Spt)} (h : Lay (cutA s su) (cutC s su) (gP s g) (whR s (gP s g)) 0 0 A) : planA s g su = A := by
 unfold planA
 rw [dif_pos ⟨A, h⟩]
 exact (Classical.choose_spec (⟨A, h⟩ : ∃ A, Lay (cutA s su) (cutC s su) (gP s g) (whR s (gP s g)) 0 0 A)).det h
noncomputable def planL (s : Sk) (g : List Int) (su : Bool) : List Spt := if planE s g su = 0 then putS (List.replicate (gP s g).length ⟨0, 0, false⟩) (planA s g su) else []
theorem cut_bd {s : Sk} (h : s.good) (su : Bool) : (0 ≤ cutA s su ∧ cutA s su ≤ 2) ∧ 0 ≤ cutC s su ∧ cutC s su ≤ 2 := by
 obtain ⟨-, -, h3, h4, -, -⟩ := h
 unfold cutA cutC
 split <;> omega
theorem lay_any (s : Sk) (A : Option Addr) (d : Nat) (a c : Int) (ga gc : Nat) (B : Option Addr) (e : Nat) (L : List Pt) (gm n1 : Nat) (ha : 0 ≤ a ∧ a ≤ 2) (hc : 0 ≤ c ∧ c ≤ 2) (hg : ∀ p ∈ L, p.good) (h5 : L.length ≤ 5) (hn1 : n1 ≤ gm) (gs f : Nat) (hsm : gm ≠ gs) (hn2 : n1 ≤ gs) : ∀ n : Nat, LaySpec s A d a c ga gc B e L gm n1 gs f n
 | 0 => fun r x y sp ys w hn => by omega
 | n + 1 => fun r x y sp ys w hn hs hlo hwi hx hy hsl hc9 he hq hq2 => lay_step s A d a c ga gc B e L gm n1 gs f n r x y sp ys w ha hc hg h5 hn1 hsm hn2 (lay_any s A d a c ga gc B e L gm n1 ha hc hg h5 hn1 gs f hsm hn2 n) hn hs hlo hwi hx hy hsl hc9 he hq hq2
def LsPost (size : Nat) (xs : List Value) (n : Nat) (er : Int) (w : World) (e : Ending) (w' : World) : Prop := ∃ A c I, e = .returned (.tuple #[.slice A n c, .int .i64 er]) ∧ n ≤ c ∧ (∃ b o, ∀ (w : World) (ex : Nat → Prop), Sp w ex I A n size b o xs) ∧ Mem w noEx w' I
theorem LsPost.nil {size : Nat} {er : Int} {w w' : World} {L : List (Nat × BA)} (M : Mem w noEx w' L) : LsPost size [] 0 er w (.returned (.tuple #[.slice none 0 0, .int .i64 er])) w' := ⟨none, 0, [], rfl, by simp, ⟨0, 0, fun _ _ => Sp.nil⟩, M.sub (Zz9 _)⟩
theorem index_any (G : Option Addr) (n : Nat) (g : List Int) (v : Int)  (w : World) (hG : Rd w w.heap.size 1 G g.length (ic g)) (nG : g.length ≤ 1000000)  :
   Calls Tryz.prog 222 #[.slice G g.length n, .int .i64 v] w fun e w' => ∃ k : Int, e = .returned (.int .i64 k) ∧ (0 ≤ k ↔ v ∈ g) ∧ Below w.heap.size w w' := by
 obtain ⟨bG, oG, SG⟩ := Sp.old hG
 refine Zpx noEx Tryz.func222 rfl 19 rfl [.slice G g.length n, .int .i64 v] rfl rfl (Mem.init w _) ?_
 intro ac wc T M
 refine Zsr ?_
 refine lq T (Zra rfl evc) ?_; clear T ac; intro ac T
 replace T := T.pick [1, 2] rfl
 refine Zln ?_
 refine wp_seq ?_
 refine Zsr ?_
 refine Zg3 T (Zq (Zrm rfl (T.e 0 rfl))) rfl (Zl Tryz.underlying31 0 rfl rfl) rfl (fun _ T => Zq (Zrm rfl evc)) rfl ?_; clear T ac; intro ac T
 replace T := T.pick [0, 1, 3, 4] rfl
 refine Zln ?_
 refine wp_block ?_
 refine wp_loop_n (fun mz ac wc => ∃ (k : Nat), mz = g.length - k ∧ (k ≤ g.length) ∧ (v ∉ g.take k) ∧ Tm ac 19 [(0, .slice G g.length n), (1, .int .i64 v), (7, .int .i64 ((g.length : Nat) : Int)), (8, .int .i64 (k : Int))] ∧ Mem w noEx wc []) ?_ ?_
 ·exact ⟨_, 0, rfl, (Nat.zero_le _), (by simp), T.pick [2, 3, 1, 0] rfl, M.mask [] rfl⟩
 clear T M
 rintro mz ac wc ⟨k, hmm1, hk, H, T, M⟩
 refine Zsr ?_
 refine lq T (rn_lss rfl (T.e 3 rfl) (T.e 2 rfl)) ?_; clear T ac; intro ac T
 refine Zln ?_
 refine wp_seq ?_
 refine wp_if (T.e 0 rfl) ?_ ?_
 ·intro h1
  obtain ⟨x, hkx, -⟩ := ic_next (l := g) (k := k) (by omega)
  refine Zsk ?_
  refine wp_seq ?_
  refine wp_block ?_
  refine Zsr ?_
  refine Zg2 T (Zq (Zrm rfl (T.e 4 rfl))) rfl (Za 0 rfl rfl) rfl ?_; clear T ac; intro ac T
  replace T := T.pick [0, 3, 4, 5, 6] rfl
  refine Zln ?_
  refine Zsr ?_
  refine Zg6 T (Zq (Zrm rfl (T.e 2 rfl))) rfl (Zm 2 rfl rfl) rfl (Zm 2 rfl rfl) rfl (fun _ T => Zq (Zri (size := 1) k rfl (T.e 1 rfl) (T.e 0 rfl) ⟨_, Tryz.underlying31, by kernel_rfl⟩ rfl (by omega) (SG.at0 (by omega)))) rfl (fun _ T => Zq (rn_cell (Sp.ic0 SG M (Zz9 _) hkx) rfl (T.e 0 rfl))) rfl (fun _ T => Zq (rn_eql rfl (T.e 4 rfl) (T.e 0 rfl))) rfl ?_; clear T ac; intro ac T
  replace T := T.pick [0, 6, 7, 8, 9, 10] rfl
  refine Zln ?_
  refine wp_if (T.e 0 rfl) ?_ ?_
  ·intro h2
   refine Zsr ?_
   refine Zg2 T (Zq (Zrm rfl (T.e 1 rfl))) rfl (Za 0 rfl rfl) rfl ?_; clear T ac; intro ac T
   replace T := T.pick [0] rfl
   refine Zln ?_
   refine wp_ret ?_
   refine Zrb ?_
   refine Zrt ?_
   refine Zrt ?_
   refine Zrb ?_
   refine Zrt ?_
   refine rt_1 T rfl (T.e 0 rfl) ?_
   exact ⟨_, rfl, ⟨fun _ => by rw [show v = x by omega]; exact List.mem_of_getElem? hkx, fun _ => by omega⟩, M.below⟩
  intro h2
  refine wp_skip ?_
  refine Znb ?_
  refine nm_then ?_
  refine wp_region_lit ?_
  refine lq T (rn_add rfl (T.e 5 rfl) evc (by omega)) ?_; clear T ac; intro ac T
  refine l_q (v := (.int .i64 ((k : Int) + 1))) (T.pick [0, 1, 2, 3, 4, 5] rfl) rfl rfl rfl rfl (Zrm rfl (T.e 0 rfl)) ?_; clear T ac; intro ac T
  replace T := T.pick [0, 4, 5, 6] rfl
  refine Zln ?_
  exact ⟨_, by omega, k + 1, rfl, (by omega), (by rw [List.take_add_one, hkx]; simp only [Option.toList_some, List.mem_append, List.mem_singleton]; rintro (h9 | h9); exact H h9; omega), T.pick [1, 2, 3, 0] rfl, M.mask [] rfl⟩
 intro h1
 rw [List.take_of_length_le (by omega)] at H
 refine wp_exit ?_
 refine Zet ?_
 refine Zet ?_
 refine ex_hit ?_
 refine nm_then ?_
 refine Zsr ?_
 refine lq T (Zra rfl evc) ?_; clear T ac; intro ac T
 replace T := T.pick [0] rfl
 refine Zln ?_
 refine wp_ret ?_
 refine rt_1 T rfl (T.e 0 rfl) ?_
 exact ⟨-1, rfl, ⟨fun h9 => by omega, fun h9 => absurd h9 H⟩, M.below⟩
theorem contains_any (G : Option Addr) (n : Nat) (g : List Int) (v : Int)  (w : World) (hG : Rd w w.heap.size 1 G g.length (ic g)) (nG : g.length ≤ 1000000)  :
  Calls Tryz.prog 182 #[.slice G g.length n, .int .i64 v] w fun e w' => e = .returned (.bool (decide (v ∈ g))) ∧ Below w.heap.size w w' := by
 obtain ⟨bG, oG, SG⟩ := Sp.old hG
 refine Zpx noEx Tryz.func182 rfl 9 rfl [.slice G g.length n, .int .i64 v] rfl rfl (Mem.init w _) ?_
 intro ac wc T M
 refine Zsr ?_
 refine lq T (Zra rfl evc) ?_; clear T ac; intro ac T
 replace T := T.pick [1, 2] rfl
 refine Zln ?_
 refine Zsr ?_
 refine Zg2 T (Zq (Zrm rfl (T.e 0 rfl))) rfl (Zm 2 rfl rfl) rfl ?_; clear T ac; intro ac T
 refine Zl2 ?_
 refine Zoc (first := []) (cap := []) T rfl rfl rfl rfl evf (.cons (T.e 1 rfl) (.cons (T.e 0 rfl) .nil)) Tryz.func222 rfl rfl ?_
 refine Calls.mono (index_any G n g v _ (SG.rd M (Zz9 _)) (by omega)) ?_
 clear T; rintro e wc ⟨ku1, rfl, hku1, hb⟩ ac T
 replace M := M.call hb; clear hb
 refine Zg2 T (Zq (rn_geq rfl (T.e 0 rfl) evc)) rfl (Za 0 rfl rfl) rfl ?_; clear T ac; intro ac T
 replace T := T.pick [0] rfl
 refine Zln ?_
 refine wp_ret ?_
 refine rt_1 T rfl (T.e 0 rfl) ?_
 exact ⟨ret_bool (decide_eq_decide.2 hku1), M.below⟩
set_option maxHeartbeats 2000000 in
theorem listed_any (s : Sk) (A : Option Addr) (d : Nat) (G : Option Addr) (n : Nat) (g : List Int)  (w : World) (hA : Rd w w.heap.size 4 A s.ps.length (pc s.ps)) (hG : Rd w w.heap.size 1 G g.length (ic g)) (nA : s.ps.length ≤ 1000000) (nG : g.length ≤ 1000000) (hgn : g.length ≤ n)  :
   Calls Tryz.prog 121 #[.agg #[.int .i64 s.lo, .int .i64 s.wi, .int .i64 s.a0, .int .i64 s.a1, .int .i64 s.c0, .int .i64 s.c1, .slice A s.ps.length d], .slice G g.length n] w (LsPost 4 (pc (lstP s g)) (lstP s g).length (lstE s g) w) := by
 obtain ⟨bA, oA, SA⟩ := Sp.old hA
 obtain ⟨bG, oG, SG⟩ := Sp.old hG
 refine Zpx noEx Tryz.func121 rfl 44 rfl [.agg #[.int .i64 s.lo, .int .i64 s.wi, .int .i64 s.a0, .int .i64 s.a1, .int .i64 s.c0, .int .i64 s.c1, .slice A s.ps.length d], .slice G g.length n] rfl rfl (Mem.init w _) ?_
 intro ac wc T M
 refine Zsr ?_
 refine Zl2 ?_
 refine Zob M T rfl rfl rfl rfl (T.e 0 rfl) rfl ?_; clear M T; intro g1 wc ac M T
 refine Zg2 T (Zq (Zra rfl evc)) rfl (Zc rfl) rfl ?_; clear T ac; intro ac T
 replace T := T.pick [2, 4] rfl
 refine Zln ?_
 refine wp_seq ?_
 refine Zsr ?_
 refine lq T (Zrr (Mem.nth M 0 rfl) rfl (T.e 0 rfl) rfl) ?_; clear T ac; intro ac T
 refine Zl2 ?_
 refine Zoc (first := []) (cap := []) T rfl rfl rfl rfl evf (.cons (T.e 0 rfl) .nil) Tryz.func66 rfl rfl ?_
 refine Calls.mono (skCheck_any s A d _ (SA.rd M (Zz9 _)) (by omega)) ?_
 clear T; rintro e wc ⟨rfl, hb⟩ ac T
 replace M := M.call hb; clear hb
 refine lq T (Zra rfl (T.e 0 rfl)) ?_; clear T ac; intro ac T
 replace T := T.pick [0, 3, 4] rfl
 refine Zln ?_
 refine Zsr ?_
 refine Zg2 T (Zq (Zrm rfl (T.e 0 rfl))) rfl (fun _ T => Zq (rn_neq rfl (T.e 0 rfl) evc)) rfl ?_; clear T ac; intro ac T
 replace T := T.pick [0, 2, 3, 4] rfl
 refine Zln ?_
 refine wp_ifn (T.e 0 rfl) ?_ ?_
 ·intro h1
  refine Zsr ?_
  refine Zg3 T (Zq (Zrm rfl (T.e 1 rfl))) rfl (Zc rfl) rfl (Za 1 rfl rfl) rfl ?_; clear T ac; intro ac T
  refine wpList_nil ?_
  replace T := T.pick [0, 1] rfl
  replace M := M.mask [false] rfl
  refine Znr ?_
  refine Zrt ?_
  refine rt_2 T rfl (T.e 1 rfl) (T.e 0 rfl) ?_
  have e9 : lstE s g = skErr s := if_pos (by omega)
  have e8 : lstP s g = [] := if_neg (by omega)
  rw [e9, e8]
  exact LsPost.nil M
 intro h1
 refine Zsk ?_
 refine Zsr ?_
 refine lq T (Zra rfl evc) ?_; clear T ac; intro ac T
 replace T := T.pick [0, 3, 4] rfl
 refine Zln ?_
 refine wp_seq ?_
 refine Zsr ?_
 refine Zg3 T (Zq (Zrm rfl (T.e 2 rfl))) rfl (Zl Tryz.underlying31 0 rfl rfl) rfl (fun _ T => Zq (Zrm rfl evc)) rfl ?_; clear T ac; intro ac T
 refine Zln ?_
 refine wp_block ?_
 refine wp_loop_n (fun mz ac wc => ∃ (k : Nat) (OL : List Pt) (A3 : Option Addr) (c3 : Nat) (Io : List (Nat × BA)), mz = g.length - k ∧ (k ≤ g.length) ∧ (lsE s.ps.length [] g = lsE s.ps.length (g.take k) (g.drop k)) ∧ (OL = gP s (g.take k)) ∧ (OL.length = k) ∧ (Sl 119 4 (.slice A3 OL.length c3) OL.length (pc OL) Io) ∧ Tm ac 44 [(1, .slice G g.length n), (2, .pointer (some ⟨g1, 0, none⟩)), (7, .slice A3 OL.length c3), (15, .slice G g.length n), (16, .int .i64 ((g.length : Nat) : Int)), (17, .int .i64 (k : Int))] ∧ Mem w noEx wc ((g1, .cells [.int .i64 s.lo, .int .i64 s.wi, .int .i64 s.a0, .int .i64 s.a1, .int .i64 s.c0, .int .i64 s.c1, .slice A s.ps.length d]) :: Io)) ?_ ?_
 ·exact ⟨_, 0, [], none, 0, [], rfl, (Nat.zero_le _), rfl, rfl, rfl, (Sl.nil _ _), T.pick [5, 4, 3, 2, 1, 0] rfl, M.mask [true] rfl⟩
 clear T M
 rintro mz ac wc ⟨k, OL, A3, c3, Io, hmm1, hk, H, hO, hOl, hsl, T, M⟩
 refine Zsr ?_
 refine lq T (rn_lss rfl (T.e 5 rfl) (T.e 4 rfl)) ?_; clear T ac; intro ac T
 refine Zln ?_
 refine wp_seq ?_
 refine wp_if (T.e 0 rfl) ?_ ?_
 ·intro h2
  obtain ⟨x, hkx, hdx⟩ := ic_next (l := g) (k := k) (by omega)
  rw [hdx, lsE] at H
  refine Zsk ?_
  refine wp_seq ?_
  refine wp_block ?_
  refine Zsr ?_
  refine Zg5 T (Zq (Zrm rfl (T.e 6 rfl))) rfl (fun _ T => Zq (Zri (size := 1) k rfl (T.e 5 rfl) (T.e 7 rfl) ⟨_, Tryz.underlying31, by kernel_rfl⟩ rfl (by omega) (SG.at0 (by omega)))) rfl (fun _ T => Zq (rn_cell (Sp.ic0 SG M (Zz9 _) hkx) rfl (T.e 0 rfl))) rfl (Za 2 rfl rfl) rfl (Za 1 rfl rfl) rfl ?_; clear T ac; intro ac T
  replace T := T.pick [0, 1, 6, 7, 8, 9, 10, 11] rfl
  refine Zln ?_
  refine wp_seq ?_
  refine Zsr ?_
  refine Zg5 (v2 := (.pointer (some ⟨g1, 6, none⟩))) T (Zq (Zrm rfl (T.e 0 rfl))) rfl (Zf 6 4 rfl rfl) rfl (Zo M 0 0 rfl rfl rfl rfl) rfl (Zl Tryz.underlying47 0 rfl rfl) rfl (fun _ T => Zq (rn_sub rfl (T.e 0 rfl) evc (by omega))) rfl ?_; clear T ac; intro ac T
  refine Zl2 ?_
  refine Zoc (first := []) (cap := []) T rfl rfl rfl rfl evf (.cons (T.e 4 rfl) (.cons evc (.cons (T.e 0 rfl) .nil))) Tryz.func133 rfl rfl ?_
  refine Calls.mono (sin_any x 0 (((s.ps.length : Nat) : Int) - 1) _) ?_
  clear T; rintro e wc ⟨rfl, hb⟩ ac T
  replace M := M.call hb; clear hb
  refine lq T (rn_not rfl (T.e 0 rfl)) ?_; clear T ac; intro ac T
  replace T := T.pick [0, 7, 8, 9, 10, 11, 12, 13, 14] rfl
  refine Zln ?_
  refine wp_cond_split (T.e 0 rfl) ?_ ?_
  ·intro h3
   (have h3' := h3; try simp only [Zb1, Zb2, Zb3, Zb4, Zb5, Zb6, Zb7] at h3')
   have h3b : ¬ (0 ≤ x ∧ x ≤ (s.ps.length : Int) - 1) := by simp [withinB] at h3; omega
   refine Zsr ?_
   refine Zg2 T (Zq (Zra rfl evc)) rfl (Zc rfl) rfl ?_; clear T ac; intro ac T
   refine wpList_nil ?_
   replace T := T.pick [0, 1] rfl
   replace M := M.mask [false] rfl
   refine Znr ?_
   refine Zrt ?_
   refine Zrb ?_
   refine Zrt ?_
   refine Zrt ?_
   refine Zrb ?_
   refine Zrt ?_
   refine rt_2 T rfl (T.e 1 rfl) (T.e 0 rfl) ?_
   have e9 : lstE s g = 3 := by unfold lstE; rw [if_neg (by omega), H, if_pos (by omega)]
   have e8 : lstP s g = [] := if_neg (by omega)
   rw [e9, e8]
   exact LsPost.nil M
  intro h3
  (have h3' := h3; try simp only [Zb1, Zb2, Zb3, Zb4, Zb5, Zb6, Zb7] at h3')
  have h3b : 0 ≤ x ∧ x ≤ (s.ps.length : Int) - 1 := by simp [withinB] at h3; omega
  refine Zsk ?_
  refine wp_seq ?_
  refine Zsr ?_
  refine Zg3 T (Zq (Zrm rfl (T.e 3 rfl))) rfl (Zm 3 rfl rfl) rfl (fun _ T => Zq (rn_slice (size := 1) (l := 0) (h := k) rfl Tryz.underlying31 (by kernel_rfl) (T.e 1 rfl) rfl (T.e 0 rfl) (by omega) (by omega))) rfl ?_; clear T ac; intro ac T
  obtain ⟨Aq1, hAq1⟩ : ∃ q : Option Addr, q = (if n = 0 then G else Option.map (fun x : Addr => x.add (0 * 1)) G) := ⟨_, rfl⟩
  rw [← hAq1] at T
  obtain ⟨lq1, hlq1⟩ : ∃ q, q = (g.drop 0).take (k - 0) := ⟨_, rfl⟩
  have nlq1 : lq1.length = k - 0 := by rw [hlq1, List.length_take, List.length_drop]; (try simp only [List.length_cons, List.length_append, List.length_nil]); omega
  rw [← nlq1] at T
  have SAq1 : Sp w noEx [] Aq1 lq1.length 1 bG (oG + 0 * 1) (ic lq1) := by rw [nlq1, hAq1, hlq1, ← ic_part]; exact SG.sub (by omega) (by omega) (by omega)
  refine lq T (Zrm rfl (T.e 4 rfl)) ?_; clear T ac; intro ac T
  refine Zl2 ?_
  refine Zoc (first := []) (cap := []) T rfl rfl rfl rfl evf (.cons (T.e 1 rfl) (.cons (T.e 0 rfl) .nil)) Tryz.func182 rfl rfl ?_
  refine Calls.mono (contains_any Aq1 (n - 0) lq1 x _ (SAq1.rd M (Zz9 _)) (by omega)) ?_
  clear T; rintro e wc ⟨rfl, hb⟩ ac T
  replace M := M.call hb; clear hb
  replace T := T.pick [0, 6, 8, 9, 10, 11, 12, 13] rfl
  refine Zln ?_
  refine wp_if (T.e 0 rfl) ?_ ?_
  ·intro h4
   have hin9 : x ∈ g.take k := by rw [show g.take k = lq1 by rw [hlq1]; simp]; exact h4
   refine Zsr ?_
   refine Zg2 T (Zq (Zra rfl evc)) rfl (Zc rfl) rfl ?_; clear T ac; intro ac T
   refine wpList_nil ?_
   replace T := T.pick [0, 1] rfl
   replace M := M.mask [false] rfl
   refine Znr ?_
   refine Zrt ?_
   refine Zrb ?_
   refine Zrt ?_
   refine Zrt ?_
   refine Zrb ?_
   refine Zrt ?_
   refine rt_2 T rfl (T.e 1 rfl) (T.e 0 rfl) ?_
   have e9 : lstE s g = 4 := by unfold lstE; rw [if_neg (by omega), H, if_neg (by simp; omega), if_pos hin9]
   have e8 : lstP s g = [] := if_neg (by omega)
   rw [e9, e8]
   exact LsPost.nil M
  intro h4
  obtain ⟨xk, hxk⟩ : ∃ q : Nat, x = (q : Int) := ⟨x.toNat, by omega⟩
  obtain ⟨p, hkp, -⟩ := pc_next (l := s.ps) (k := xk) (by omega)
  refine Zsk ?_
  refine wp_region_lit ?_
  refine Zg6 (v2 := (.pointer (some ⟨g1, 6, none⟩))) (v6 := (.agg #[.int .i64 p.l, .int .i64 p.w, .bool p.gr, .int .i64 p.pa])) T (Zq (Zrm rfl (T.e 4 rfl))) rfl (Zf 6 4 rfl rfl) rfl (Zo M 0 0 rfl rfl rfl rfl) rfl (Zm 4 rfl rfl) rfl (fun _ T => Zq (Zri (size := 4) xk rfl (T.e 1 rfl) (T.e 0 rfl) ⟨_, Tryz.underlying47, by kernel_rfl⟩ hxk (by omega) (SA.at0 (by omega)))) rfl (fun _ T => Zq (rn_rowat (Sp.pcR SA M (Zz9 _) hkp) rfl (T.e 0 rfl) rfl)) rfl ?_; clear T ac; intro ac T
  refine Zl2 ?_
  refine ow_bs (e := 119) [.int .i64 p.l, .int .i64 p.w, .bool p.gr, .int .i64 p.pa] M T rfl rfl rfl rfl (.cons (T.e 0 rfl) .nil) (fun _ => by kernel_rfl) ?_; clear M T; intro g2 wc ac M T
  refine Zl2 ?_
  refine ow_app ([(g2, .cells [.int .i64 p.l, .int .i64 p.w, .bool p.gr, .int .i64 p.pa]), (g1, .cells [.int .i64 s.lo, .int .i64 s.wi, .int .i64 s.a0, .int .i64 s.a1, .int .i64 s.c0, .int .i64 s.c1, .slice A s.ps.length d])]) Tryz.info119 hsl M (by first | rfl | simp) T rfl rfl rfl rfl Tryz.underlying47 rfl rfl rfl (by omega) (T.e 6 rfl) (T.e 0 rfl) (Zne (i := 0) rfl) rfl rfl ?_; clear M T; intro ga1 cga1 wc ac M T
  refine l_q (v := (.slice (some ⟨ga1, 0, none⟩) (OL.length + 1) cga1)) (T.pick [0, 1, 2, 3, 4, 5, 6, 7, 8, 9, 10, 11, 13, 14, 15] rfl) rfl rfl rfl rfl (Zra rfl (T.e 0 rfl)) ?_; clear T ac; intro ac T
  refine wpList_nil ?_
  replace T := T.pick [0, 11, 12, 13, 14, 15] rfl
  replace M := M.mask [true, false, true] rfl
  refine Znb ?_
  refine nm_then ?_
  refine wp_region_lit ?_
  refine lq T (rn_add rfl (T.e 5 rfl) evc (by omega)) ?_; clear T ac; intro ac T
  refine l_q (v := (.int .i64 ((k : Int) + 1))) (T.pick [0, 1, 2, 3, 4, 5] rfl) rfl rfl rfl rfl (Zrm rfl (T.e 0 rfl)) ?_; clear T ac; intro ac T
  replace T := T.pick [0, 2, 3, 4, 5, 6] rfl
  refine Zln ?_
  have e9 : OL.length + 1 = (OL ++ [p]).length := by simp
  have e8 : ((pc OL) ++ [.int .i64 p.l, .int .i64 p.w, .bool p.gr, .int .i64 p.pa]) = pc (OL ++ [p]) := by rw [← pc_snoc]
  rw [e9, e8] at M
  rw [e9] at T
  clear e9 e8
  exact ⟨_, by omega, k + 1, (OL ++ [p]), _, _, [(ga1, .row 119 4 (OL ++ [p]).length (pc (OL ++ [p])) cga1)], rfl, (by omega), (by rw [if_neg (by simp; omega), if_neg (show ¬ x ∈ g.take k by rw [show g.take k = lq1 by rw [hlq1]; simp]; exact h4)] at H; rw [H, List.take_add_one, hkx]; rfl), (by rw [hO, List.take_add_one, hkx]; simp [gP, hxk, List.getD_eq_getElem?_getD, hkp]), (by simp [hOl]), (Sl.row _ _ _ _ _ _), T.pick [2, 3, 1, 4, 5, 0] rfl, ((M.permT [1, 0] 2 rfl rfl rfl rfl).sub (Zsl ([(g1, .cells [.int .i64 s.lo, .int .i64 s.wi, .int .i64 s.a0, .int .i64 s.a1, .int .i64 s.c0, .int .i64 s.c1, .slice A s.ps.length d]), (ga1, .row 119 4 (OL ++ [p]).length (pc (OL ++ [p])) cga1)] : List (Nat × BA)) _))⟩
 intro h2
 rw [List.drop_of_length_le (by omega), lsE] at H
 rw [List.take_of_length_le (by omega)] at hO
 refine wp_exit ?_
 refine Zet ?_
 refine Zet ?_
 refine ex_hit ?_
 refine nm_then ?_
 refine Zsr ?_
 refine Zg3 T (Zq (Zrm rfl (T.e 3 rfl))) rfl (Za 0 rfl rfl) rfl (Zc rfl) rfl ?_; clear T ac; intro ac T
 refine wpList_nil ?_
 replace T := T.pick [0, 1] rfl
 replace M := M.mask [false] rfl
 refine Znr ?_
 refine rt_2 T rfl (T.e 1 rfl) (T.e 0 rfl) ?_
 have e9 : lstE s g = 0 := by unfold lstE; rw [if_neg (by omega), H]
 have e8 : lstP s g = OL := (if_pos e9).trans hO.symm
 rw [e9, e8]
 replace M := M.mask [] rfl
 exact ⟨A3, c3, Io, rfl, hsl.capLe M (List.Sublist.refl _), hsl.spV (pc_length _), M⟩
end Go.Proofs.YtaikhendogcflaaGreatDoor


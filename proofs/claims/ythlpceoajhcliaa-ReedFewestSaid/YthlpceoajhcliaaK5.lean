/-
  kit: strokes out of a pot, Turn.
-/
import Derived.Test.YthlpceoajhcliaaKCopy3
import Derived.Test.YthlpceoajhcliaaR1a
namespace Go.Proofs.Ythlpceoajhcliaa
set_option linter.unusedSimpArgs false
set_option linter.unusedVariables false
open Go.RowKit

theorem Bk.of_heap {w : World} {g : Nat} {t : TypeId} {cur : Array Value} (h : w.heap[g]? = some (.cells cur t)) : Bk w g cur.toList.toArray :=
  ⟨(Array.getElem?_eq_some_iff.1 h).1, fun o => by simp only [World.cell?, h]; rfl, fun o => by simp only [World.frozen?, h]; simp⟩
theorem Sp.mono {w : World} {ex : Nat → Prop} {I I' : List (Nat × BA)} {A : Option Addr} {n size b o : Nat} {xs : List Value} (S : Sp w ex I A n size b o xs) (h : I.Sublist I') : Sp w ex I' A n size b o xs :=
  ⟨S.at0, S.len, fun w' L M hI hn => S.lt w' L M (h.trans hI) hn, fun w' L M hI => S.cell w' L M (h.trans hI)⟩
theorem Sp.pre {w : World} {ex : Nat → Prop} {size n g : Nat} {xs ys : List Value} (hl : xs.length = n * size) : Sp w ex [(g, .cells (xs ++ ys))] (some ⟨g, 0, none⟩) n size g 0 xs :=
  ⟨fun _ => rfl, hl, fun w' L M hI _ => BA.lt (M.blk _ (hI.subset List.mem_cons_self)).2, fun w' L M hI j u hu => by
    have hb := M.get (hI.subset List.mem_cons_self)
    rw [hb.cell, Nat.zero_add, List.getElem?_toArray, List.getElem?_append_left (List.getElem?_eq_some_iff.1 hu).1]
    exact hu⟩
/-- A list of jobs. -/
abbrev JE := Jb × Option Addr × Nat
def jc (l : List JE) : List Value := l.flatMap fun x => jobL x.1 x.2.1 x.2.2
theorem jc_get : ∀ (l : List JE) (k : Nat) {x : JE}, l[k]? = some x → ∀ (i : Nat) (v : Value), (jobL x.1 x.2.1 x.2.2)[i]? = some v → (jc l)[k * 18 + i]? = some v
  | [], k, x, h => by simp at h
  | y :: l, 0, x, h => by
    intro i v hv
    simp only [List.getElem?_cons_zero, Option.some.injEq] at h
    subst h
    show (jobL y.1 y.2.1 y.2.2 ++ jc l)[0 * 18 + i]? = some v
    rw [Nat.zero_mul, Nat.zero_add, List.getElem?_append_left (List.getElem?_eq_some_iff.1 hv).1]
    exact hv
  | y :: l, k + 1, x, h => by
    intro i v hv
    have := jc_get l k (by simpa using h) i v hv
    show (jobL y.1 y.2.1 y.2.2 ++ jc l)[(k + 1) * 18 + i]? = some v
    have e : (jobL y.1 y.2.1 y.2.2).length = 18 := rfl
    rw [List.getElem?_append_right (by rw [e]; omega), e, show (k + 1) * 18 + i - 18 = k * 18 + i by omega]
    exact this
theorem jc_length (l : List JE) : (jc l).length = l.length * 18 := by
  induction l with
  | nil => rfl
  | cons x l ih =>
    have e : (jc (x :: l)).length = 18 + (jc l).length := by
      show (jobL x.1 x.2.1 x.2.2 ++ jc l).length = _
      rw [List.length_append]
      rfl
    rw [e, ih, List.length_cons]
    omega
/-- A list of lists. -/
abbrev LE := List Int × Option Addr × Nat
def lc (l : List LE) : List Value := l.map fun x => .slice x.2.1 x.1.length x.2.2
theorem lc_length (l : List LE) : (lc l).length = l.length := by simp [lc]
section
variable {w w' : World} {ex : Nat → Prop} {I L : List (Nat × BA)} {n b o k : Nat} {A : Option Addr} {l : List JE} {r : List LE}
theorem Sp.jcR {j : Jb} {B : Option Addr} {c : Nat} (S : Sp w ex I A n 18 b o (jc l)) (M : Mem w ex w' L) (hI : I.Sublist L) (h : l[k]? = some (j, B, c)) : w'.rangeAt b (o + k * 18) (jobL j B c) := fun i v hv => by
  have := S.cell w' L M hI _ _ (jc_get l k h i v hv)
  rwa [← Nat.add_assoc] at this
theorem Sp.lc0 {x : List Int} {B : Option Addr} {c : Nat} (S : Sp w ex I A n 1 b o (lc r)) (M : Mem w ex w' L) (hI : I.Sublist L) (h : r[k]? = some (x, B, c)) : w'.cell? ⟨b, o + k * 1, none⟩ = some (.slice B x.length c) := by
  rw [Nat.mul_one]
  exact S.cell w' L M hI _ _ (by unfold lc; rw [List.getElem?_map, h]; rfl)
end

section
variable {P : Program} {op : Oper} {a : Act} {K : Act → World → Prop} {Q : Exit → Act → World → Prop} {w0 w : World} {ex : Nat → Prop} {L0 L : List (Nat × BA)} {E : List (Nat × Value)} {t n : Nat}
/-- A literal that is appended to later on: a row of the call's own. -/
theorem ow_bsR {ty e size : Nat} {len : Nat} {parts : List (Nat × Operand)} {vs : List (Nat × Value)} (l : List Value) (M : Mem w0 ex w L) (T : Tm a n E) (ho : op.op = .buildSlice ty len parts.toArray) (hd : op.dst = some t) (hf : freshE E t = true) (hn : Nat.blt t n = true) (hv : EvP a parts vs)
    (hr : ∀ w : World, (Instr.buildSlice ty len vs.toArray).run P w = .ok (.slice (some ⟨w.heap.size, 0, none⟩) len len) (w.alloc (.cells l.toArray e)))
    (hl : l.length = len * size) (h0 : Nat.blt 0 len = true) (h1 : Nat.ble len 1000 = true)
    (h : ∀ g w' a', Mem w0 ex w' ((g, .row e size len l len) :: L) → Tm a' n ((t, .slice (some ⟨g, 0, none⟩) len len) :: E) → K a' w') : op.wp P a w K Q := by
  unfold Oper.wp execOp
  simp only [ho]
  have e1 : (parts.toArray.map fun x => (x.1, a.eval x.2)) = vs.toArray := by simp [← hv.map]
  have e2 : (parts.toArray.map fun (i, x) => (i, a.eval x)) = vs.toArray := e1
  rw [Sem.run_bind, e2, hr]
  have h1 := Nat.le_of_ble_eq_true h1
  refine h w.heap.size _ _ ?_ (by rw [hd]; exact T.put hn hf _)
  refine (M.alloc _).add M.size ⟨⟨hl, .inr ⟨w.heap.size, len, l.toArray, rfl, Nat.le_refl _, heap_alloc_new w _, Nat.le_refl _, by unfold maxLen; omega, by simp [hl], by simp [← hl]⟩⟩, Nat.le_of_ble_eq_true h0⟩ (fun q hq e => by have := (BA.lt (M.blk q hq).2); omega)
/-- A list is appended to a row of the call's own. What comes of it is known as cells. -/
theorem ow_appL {s x : Operand} {ty e size bytes b m d k cap : Nat} {B : Option Addr} {z : Value} {xs cs : List Value}
    (hinfo : (P.info? e).map (fun i => (i.zero, i.size, i.bytes)) = some (some z, size, bytes)) (M : Mem w0 ex w ((b, .row e size k xs cap) :: L)) (T : Tm a n E)
    (ho : op.op = .call { callee := .builtin .append, args := #[s, x], argTypes := #[ty, ty] }) (hd : op.dst = some t) (hf : freshE E t = true) (hnn : Nat.blt t n = true)
    (h0 : ∀ g (w : World), (Builtin.append_ #[ty, ty] op.type #[.slice (some ⟨g, 0, none⟩) k cap, .slice B 0 d]).run P w = .ok (.slice (some ⟨g, 0, none⟩) k cap) w)
    (ht : P.underlying ty = some (.slice e)) (hzs : z.cells.size = size) (hsz : Nat.blt 0 size = true) (hby : Nat.ble bytes 1000 = true) (hm : k + m ≤ 1000000)
    (hs : a.eval s = .slice (some ⟨b, 0, none⟩) k cap) (hx : a.eval x = .slice B m d) (hr : Rd w w.heap.size size B m cs) (h1 : ∀ u ∈ cs, u.oneCell' = true)
    (h : ∀ g cap' ys w' a', Mem w0 ex w' ((g, .cells ((xs ++ cs) ++ ys)) :: L) → Tm a' n ((t, .slice (some ⟨g, 0, none⟩) (k + m) cap') :: E) → K a' w') : op.wp P a w K Q := by
  have rowC : ∀ {g c : Nat} {zs : List Value} {k' : Nat} {w' : World} {L' : List (Nat × BA)}, Mem w0 ex w' ((g, .row e size k' zs c) :: L') → ∃ ys, Mem w0 ex w' ((g, .cells (zs ++ ys)) :: L') := by
    intro g c zs k' w' L' M'
    obtain ⟨⟨hl, hb⟩, hk⟩ := (M'.blk _ List.mem_cons_self).2
    rcases hb with ⟨hb, _⟩ | ⟨g', cap', cur, e1, _, hg, hc1, hc2, hc3, hc4⟩
    · cases hb
    · injection e1 with e1 _ _
      injection e1 with e1
      injection e1 with e1 _ _
      subst e1
      refine ⟨cur.toList.drop (k' * size), M'.os, M'.tape, M'.output, M'.size, M'.block, ?_, M'.nd⟩
      intro p hp
      rcases List.mem_cons.1 hp with rfl | hp
      · refine ⟨(M'.blk _ List.mem_cons_self).1, ?_⟩
        rw [← hc4, List.take_append_drop]
        exact Bk.of_heap hg
      · exact M'.blk p (List.mem_cons_of_mem _ hp)
  rcases Nat.eq_zero_or_pos m with rfl | hm0
  · obtain rfl : cs = [] := List.eq_nil_of_length_eq_zero (by have := hr.1; omega)
    unfold Oper.wp execOp
    simp only [ho, resolve, invoke, builtin, Sem.run_bind, Sem.run_pure, Result.andThen_ok, List.map_toArray, List.map_cons, List.map_nil, hs, hx, h0]
    obtain ⟨ys, M'⟩ := rowC M
    rw [← List.append_nil xs] at M'
    exact h b cap ys w _ M' (by rw [hd, Nat.add_zero]; exact T.put hnn hf _)
  · obtain ⟨i, hi, hz0, hz1, hz2⟩ := info_parts hinfo
    obtain ⟨g2, o2, rfl, hlt, hc⟩ := hr.cells hm0
    have hby := Nat.le_of_ble_eq_true hby
    have hsz := Nat.le_of_ble_eq_true hsz
    have hbb : (k + m) * bytes ≤ 140737488355328 := by
      have : (k + m) * bytes ≤ 1000000 * 1000 := Nat.mul_le_mul (by omega) hby
      omega
    have hrow := (M.blk _ List.mem_cons_self).2
    refine wp_append_lies w s x ty ho b e i z size bytes ht hi hz0 hz1 hz2 hzs hsz _ k xs hs hrow.1 ⟨g2, o2, none⟩ m d cs hx hr.1 (fun j u hu => by rw [Addr.add_mid]; exact hc j u hu) h1 hm0 (by unfold maxLen; omega) hbb (Nat.le_of_lt (BA.lt hrow)) w.heap.size rfl ?_
    intro g cap' w' hown hgr hat hlt
    have hgr : w.grownBy w' (some b) := hgr
    have hk := hrow.2
    have key : Mem w0 ex w' ((g, .row e size (k + m) (xs ++ cs) cap') :: L) := by
      rcases hat with h2 | h2
      · have h2 : some b = some g := h2
        injection h2 with h2
        subst h2
        exact M.callW (L' := (b, .row e size (k + m) (xs ++ cs) cap') :: L) .head hgr (own_rebase hown (by omega))
      · have M1 := M.callW (L' := (b, .any (fun _ => True)) :: L) .head hgr (by
          have hl0 : b < w'.heap.size := Nat.lt_of_lt_of_le (BA.lt hrow) hgr.size
          exact ⟨w'.heap[b], Array.getElem?_eq_getElem hl0, trivial⟩)
        exact M1.forget.add (by rw [h2]; exact M.size) (own_rebase hown (by omega)) (fun q hq e => by have := BA.lt (M.blk q (List.mem_cons_of_mem _ hq)).2; omega)
    obtain ⟨ys, M'⟩ := rowC key
    exact h g cap' ys w' _ M' (by rw [hd]; exact T.put hnn hf _)
/-- A number is stored into cells that are a list's. -/
theorem ow_stI {ty : TypeId} {x y : Operand} {g k : Nat} {v : Int} {l : List Int} {ys : List Value} {L' : List (Nat × BA)} (M : Mem w0 ex w L) (T : Tm a n E) (ho : op.op = .store ty x y) (hd : op.dst = none) (hx : a.eval x = .pointer (some ⟨g, 0 + k * 1, none⟩)) (hy : a.eval y = .int .i64 v)
    (hu : Upd L g (.cells (ic l ++ ys)) (.cells (ic (l.set k v) ++ ys)) L') (hk : k < l.length) (hi : (P.info? ty).map (·.size) = some 1)
    (h : ∀ w' a', Mem w0 ex w' L' → Tm a' n E → K a' w') : op.wp P a w K Q := by
  refine m_stw (ds := [.int .i64 v]) M ho hx hy rfl hu ?_ (by simp only [List.length_append, List.length_cons, List.length_nil, ic_length]; omega) rfl hi fun w' M' => h w' _ M' (by rw [hd]; exact T)
  rw [Nat.zero_add, Nat.mul_one, List.take_append_of_le_length (by rw [ic_length]; omega), List.drop_append_of_le_length (by rw [ic_length]; simp; omega), ← List.append_assoc]
  congr 1
  unfold ic
  rw [← List.map_take, ← List.map_drop, List.set_eq_take_append_cons_drop, if_pos hk]
  simp
/-- A range is stored into cells that are a list's. -/
theorem ow_stR {ty : TypeId} {x y : Operand} {g k : Nat} {v0 v1 : Int} {l : List (Int × Int)} {ys : List Value} {L' : List (Nat × BA)} (M : Mem w0 ex w L) (T : Tm a n E) (ho : op.op = .store ty x y) (hd : op.dst = none) (hx : a.eval x = .pointer (some ⟨g, 0 + k * 2, none⟩)) (hy : a.eval y = .agg #[.int .i64 v0, .int .i64 v1])
    (hu : Upd L g (.cells (rc l ++ ys)) (.cells (rc (l.set k (v0, v1)) ++ ys)) L') (hk : k < l.length) (hi : (P.info? ty).map (·.size) = some 2)
    (h : ∀ w' a', Mem w0 ex w' L' → Tm a' n E → K a' w') : op.wp P a w K Q := by
  have hc : ∀ (l : List (Int × Int)) (k : Nat), k < l.length → (rc l).take (k * 2) ++ [.int .i64 v0, .int .i64 v1] ++ (rc l).drop (k * 2 + 2) = rc (l.set k (v0, v1)) := by
    intro l
    induction l with
    | nil => intro k hk; simp at hk
    | cons p l ih =>
      intro k hk
      cases k with
      | zero => rfl
      | succ k =>
        have := ih k (by simpa using hk)
        rw [List.set_cons_succ]
        show (Value.int .i64 p.1 :: Value.int .i64 p.2 :: rc l).take ((k + 1) * 2) ++ _ ++ (Value.int .i64 p.1 :: Value.int .i64 p.2 :: rc l).drop ((k + 1) * 2 + 2) = Value.int .i64 p.1 :: Value.int .i64 p.2 :: rc (l.set k (v0, v1))
        rw [show (k + 1) * 2 = k * 2 + 1 + 1 by omega, show k * 2 + 1 + 1 + 2 = k * 2 + 2 + 1 + 1 by omega]
        simp only [List.take_succ_cons, List.drop_succ_cons, List.cons_append]
        rw [this]
  refine m_stw (ds := [.int .i64 v0, .int .i64 v1]) M ho hx hy rfl hu ?_ (by simp only [List.length_append, List.length_cons, List.length_nil, rc_length]; omega) rfl hi fun w' M' => h w' _ M' (by rw [hd]; exact T)
  rw [Nat.zero_add, List.take_append_of_le_length (by rw [rc_length]; omega), List.drop_append_of_le_length (by rw [rc_length]; simp; omega), ← List.append_assoc, ← hc l k hk]
  simp
theorem rn_rem {ty ty' : TypeId} {x y : Operand} {p q : Int} (ho : op.op = .binOp .rem ty x y ty') (hx : a.eval x = .int .i64 p) (hy : a.eval y = .int .i64 q) (hq : q ≠ 0) : Runs P op a (.int .i64 (p.tmod q)) w := by
  refine rn_bin ho hx hy ?_
  rw [eqGuard_rem, binOp_rem]
  unfold Op.intDiv
  rw [if_neg (by simpa using hq)]
  rfl
end
theorem tmod_bd (p : Int) (q : Nat) (h : 0 < q) : -(q : Int) < p.tmod q ∧ p.tmod q < q := by
  have h1 := Int.tmod_lt_of_pos p (b := (q : Int)) (by omega)
  have h2 := Int.tmod_lt_of_pos (-p) (b := (q : Int)) (by omega)
  rw [Int.neg_tmod] at h2
  omega

def Sw (size : Nat) (A : Option Addr) (n b : Nat) (xs : List Value) (I : List (Nat × BA)) : Prop := xs.length = n * size ∧ (n = 0 ∨ (A = some ⟨b, 0, none⟩ ∧ ∃ ys, I = [(b, .cells (xs ++ ys))]))
theorem Sw.sp {w : World} {ex : Nat → Prop} {size n b : Nat} {A : Option Addr} {xs : List Value} {I : List (Nat × BA)} (h : Sw size A n b xs I) : Sp w ex I A n size b 0 xs := by
  obtain ⟨hl, rfl | ⟨rfl, ys, rfl⟩⟩ := h
  · obtain rfl : xs = [] := List.eq_nil_of_length_eq_zero (by omega)
    exact ⟨fun h => absurd h (by omega), by simp, fun _ _ _ _ h => absurd h (by omega), fun _ _ _ _ j u hu => by simp at hu⟩
  · exact Sp.pre hl
theorem Sm.sw {w0 w : World} {ex : Nat → Prop} {L I : List (Nat × BA)} {e size n c : Nat} {A : Option Addr} {xs : List Value} (h : Sm e size A n c xs I) (M : Mem w0 ex w (L ++ I)) : ∃ b I', Sw size A n b xs I' ∧ Mem w0 ex w (L ++ I') := by
  rcases h with ⟨rfl, rfl, rfl, g, rfl, rfl⟩ | ⟨g, rfl, rfl⟩
  · exact ⟨0, _, ⟨by simp, .inl rfl⟩, M⟩
  · have M' := Mem.swapI (I := L) M
    obtain ⟨⟨hl, hb⟩, hk⟩ := (M'.blk _ List.mem_cons_self).2
    rcases hb with ⟨hb, _⟩ | ⟨g', cap', cur, e1, _, hg, hc1, hc2, hc3, hc4⟩
    · cases hb
    · injection e1 with e1 _ _
      injection e1 with e1
      injection e1 with e1 _ _
      subst e1
      refine ⟨g, [(g, .cells (xs ++ cur.toList.drop (n * size)))], ⟨hl, .inr ⟨rfl, _, rfl⟩⟩, Mem.swapI (I := [(g, .cells (xs ++ cur.toList.drop (n * size)))]) (L := L) ⟨M'.os, M'.tape, M'.output, M'.size, M'.block, ?_, M'.nd⟩⟩
      intro p hp
      rcases List.mem_cons.1 hp with rfl | hp
      · refine ⟨(M'.blk _ List.mem_cons_self).1, ?_⟩
        rw [← hc4, List.take_append_drop]
        exact Bk.of_heap hg
      · exact M'.blk p (List.mem_cons_of_mem _ hp)
theorem Upd.app {g : Nat} {p p' : BA} : ∀ (L : List (Nat × BA)), Upd (L ++ [(g, p)]) g p p' (L ++ [(g, p')])
  | [] => .head
  | _ :: L => .tail (Upd.app L)
theorem ow_stT {P : Program} {op : Oper} {a : Act} {K : Act → World → Prop} {Q : Exit → Act → World → Prop} {w0 w : World} {ex : Nat → Prop} {L0 I : List (Nat × BA)} {E : List (Nat × Value)} {n m : Nat} {ty : TypeId} {x y : Operand} {b k : Nat} {A : Option Addr} {v0 v1 : Int} {l : List (Int × Int)} (L1 : List (Nat × BA))
    (M : Mem w0 ex w L0) (hsp : L0 = L1 ++ I) (hS : Sw 2 A m b (rc l) I) (T : Tm a n E) (ho : op.op = .store ty x y) (hd : op.dst = none) (hx : a.eval x = .pointer (some ⟨b, 0 + k * 2, none⟩)) (hy : a.eval y = .agg #[.int .i64 v0, .int .i64 v1])
    (hk : k < l.length) (hi : (P.info? ty).map (·.size) = some 2)
    (h : ∀ I' w' a', Sw 2 A m b (rc (l.set k (v0, v1))) I' → Mem w0 ex w' (L1 ++ I') → Tm a' n E → K a' w') : op.wp P a w K Q := by
  subst hsp
  obtain ⟨hl, rfl | ⟨rfl, ys, rfl⟩⟩ := hS
  · rw [rc_length] at hl; omega
  · refine ow_stR M T ho hd hx hy (Upd.app L1) hk hi fun w' a' M' T' => h _ w' a' ⟨?_, .inr ⟨rfl, ys, rfl⟩⟩ M' T'
    rw [rc_length, List.length_set, ← rc_length]; exact hl

def TurnPost (n : Nat) (w : World) (e : Ending) (w' : World) : Prop := ∃ k : Nat, e = .returned (.int .i64 k) ∧ k < n ∧ Below w.heap.size w w'
theorem turn_bd (x : Int) (n : Nat) (h : 0 < n) : (-(n : Int) < x.tmod n ∧ x.tmod n < n) ∧ 0 ≤ (x.tmod n + n).tmod n ∧ (x.tmod n + n).tmod n < n := by
  have h1 := tmod_bd x n h
  exact ⟨h1, Int.tmod_nonneg _ (by omega), (tmod_bd _ n h).2⟩


set_option maxRecDepth 100000 in
set_option maxHeartbeats 1000000 in
theorem turn_any (x : Int) (n : Nat) (w : World) (h0 : 0 < n) (h9 : n ≤ 1000) :
    Calls Try.prog 52 #[.int .i64 x, .int .i64 (n : Int)] w (TurnPost n w) := by
  have hb := turn_bd x n h0
  refine px_enter noEx Try.func52 rfl 14 rfl [.int .i64 x, .int .i64 (n : Int)] rfl rfl (Mem.init w _) ?_
  intro ac wc T M
  refine wp_seq ?_
  refine wp_region_lit ?_
  refine l_q T rfl rfl rfl rfl (rn_assign rfl evc) ?_; clear T ac; intro ac T
  refine wpList_nil ?_
  replace T := T.pick [1, 2] rfl
  refine nm_then ?_
  refine wp_seq ?_
  refine wp_seq ?_
  refine wp_region_lit ?_
  refine l_q T rfl rfl rfl rfl (rn_move rfl (T.ev 1 rfl)) ?_; clear T ac; intro ac T
  refine l_q T rfl rfl rfl rfl (rn_lss rfl (T.ev 0 rfl) evc) ?_; clear T ac; intro ac T
  refine wpList_nil ?_
  replace T := T.pick [0, 2, 3] rfl
  refine nm_then ?_
  refine wp_if (T.ev 0 rfl) ?_ ?_
  · intro h1
    refine wp_seq ?_
    refine wp_region_lit ?_
    refine l_q T rfl rfl rfl rfl (rn_assign rfl evc) ?_; clear T ac; intro ac T
    refine wpList_nil ?_
    replace T := T.pick [0] rfl
    refine nm_then ?_
    refine wp_ret ?_
    refine rt_then ?_
    refine rt_1 T rfl (T.ev 0 rfl) ?_
    exact ⟨0, rfl, h0, M.below⟩
  · intro h1
    refine wp_skip ?_
    refine nm_then ?_
    refine wp_seq ?_
    refine wp_region_lit ?_
    refine l_q T rfl rfl rfl rfl (rn_move rfl (T.ev 1 rfl)) ?_; clear T ac; intro ac T
    refine l_q T rfl rfl rfl rfl (rn_move rfl (T.ev 3 rfl)) ?_; clear T ac; intro ac T
    refine l_q T rfl rfl rfl rfl (rn_rem rfl (T.ev 1 rfl) (T.ev 0 rfl) (by omega)) ?_; clear T ac; intro ac T
    refine l_q T rfl rfl rfl rfl (rn_move rfl (T.ev 5 rfl)) ?_; clear T ac; intro ac T
    refine l_q T rfl rfl rfl rfl (rn_add rfl (T.ev 1 rfl) (T.ev 0 rfl) (by omega)) ?_; clear T ac; intro ac T
    refine l_q T rfl rfl rfl rfl (rn_move rfl (T.ev 7 rfl)) ?_; clear T ac; intro ac T
    refine l_q T rfl rfl rfl rfl (rn_rem rfl (T.ev 1 rfl) (T.ev 0 rfl) (by omega)) ?_; clear T ac; intro ac T
    refine l_q T rfl rfl rfl rfl (rn_assign rfl (T.ev 0 rfl)) ?_; clear T ac; intro ac T
    refine wpList_nil ?_
    replace T := T.pick [0] rfl
    refine nm_then ?_
    refine wp_ret ?_
    refine rt_1 T rfl (T.ev 0 rfl) ?_
    exact ⟨_, by rw [Int.toNat_of_nonneg hb.2.1], by omega, M.below⟩

def StrokesPost (bp : Nat) (most : Int) (w : World) (e : Ending) (w' : World) : Prop :=
  ∃ (l : List Int) (A : Option Addr) (c : Nat) (s : Int) (I : List (Nat × BA)), e = .returned (.slice A l.length c) ∧ ((l.length : Int) ≤ most ∧ ∀ q ∈ l, q = 1 ∨ q = 2) ∧ u64ok s ∧ Sl 3 1 (.slice A l.length c) l.length (ic l) I ∧ Mem w (fun b => b = bp) w' (I ++ [(bp, .cells [.int .u64 s])])
theorem ic_snoc (l : List Int) (x : Int) : ic l ++ [.int .i64 x] = ic (l ++ [x]) := by simp [ic]


set_option maxRecDepth 100000 in
set_option maxHeartbeats 1000000 in
theorem strokesOf_any (s : Int) (bp : Nat) (most : Int) (w : World) (hm0 : 0 ≤ most) (hm1 : most ≤ 40) (hp : Bk w bp #[.int .u64 s]) (hs : u64ok s) :
    Calls Try.prog 32 #[.pointer (some ⟨bp, 0, none⟩), .int .i64 most] w (StrokesPost bp most w) := by
  refine px_enter (fun b => b = bp) Try.func32 rfl 21 rfl [.pointer (some ⟨bp, 0, none⟩), .int .i64 most] rfl rfl (Mem.initEx (p := .cells [.int .u64 s]) hp) ?_
  intro ac wc T M
  refine wp_seq ?_
  refine wp_region_lit ?_
  refine l_q T rfl rfl rfl rfl (rn_assign rfl evc) ?_; clear T ac; intro ac T
  refine wpList_nil ?_
  replace T := T.pick [1, 2] rfl
  refine nm_then ?_
  refine wp_seq ?_
  refine wp_region_lit ?_
  refine l_q T rfl rfl rfl rfl (rn_assign rfl evc) ?_; clear T ac; intro ac T
  refine wpList_nil ?_
  refine nm_then ?_
  refine wp_seq ?_
  refine wp_seq ?_
  refine wp_region_lit ?_
  refine l_q T rfl rfl rfl rfl (rn_move rfl (T.ev 1 rfl)) ?_; clear T ac; intro ac T
  refine l_q T rfl rfl rfl rfl (rn_move rfl (T.ev 3 rfl)) ?_; clear T ac; intro ac T
  refine l_w rfl ?_; intro K hK
  refine ow_call (first := []) (cap := []) T rfl rfl rfl rfl evf (.cons (T.ev 1 rfl) (.cons (T.ev 0 rfl) .nil)) Try.func28 rfl rfl ?_
  refine Calls.mono (upto_any _ bp most _ (by omega) (by omega) (M.nth 0 rfl) hs) ?_
  clear T
  rintro e wc ⟨xu1, su1, hxu1, hsu1, rfl, hgr, hbk⟩
  intro ac T
  replace M := M.callC (cs' := [.int .u64 su1]) .head hgr hbk
  clear hgr hbk
  refine sh_out hK _ _ ?_; clear hK K
  refine l_q T rfl rfl rfl rfl (rn_assign rfl (T.ev 0 rfl)) ?_; clear T ac; intro ac T
  refine wpList_nil ?_
  replace T := T.pick [0, 4, 5] rfl
  refine nm_then ?_
  refine wp_block ?_
  refine wp_loop_n (fun mz ac wc => ∃ (i : Int) (l : List Int) (A : Option Addr) (c : Nat) (s : Int) (I : List (Nat × BA)), mz = i.toNat ∧ (0 ≤ i) ∧ ((l.length : Int) + i ≤ most) ∧ (∀ q ∈ l, q = 1 ∨ q = 2) ∧ (u64ok s) ∧ (Sl 3 1 (.slice A l.length c) l.length (ic l) I) ∧ Tm ac 21 [(0, .pointer (some ⟨bp, 0, none⟩)), (5, .slice A l.length c), (6, .int .i64 i)] ∧ Mem w (fun b => b = bp) wc ((bp, .cells [.int .u64 s]) :: I)) ?_ ?_
  · exact ⟨_, _, [], none, 0, _, [], rfl, (by omega), (by simp; omega), (fun q hq => by cases hq), hsu1, (Sl.nil _ _), T.pick [2, 1, 0] rfl, M.mask [true] rfl⟩
  · clear T M
    rintro mz ac wc ⟨i, l, A, c, s, I, hmm1, hi, hlen, hq, hs, hsl, T, M⟩
    refine wp_seq ?_
    refine wp_seq ?_
    refine wp_region_lit ?_
    refine l_q T rfl rfl rfl rfl (rn_move rfl (T.ev 2 rfl)) ?_; clear T ac; intro ac T
    refine l_q T rfl rfl rfl rfl (rn_gtr rfl (T.ev 0 rfl) evc) ?_; clear T ac; intro ac T
    refine wpList_nil ?_
    replace T := T.pick [0, 2, 3, 4] rfl
    refine nm_then ?_
    refine wp_if (T.ev 0 rfl) ?_ ?_
    · intro h1
      refine wp_skip ?_
      refine nm_then ?_
      refine wp_seq ?_
      refine wp_block ?_
      refine wp_region_lit ?_
      refine l_q T rfl rfl rfl rfl (rn_move rfl (T.ev 2 rfl)) ?_; clear T ac; intro ac T
      refine l_q T rfl rfl rfl rfl (rn_move rfl (T.ev 2 rfl)) ?_; clear T ac; intro ac T
      refine l_w rfl ?_; intro K hK
      refine ow_bs (e := 3) [.int .i64 1, .int .i64 2] M T rfl rfl rfl rfl (.cons evc (.cons evc .nil)) (fun _ => by kernel_rfl) ?_; clear M T; intro g1 wc ac M T
      refine sh_out hK _ _ ?_; clear hK K
      refine l_w rfl ?_; intro K hK
      refine ow_call (first := []) (cap := []) T rfl rfl rfl rfl evf (.cons (T.ev 1 rfl) (.cons (T.ev 0 rfl) .nil)) Try.func60 rfl rfl ?_
      refine Calls.mono (of_any _ bp _ 2 2 [1, 2] _ (M.rdOwn (nthE_mem (i := 0) rfl) rfl rfl) (M.nee 0 1 rfl rfl rfl) (by decide) (by decide) (M.nth 1 rfl) hs) ?_
      clear T
      rintro e wc ⟨xu2, su2, hxu2, hsu2, rfl, hgr, hbk⟩
      intro ac T
      replace M := M.callC (cs' := [.int .u64 su2]) (.tail .head) hgr hbk
      clear hgr hbk
      simp only [List.mem_cons, List.not_mem_nil, or_false] at hxu2
      refine sh_out hK _ _ ?_; clear hK K
      refine l_w rfl ?_; intro K hK
      refine ow_bs (e := 3) [.int .i64 xu2] M T rfl rfl rfl rfl (.cons (T.ev 0 rfl) .nil) (fun _ => by kernel_rfl) ?_; clear M T; intro g2 wc ac M T
      refine sh_out hK _ _ ?_; clear hK K
      refine l_w rfl ?_; intro K hK
      refine ow_app ([(g2, .cells [.int .i64 xu2]), (g1, .cells [.int .i64 1, .int .i64 2]), (bp, .cells [.int .u64 su2])]) Try.info3 hsl M (by first | rfl | simp) T rfl rfl rfl rfl Try.underlying31 rfl rfl rfl (by omega) (T.ev 4 rfl) (T.ev 0 rfl) (nthE_mem (i := 0) rfl) rfl rfl ?_; clear M T; intro ga1 cga1 wc ac M T
      refine sh_out hK _ _ ?_; clear hK K
      refine l_q (v := (.slice (some ⟨ga1, 0, none⟩) (l.length + 1) cga1)) (T.pick [0, 1, 2, 3, 4, 5, 6, 7, 9] rfl) rfl rfl rfl rfl (rn_assign rfl (T.ev 0 rfl)) ?_; clear T ac; intro ac T
      refine wpList_nil ?_
      replace T := T.pick [0, 8, 9] rfl
      replace M := M.mask [true, false, false, true] rfl
      refine nm_blk ?_
      refine nm_then ?_
      refine wp_region_lit ?_
      refine l_q T rfl rfl rfl rfl (rn_move rfl (T.ev 2 rfl)) ?_; clear T ac; intro ac T
      refine l_q T rfl rfl rfl rfl (rn_sub rfl (T.ev 0 rfl) evc (by omega)) ?_; clear T ac; intro ac T
      refine l_q (v := (.int .i64 (i - 1))) (T.pick [0, 1, 2, 3] rfl) rfl rfl rfl rfl (rn_assign rfl (T.ev 0 rfl)) ?_; clear T ac; intro ac T
      refine wpList_nil ?_
      replace T := T.pick [0, 3, 4] rfl
      refine nm_then ?_
      have e9 : l.length + 1 = (l ++ [xu2]).length := by simp
      rw [e9, ic_snoc] at M
      rw [e9] at T
      clear e9
      exact ⟨_, by omega, (i - 1), (l ++ [xu2]), _, cga1, su2, [(ga1, .row 3 1 (l ++ [xu2]).length (ic (l ++ [xu2])) cga1)], rfl, (by omega), (by simp only [List.length_append, List.length_cons, List.length_nil]; omega), (fun q hq' => by rcases List.mem_append.1 hq' with h9 | h9; exact hq q h9; simp only [List.mem_cons, List.not_mem_nil, or_false] at h9; subst h9; omega), hsu2, (Sl.row _ _ _ _ _ _), T.pick [2, 1, 0] rfl, M.perm [1, 0] rfl rfl⟩
    · intro h1
      refine wp_exit ?_
      refine ex_then ?_
      refine ex_then ?_
      refine ex_hit ?_
      refine nm_then ?_
      refine wp_seq ?_
      refine wp_region_lit ?_
      refine l_q T rfl rfl rfl rfl (rn_move rfl (T.ev 2 rfl)) ?_; clear T ac; intro ac T
      refine l_q T rfl rfl rfl rfl (rn_assign rfl (T.ev 0 rfl)) ?_; clear T ac; intro ac T
      refine wpList_nil ?_
      replace T := T.pick [0] rfl
      refine nm_then ?_
      refine wp_ret ?_
      refine rt_1 T rfl (T.ev 0 rfl) ?_
      exact ⟨l, A, c, _, I, rfl, ⟨by omega, hq⟩, hs, hsl, Mem.swapI (I := [(bp, .cells [.int .u64 s])]) (L := I) (M.mask [true] rfl)⟩

end Go.Proofs.Ythlpceoajhcliaa
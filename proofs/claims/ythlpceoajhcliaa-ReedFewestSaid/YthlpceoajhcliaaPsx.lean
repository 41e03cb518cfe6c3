/-
  Slots by name: a walk in small steps, each by a law of its own (the steps are printed by wip/psx.py).
-/
import Derived.Test.YthlpceoajhcliaaTypes
import Derived.IntWalk
import Derived.LoopN
namespace Go.Proofs.Ythlpceoajhcliaa
set_option linter.unusedSimpArgs false
set_option linter.unusedVariables false
open Go.RowKit

/-- What is known of the slots. -/
structure Tm (a : Act) (n : Nat) (E : List (Nat × Value)) : Prop where
  defers : a.defers = []
  size : a.tmps.size = n
  get : ∀ p ∈ E, a.eval (.tmp p.1) = p.2

def nthE {α : Type} : List α → Nat → Option α
  | [], _ => none
  | x :: _, 0 => some x
  | _ :: l, i + 1 => nthE l i
theorem nthE_mem {α : Type} : ∀ {l : List α} {i : Nat} {x : α}, nthE l i = some x → x ∈ l
  | [], _, _, h => by simp [nthE] at h
  | y :: l, 0, x, h => by simp [nthE] at h; simp [h]
  | y :: l, i + 1, x, h => List.mem_cons_of_mem _ (nthE_mem (l := l) (i := i) (by simpa [nthE] using h))
theorem nthE_get {α : Type} : ∀ {l : List α} {i : Nat} {x : α}, nthE l i = some x → l[i]? = some x
  | [], _, _, h => by simp [nthE] at h
  | y :: l, 0, x, h => by simpa [nthE] using h
  | y :: l, i + 1, x, h => by
    have := nthE_get (l := l) (i := i) (x := x) (by simpa [nthE] using h)
    simpa using this
def freshE : List (Nat × Value) → Nat → Bool
  | [], _ => true
  | p :: l, t => match Nat.beq p.1 t with | true => false | false => freshE l t
theorem freshE_ne : ∀ {l : List (Nat × Value)} {t : Nat}, freshE l t = true → ∀ p ∈ l, p.1 ≠ t
  | [], _, _, p, hp => by cases hp
  | q :: l, t, h, p, hp => by
    unfold freshE at h
    cases hq : Nat.beq q.1 t with
    | true => rw [hq] at h; simp at h
    | false =>
      rw [hq] at h
      rcases List.mem_cons.1 hp with rfl | hp
      · intro e; rw [e] at hq; simp at hq
      · exact freshE_ne (by simpa using h) p hp
def pickE {α : Type} (E : List α) : List Nat → Option (List α)
  | [] => some []
  | i :: r => match nthE E i with
    | none => none
    | some x => match pickE E r with
      | none => none
      | some l => some (x :: l)
theorem pickE_mem {α : Type} {E : List α} : ∀ {is : List Nat} {l : List α}, pickE E is = some l → ∀ x ∈ l, x ∈ E
  | [], l, h, x, hx => by simp [pickE] at h; subst h; cases hx
  | i :: r, l, h, x, hx => by
    unfold pickE at h
    cases h1 : nthE E i with
    | none => rw [h1] at h; cases h
    | some y =>
      rw [h1] at h
      cases h2 : pickE E r with
      | none => rw [h2] at h; cases h
      | some l' =>
        rw [h2] at h
        simp only [Option.some.injEq] at h
        subst h
        rcases List.mem_cons.1 hx with rfl | hx
        · exact nthE_mem h1
        · exact pickE_mem h2 x hx
def maskE {α : Type} : List α → List Bool → List α
  | x :: l, true :: m => x :: maskE l m
  | _ :: l, false :: m => maskE l m
  | l, _ => l
theorem maskE_sub {α : Type} : ∀ (l : List α) (m : List Bool), (maskE l m).Sublist l
  | [], [] => by simp [maskE]
  | [], _ :: _ => by simp [maskE]
  | _ :: _, [] => by simp [maskE]
  | x :: l, true :: m => (maskE_sub l m).cons_cons x
  | x :: l, false :: m => (maskE_sub l m).cons x

section
variable {a : Act} {n t : Nat} {E E' : List (Nat × Value)} {v : Value}
theorem Tm.ev (T : Tm a n E) (i : Nat) {t : Nat} {v : Value} (h : nthE E i = some (t, v)) : a.eval (.tmp t) = v := T.get _ (nthE_mem h)
theorem Tm.pick (T : Tm a n E) (is : List Nat) (h : pickE E is = some E') : Tm a n E' := ⟨T.defers, T.size, fun p hp => T.get p (pickE_mem h p hp)⟩
theorem Tm.as (T : Tm a n E) (h : E = E') : Tm a n E' := h ▸ T
theorem Tm.put (T : Tm a n E) (hn : Nat.blt t n = true) (hf : freshE E t = true) (v : Value) : Tm (a.put (some t) v) n ((t, v) :: E) := by
  have hn : t < n := Nat.le_of_ble_eq_true hn
  refine ⟨T.defers, by simpa [Act.put] using T.size, fun p hp => ?_⟩
  rcases List.mem_cons.1 hp with rfl | hp
  · have := T.size
    simp [Act.put, Act.eval, Array.getD, this, hn]
  · have h1 := freshE_ne hf p hp
    have h2 := T.get p hp
    rw [Act.eval_put (fun d hd e => h1 (by injection hd with hd; injection e with e; rw [hd, e]))]
    exact h2
theorem Tm.put0 (T : Tm a n E) (v : Value) : Tm (a.put none v) n E := T
theorem Tm.undef (T : Tm a n E) (hf : freshE E t = true) (v : Value) : Tm (a.put (some t) v) n E := by
  refine ⟨T.defers, by simpa [Act.put] using T.size, fun p hp => ?_⟩
  have h1 := freshE_ne hf p hp
  rw [Act.eval_put (fun d hd e => h1 (by injection hd with hd; injection e with e; rw [hd, e]))]
  exact T.get p hp
def maskR {α : Type} : List Bool → List α → Option (List α)
  | [], l => some l
  | b :: m, l => match l with
    | [] => some []
    | x :: r => match maskR m r with
      | none => none
      | some q => match b with
        | true => some (x :: q)
        | false => some q
def maskO {α : Type} (l : List α) (m : List Bool) : Option (List α) := maskR m l
theorem maskO_eq {α : Type} : ∀ (l : List α) (m : List Bool), maskO l m = some (maskE l m)
  | [], [] => rfl
  | _ :: _, [] => rfl
  | [], _ :: _ => rfl
  | x :: l, b :: m => by
    have ih : maskR m l = some (maskE l m) := maskO_eq l m
    unfold maskO maskR
    simp only [ih]
    cases b <;> rfl
theorem Mem.mask {w0 w : World} {ex : Nat → Prop} {L L' : List (Nat × BA)} (M : Mem w0 ex w L) (m : List Bool) (h : maskO L m = some L') : Mem w0 ex w L' := by
  rw [maskO_eq] at h
  injection h with h
  exact h ▸ M.sub (maskE_sub L m)
def nodupB : List Nat → Bool
  | [] => true
  | i :: r => !(r.any fun j => Nat.beq i j) && nodupB r
theorem nthE_of {α : Type} : ∀ {l : List α} {i : Nat} {x : α}, l[i]? = some x → nthE l i = some x
  | [], _, _, h => by simp at h
  | y :: l, 0, x, h => by simpa [nthE] using h
  | y :: l, i + 1, x, h => nthE_of (l := l) (i := i) (by simpa using h)
theorem pickE_nd {L : List (Nat × BA)} (hn : (L.map (·.1)).Nodup) : ∀ {is : List Nat} {L' : List (Nat × BA)}, pickE L is = some L' → nodupB is = true → (L'.map (·.1)).Nodup ∧ ∀ x ∈ L', ∃ i ∈ is, nthE L i = some x
  | [], L', h, _ => by simp [pickE] at h; subst h; simp
  | i :: r, L', h, hd => by
    unfold pickE at h
    cases h1 : nthE L i with
    | none => rw [h1] at h; cases h
    | some y =>
      rw [h1] at h
      cases h2 : pickE L r with
      | none => rw [h2] at h; cases h
      | some l' =>
        rw [h2] at h
        simp only [Option.some.injEq] at h
        subst h
        simp only [nodupB, Bool.and_eq_true] at hd
        obtain ⟨h3, h4⟩ := pickE_nd hn h2 hd.2
        refine ⟨List.nodup_cons.2 ⟨fun hm => ?_, h3⟩, fun x hx => ?_⟩
        · obtain ⟨z, hz, e⟩ := List.mem_map.1 hm
          obtain ⟨j, hj, hjz⟩ := h4 z hz
          have a1 := nthE_get h1
          have a2 := nthE_get hjz
          have b1 : (L.map (·.1))[i]? = some y.1 := by rw [List.getElem?_map, a1]; rfl
          have b2 : (L.map (·.1))[j]? = some y.1 := by rw [List.getElem?_map, a2]; show some z.1 = some y.1; rw [e]
          have : i = j := by
            have hi := (List.getElem?_eq_some_iff.1 b1).1
            exact (List.getElem?_inj hi hn).1 (b1.trans b2.symm)
          subst this
          have h5 := hd.1
          simp at h5
          exact absurd rfl (h5 i hj)
        · rcases List.mem_cons.1 hx with rfl | hx
          · exact ⟨i, List.mem_cons_self, h1⟩
          · obtain ⟨j, hj, h6⟩ := h4 x hx
            exact ⟨j, List.mem_cons_of_mem _ hj, h6⟩
theorem Mem.perm {w0 w : World} {ex : Nat → Prop} {L L' : List (Nat × BA)} (M : Mem w0 ex w L) (is : List Nat) (h : pickE L is = some L') (hd : nodupB is = true) : Mem w0 ex w L' :=
  ⟨M.os, M.tape, M.output, M.size, M.block, fun p hp => M.blk p (pickE_mem h p hp), (pickE_nd M.nd h hd).1⟩
def permO {α : Type} (K : List α) : Nat → List α → Option (List α)
  | 0, l => some (K ++ l)
  | k + 1, l => match l with
    | [] => none
    | _ :: r => permO K k r
theorem permO_eq {α : Type} {K : List α} : ∀ {k : Nat} {l L' : List α}, permO K k l = some L' → L' = K ++ l.drop k
  | 0, l, L', h => by simp [permO] at h; simp [h]
  | k + 1, [], L', h => by simp [permO] at h
  | k + 1, _ :: r, L', h => by
    have := permO_eq (k := k) (l := r) (by simpa [permO] using h)
    simpa using this
def allLt (k : Nat) : List Nat → Bool
  | [] => true
  | i :: r => Nat.blt i k && allLt k r
theorem allLt_mem {k : Nat} : ∀ {is : List Nat}, allLt k is = true → ∀ i ∈ is, i < k
  | [], _, i, h => by cases h
  | j :: r, h, i, hi => by
    simp only [allLt, Bool.and_eq_true] at h
    rcases List.mem_cons.1 hi with rfl | hi
    · exact Nat.le_of_ble_eq_true h.1
    · exact allLt_mem h.2 i hi
/-- What is known is put in another order; the rest stays behind it. -/
theorem Mem.permT {w0 w : World} {ex : Nat → Prop} {L L' K : List (Nat × BA)} (M : Mem w0 ex w L) (is : List Nat) (k : Nat) (h : pickE L is = some K) (hd : nodupB is = true) (hk : allLt k is = true) (h' : permO K k L = some L') : Mem w0 ex w L' := by
  have e := permO_eq h'
  subst e
  obtain ⟨n1, n2⟩ := pickE_nd M.nd h hd
  refine ⟨M.os, M.tape, M.output, M.size, M.block, fun p hp => M.blk p ?_, ?_⟩
  · rcases List.mem_append.1 hp with hp | hp
    · exact pickE_mem h p hp
    · exact List.mem_of_mem_drop hp
  · rw [List.map_append]
    refine List.nodup_append.2 ⟨n1, (M.nd.sublist ((List.drop_sublist k L).map _)), fun a ha b hb e => ?_⟩
    obtain ⟨x, hx, rfl⟩ := List.mem_map.1 ha
    obtain ⟨y, hy, rfl⟩ := List.mem_map.1 hb
    obtain ⟨i, hi, hix⟩ := n2 x hx
    have hik := allLt_mem hk i hi
    obtain ⟨j, hj⟩ := List.getElem?_of_mem hy
    rw [List.getElem?_drop] at hj
    have b1 : (L.map (·.1))[i]? = some x.1 := by rw [List.getElem?_map, nthE_get hix]; rfl
    have b2 : (L.map (·.1))[k + j]? = some x.1 := by rw [List.getElem?_map, hj]; show some y.1 = some x.1; rw [e]
    have := (List.getElem?_inj (List.getElem?_eq_some_iff.1 b1).1 M.nd).1 (b1.trans b2.symm)
    omega
theorem Mem.nth {w0 w : World} {ex : Nat → Prop} {L : List (Nat × BA)} {g : Nat} {l : List Value} (M : Mem w0 ex w L) (i : Nat) (h : nthE L i = some (g, .cells l)) : Bk w g l.toArray := M.get (nthE_mem h)
end
theorem evc {a : Act} {v : Value} : a.eval (.const v) = v := rfl
theorem evf {a : Act} {f : FuncId} : a.eval (.func f) = .func (.func f) #[] #[] := rfl
/-- Operands' values. -/
inductive EvL (a : Act) : List Operand → List Value → Prop
  | nil : EvL a [] []
  | cons {x v xs vs} : a.eval x = v → EvL a xs vs → EvL a (x :: xs) (v :: vs)
theorem EvL.map {a : Act} {xs : List Operand} {vs : List Value} (h : EvL a xs vs) : xs.map a.eval = vs := by
  induction h with
  | nil => rfl
  | cons h _ ih => simp [h, ih]
inductive EvP (a : Act) : List (Nat × Operand) → List (Nat × Value) → Prop
  | nil : EvP a [] []
  | cons {i x v xs vs} : a.eval x = v → EvP a xs vs → EvP a ((i, x) :: xs) ((i, v) :: vs)
theorem EvP.map {a : Act} {xs : List (Nat × Operand)} {vs : List (Nat × Value)} (h : EvP a xs vs) : xs.map (fun p => (p.1, a.eval p.2)) = vs := by
  induction h with
  | nil => rfl
  | cons h _ ih => simp [h, ih]

section
variable {P : Program} {ops : Array Oper} {rest : List Oper} {op : Oper} {a : Act} {Q : Exit → Act → World → Prop} {w0 w : World} {ex : Nat → Prop} {L : List (Nat × BA)} {K : Act → World → Prop} {n t : Nat} {E : List (Nat × Value)} {v : Value}

/-! What is quiet: the operation yields v and leaves the world. -/
abbrev Runs (P : Program) (op : Oper) (a : Act) (v : Value) (w : World) : Prop := (execOp a.eval op).run P w = .ok (.value v) w
theorem rn_move {x : Operand} (ho : op.op = .move x) (hx : a.eval x = v) : Runs P op a v w := by unfold Runs execOp; simp only [ho, hx, Sem.run_pure]
theorem rn_assign {x : Operand} (ho : op.op = .assign x) (hx : a.eval x = v) : Runs P op a v w := by unfold Runs execOp; simp only [ho, hx, Sem.run_pure]
theorem rn_pick1 {c x y : Operand} {b : Bool} (ho : op.op = .pick c x y) (hc : a.eval c = .bool b) (hb : b = true) (hx : a.eval x = v) : Runs P op a v w := by
  subst hb; unfold Runs execOp; simp [ho, hc, hx, asBool]
theorem rn_pick0 {c x y : Operand} {b : Bool} (ho : op.op = .pick c x y) (hc : a.eval c = .bool b) (hb : b = false) (hx : a.eval y = v) : Runs P op a v w := by
  subst hb; unfold Runs execOp; simp [ho, hc, hx, asBool]
/-- .. by what an instruction does. -/
theorem rn_bin {o : BinOp} {t t' : TypeId} {x y : Operand} {u u' : Value} (ho : op.op = .binOp o t x y t') (hx : a.eval x = u) (hy : a.eval y = u') (hr : (do eqGuard o t x y u u'; binOp o t u u' : Sem Value).run P w = .ok v w) : Runs P op a v w := by
  unfold Runs execOp
  simp only [ho, hx, hy]
  rw [Sem.run_bind, hr]
  rfl
theorem rn_add {t t' : TypeId} {x y : Operand} {p q : Int} (ho : op.op = .binOp .add t x y t') (hx : a.eval x = .int .i64 p) (hy : a.eval y = .int .i64 q) (hb : -9223372036854775808 ≤ p + q ∧ p + q ≤ 9223372036854775807) : Runs P op a (.int .i64 (p + q)) w :=
  rn_bin ho hx hy (by show Result.ok (Value.int .i64 (IntKind.i64.wrap (p + q))) w = _; rw [IntWalk.i64_in _ hb])
theorem rn_sub {t t' : TypeId} {x y : Operand} {p q : Int} (ho : op.op = .binOp .sub t x y t') (hx : a.eval x = .int .i64 p) (hy : a.eval y = .int .i64 q) (hb : -9223372036854775808 ≤ p - q ∧ p - q ≤ 9223372036854775807) : Runs P op a (.int .i64 (p - q)) w :=
  rn_bin ho hx hy (by show Result.ok (Value.int .i64 (IntKind.i64.wrap (p - q))) w = _; rw [IntWalk.i64_in _ hb])
theorem rn_mul {t t' : TypeId} {x y : Operand} {p q : Int} (ho : op.op = .binOp .mul t x y t') (hx : a.eval x = .int .i64 p) (hy : a.eval y = .int .i64 q) (hb : -9223372036854775808 ≤ p * q ∧ p * q ≤ 9223372036854775807) : Runs P op a (.int .i64 (p * q)) w :=
  rn_bin ho hx hy (by show Result.ok (Value.int .i64 (IntKind.i64.wrap (p * q))) w = _; rw [IntWalk.i64_in _ hb])
theorem rn_lss {k : IntKind} {t t' : TypeId} {x y : Operand} {p q : Int} (ho : op.op = .binOp .lss t x y t') (hx : a.eval x = .int k p) (hy : a.eval y = .int k q) : Runs P op a (.bool (decide (p < q))) w :=
  rn_bin ho hx hy (by cases k <;> rfl)
theorem rn_leq {k : IntKind} {t t' : TypeId} {x y : Operand} {p q : Int} (ho : op.op = .binOp .leq t x y t') (hx : a.eval x = .int k p) (hy : a.eval y = .int k q) : Runs P op a (.bool (decide (p ≤ q))) w :=
  rn_bin ho hx hy (by cases k <;> rfl)
theorem rn_gtr {k : IntKind} {t t' : TypeId} {x y : Operand} {p q : Int} (ho : op.op = .binOp .gtr t x y t') (hx : a.eval x = .int k p) (hy : a.eval y = .int k q) : Runs P op a (.bool (decide (q < p))) w :=
  rn_bin ho hx hy (by cases k <;> rfl)
theorem rn_geq {k : IntKind} {t t' : TypeId} {x y : Operand} {p q : Int} (ho : op.op = .binOp .geq t x y t') (hx : a.eval x = .int k p) (hy : a.eval y = .int k q) : Runs P op a (.bool (decide (q ≤ p))) w :=
  rn_bin ho hx hy (by cases k <;> rfl)
theorem rn_eql {k : IntKind} {t t' : TypeId} {x y : Operand} {p q : Int} (ho : op.op = .binOp .eql t x y t') (hx : a.eval x = .int k p) (hy : a.eval y = .int k q) : Runs P op a (.bool (decide (p = q))) w :=
  rn_bin ho hx hy (by cases k <;> rfl)
theorem neq_dec (p q : Int) : (p != q) = !decide (p = q) := by by_cases h : p = q <;> simp [h]
theorem rn_neq {k : IntKind} {t t' : TypeId} {x y : Operand} {p q : Int} (ho : op.op = .binOp .neq t x y t') (hx : a.eval x = .int k p) (hy : a.eval y = .int k q) : Runs P op a (.bool (!decide (p = q))) w :=
  rn_bin ho hx hy (by rw [← neq_dec]; cases k <;> rfl)
theorem rn_not {t : TypeId} {x : Operand} {p : Bool} (ho : op.op = .unOp .not t x) (hx : a.eval x = .bool p) : Runs P op a (.bool (!p)) w := by
  unfold Runs execOp; simp only [ho, hx]; rfl
theorem rn_neg {t : TypeId} {x : Operand} {p : Int} (ho : op.op = .unOp .neg t x) (hx : a.eval x = .int .i64 p) (hb : -9223372036854775808 ≤ -p ∧ -p ≤ 9223372036854775807) : Runs P op a (.int .i64 (-p)) w := by
  unfold Runs execOp
  simp only [ho, hx]
  show Result.ok (Next.value (Value.int .i64 (IntKind.i64.wrap (0 - p)))) w = _
  rw [IntWalk.i64_in _ (by omega), Int.zero_sub]
theorem rn_fieldAddr {s : TypeId} {x : Operand} {f g o off : Nat} (ho : op.op = .fieldAddr s x f) (hx : a.eval x = .pointer (some ⟨g, o, none⟩))
    (hr : ∀ (g o : Nat) (w : World), (Instr.fieldAt s (.pointer (some ⟨g, o, none⟩)) f).run P w = .ok (.pointer (some ⟨g, o + off, none⟩)) w) : Runs P op a (.pointer (some ⟨g, o + off, none⟩)) w := by
  unfold Runs execOp
  simp only [ho, hx]
  rw [Sem.run_bind, hr]
  rfl
theorem rn_field {s : TypeId} {x : Operand} {f : Nat} {u : Value} (ho : op.op = .field s x f) (hx : a.eval x = u) (hr : (Instr.field s u f).run P w = .ok v w) : Runs P op a v w := by
  unfold Runs execOp
  simp only [ho, hx]
  rw [Sem.run_bind, hr]
  rfl
theorem rn_indexAddr {s : TypeId} {x y : Operand} {g o size m c : Nat} {i : Int} {A : Option Addr} (k : Nat) (ho : op.op = .indexAddr s x y) (hx : a.eval x = .slice A m c) (hy : a.eval y = .int .i64 i)
    (hu : ∃ e, P.underlying s = some (.slice e) ∧ (P.info? e).map (·.size) = some size) (hk : i = (k : Int)) (hm : k < m) (hA : A = some ⟨g, o, none⟩) : Runs P op a (.pointer (some ⟨g, o + k * size, none⟩)) w := by
  subst hA
  obtain ⟨e, hu, he⟩ := hu
  subst hk
  unfold Runs execOp
  simp only [ho, hx, hy]
  cases hi : P.info? e with
  | none => rw [hi] at he; simp at he
  | some inf =>
    rw [hi] at he
    simp at he
    have hm' : (k : Int) < (m : Int) := by omega
    simp [Instr.indexAt, asIntOf, Sem.run_bind, run_underlying, hu, sizeOf, typeInfo, hi, he, Addr.add, hm]
theorem rn_extract {x : Operand} {i : Nat} {vs : List Value} (ho : op.op = .extract x i) (hx : a.eval x = .tuple vs.toArray) (hv : nthE vs i = some v) : Runs P op a v w := by
  unfold Runs execOp
  simp only [ho, hx]
  have : vs.toArray[i]? = some v := by rw [List.getElem?_toArray]; exact nthE_get hv
  simp [Instr.extract, this]
theorem rn_build {ty : TypeId} {parts : List (Nat × Operand)} {vs : List (Nat × Value)} (ho : op.op = .build ty parts.toArray) (hv : EvP a parts vs) (hr : ∀ w : World, (Instr.build ty vs.toArray).run P w = .ok v w) : Runs P op a v w := by
  unfold Runs execOp
  simp only [ho]
  have e : (parts.toArray.map fun x => (x.1, a.eval x.2)) = vs.toArray := by simp [← hv.map]
  have e2 : (parts.toArray.map fun (i, x) => (i, a.eval x)) = vs.toArray := e
  rw [Sem.run_bind, e2, hr]
  rfl
theorem rn_lenS {x : Operand} {A : Option Addr} {m c : Nat} {ty e : TypeId} (ho : op.op = .call { callee := .builtin .len, args := #[x], argTypes := #[ty] }) (hu : P.underlying ty = some (.slice e)) (hx : a.eval x = .slice A m c) : Runs P op a (.int .i64 (m : Int)) w := by
  unfold Runs execOp
  simp [ho, resolve, invoke, builtin, hx, Builtin.len_, Sem.run_bind, run_underlying, hu, goInt]
theorem rn_lenT {x : Operand} {s : ByteArray} {ty : TypeId} (ho : op.op = .call { callee := .builtin .len, args := #[x], argTypes := #[ty] }) (hu : P.underlying ty = some .string) (hx : a.eval x = .string s) : Runs P op a (.int .i64 (s.size : Int)) w := by
  unfold Runs execOp
  simp [ho, resolve, invoke, builtin, hx, Builtin.len_, Sem.run_bind, run_underlying, hu, goInt]
theorem maxI (p q : Int) : (if p < q then q else p) = max p q := by rw [Int.max_def]; split <;> split <;> omega
theorem minI (p q : Int) : (if q < p then q else p) = min p q := by rw [Int.min_def]; split <;> split <;> omega
theorem rn_max2 {ts : Array TypeId} {x y : Operand} {p q : Int} (ho : op.op = .call { callee := .builtin .max, args := #[x, y], argTypes := ts }) (hx : a.eval x = .int .i64 p) (hy : a.eval y = .int .i64 q) : Runs P op a (.int .i64 (max p q)) w := by
  unfold Runs execOp
  simp [ho, resolve, invoke, builtin, hx, hy, Builtin.max_, Builtin.max2, Sem.run_bind, maxI]
theorem rn_min2 {ts : Array TypeId} {x y : Operand} {p q : Int} (ho : op.op = .call { callee := .builtin .min, args := #[x, y], argTypes := ts }) (hx : a.eval x = .int .i64 p) (hy : a.eval y = .int .i64 q) : Runs P op a (.int .i64 (min p q)) w := by
  unfold Runs execOp
  simp [ho, resolve, invoke, builtin, hx, hy, Builtin.min_, Builtin.min2, Sem.run_bind, minI]
theorem rn_max3 {ts : Array TypeId} {x y z : Operand} {p q r : Int} (ho : op.op = .call { callee := .builtin .max, args := #[x, y, z], argTypes := ts }) (hx : a.eval x = .int .i64 p) (hy : a.eval y = .int .i64 q) (hz : a.eval z = .int .i64 r) : Runs P op a (.int .i64 (max (max p q) r)) w := by
  unfold Runs execOp
  simp [ho, resolve, invoke, builtin, hx, hy, hz, Builtin.max_, Builtin.max2, Sem.run_bind, maxI]
theorem rn_min3 {ts : Array TypeId} {x y z : Operand} {p q r : Int} (ho : op.op = .call { callee := .builtin .min, args := #[x, y, z], argTypes := ts }) (hx : a.eval x = .int .i64 p) (hy : a.eval y = .int .i64 q) (hz : a.eval z = .int .i64 r) : Runs P op a (.int .i64 (min (min p q) r)) w := by
  unfold Runs execOp
  simp [ho, resolve, invoke, builtin, hx, hy, hz, Builtin.min_, Builtin.min2, Sem.run_bind, minI]

def sliceO {α : Type} : Nat → Nat → List α → Option (List α)
  | _, 0, _ => some []
  | _, _ + 1, [] => none
  | 0, n + 1, x :: r => match sliceO 0 n r with
    | none => none
    | some q => some (x :: q)
  | o + 1, n + 1, _ :: r => sliceO o (n + 1) r
theorem sliceO_eq {α : Type} : ∀ {o n : Nat} {l ds : List α}, sliceO o n l = some ds → n ≠ 0 → (l.drop o).take n = ds ∧ o + n ≤ l.length
  | o, 0, l, ds, h, hn => absurd rfl hn
  | o, n + 1, [], ds, h, _ => by cases o <;> simp [sliceO] at h
  | 0, 1, x :: r, ds, h, _ => by simp [sliceO] at h; subst h; simp
  | 0, n + 2, x :: r, ds, h, _ => by
    unfold sliceO at h
    cases h2 : sliceO 0 (n + 1) r with
    | none => rw [h2] at h; cases h
    | some q =>
      rw [h2] at h
      simp only [Option.some.injEq] at h
      obtain ⟨h3, h4⟩ := sliceO_eq h2 (by simp)
      subst h
      subst h3
      simp only [List.drop_zero, List.length_cons] at h4 ⊢
      exact ⟨by simp, by omega⟩
  | o + 1, n + 1, x :: r, ds, h, _ => by
    unfold sliceO at h
    obtain ⟨h3, h4⟩ := sliceO_eq h (by simp)
    simp only [List.length_cons, List.drop_succ_cons]
    exact ⟨h3, by omega⟩
theorem rn_rowO {ty : TypeId} {m : Nat} [hT : RowTy P ty (m + 1)] {x : Operand} {g o : Nat} {cs ds : List Value} (hB : Bk w g cs.toArray) (ho : op.op = .load ty x) (hx : a.eval x = .pointer (some ⟨g, o, none⟩)) (hd : sliceO o (m + 1) cs = some ds) : Runs P op a (.agg ds.toArray) w := by
  obtain ⟨h1, h2⟩ := sliceO_eq hd (by simp)
  exact rn_row hB ho hx h1 (by rw [Nat.ble_eq]; exact h2)
theorem rn_cell {ty : TypeId} [OneTy P ty] {x : Operand} {p : Addr} (hc : w.cell? p = some v) (ho : op.op = .load ty x) (hx : a.eval x = .pointer (some p)) : Runs P op a v w := by
  obtain ⟨d, hu, hr⟩ := OneTy.one (P := P) (t := ty)
  have ha : (isAgg ty).run P w = .ok false w := by
    unfold isAgg
    simp only [Sem.run_bind, run_underlying hu, Result.andThen_ok]
    cases d <;> first | rfl | (simp [TypeDesc.isRow] at hr)
  unfold Runs execOp
  simp only [ho, hx, Instr.loadAt, Instr.sureAddr, Sem.run_bind, Sem.run_pure, Result.andThen_ok]
  unfold loadVar
  simp only [Sem.run_bind, ha, Result.andThen_ok]
  simp [load, Sem.run, hc]
theorem rn_rowat {ty : TypeId} {m : Nat} [hT : RowTy P ty m] {x : Operand} {g o : Nat} {ds : List Value} (hc : w.rangeAt g o ds) (ho : op.op = .load ty x) (hx : a.eval x = .pointer (some ⟨g, o, none⟩)) (hm : ds.length = m) : Runs P op a (.agg ds.toArray) w := by
  obtain ⟨d, hu, hr⟩ := hT.row
  have := run_loadVar_mid w g o ty ds d hc hu hr (by rw [hm]; exact hT.size)
  unfold Runs execOp
  simp only [ho, hx, Instr.loadAt, Instr.sureAddr, Sem.run_bind, Sem.run_pure, Result.andThen_ok, this]
theorem rn_ofI {k : IntKind} {p q : Int} (h : Runs P op a (.int k p) w) (e : p = q) : Runs P op a (.int k q) w := e ▸ h
theorem rn_neqof {b : Bool} (h : Runs P op a (.bool b) w) {c : Bool} (e : b = c) : Runs P op a (.bool c) w := e ▸ h

/-! Whether an operation is wanted. -/
theorem wanted_yes {j : Nat} {c : Bool} {b : Bool} (hg : op.guard = some (j, c)) (hj : (ops[j]?).bind (·.dst) = some t) (he : a.eval (.tmp t) = .bool b) (hb : b = c) : Region.wanted op (yielded ops a.tmps) = true := by
  subst hb
  have : a.tmps[t]? = some (.bool b) := by
    have he : a.tmps.getD t undef = .bool b := he
    cases h : a.tmps[t]? with
    | none => simp [h, undef] at he
    | some x => simp [h] at he; rw [he]
  simp [Region.wanted, hg, yielded, hj, this]
theorem wanted_un {j : Nat} {c : Bool} (hg : op.guard = some (j, c)) (hj : (ops[j]?).bind (·.dst) = some t) (he : a.eval (.tmp t) = undef) : Region.wanted op (yielded ops a.tmps) = false := by
  have he : a.tmps.getD t undef = undef := he
  have : yielded ops a.tmps j = none := by
    unfold yielded
    rw [hj]
    simp only [Option.bind_some]
    cases h : a.tmps[t]? with
    | none => rfl
    | some x => simp [h] at he; rw [he]; rfl
  simp only [Region.wanted, hg, this]
  rfl
theorem wanted_no {j : Nat} {c : Bool} {b : Bool} (hg : op.guard = some (j, c)) (hj : (ops[j]?).bind (·.dst) = some t) (he : a.eval (.tmp t) = .bool b) (hb : b = !c) : Region.wanted op (yielded ops a.tmps) = false := by
  subst hb
  have : a.tmps[t]? = some (.bool !c) := by
    have he : a.tmps.getD t undef = .bool !c := he
    cases h : a.tmps[t]? with
    | none => simp [h, undef] at he
    | some x => simp [h] at he; rw [he]
  simp only [Region.wanted, hg, yielded, hj, Option.bind_some, this]
  cases c <;> rfl

/-! Steps in the order of the text. -/
theorem l_q (T : Tm a n E) (hw : Region.wanted op (yielded ops a.tmps) = true) (hd : op.dst = some t) (hf : freshE E t = true) (hn : Nat.blt t n = true) (hr : Runs P op a v w)
    (h : ∀ a', Tm a' n ((t, v) :: E) → wpList P ops Q rest a' w) : wpList P ops Q (op :: rest) a w :=
  wpList_wanted hw fun _ hK => by
    unfold Oper.wp
    unfold Runs at hr
    rw [hr, Oper.upon_value, hd]
    exact hK _ _ (h _ (T.put hn hf v))
theorem l_pass (T : Tm a n E) (hw : Region.wanted op (yielded ops a.tmps) = false) (hd : op.dst = some t) (hf : freshE E t = true) (hn : Nat.blt t n = true) (h : ∀ a', Tm a' n ((t, undef) :: E) → wpList P ops Q rest a' w) : wpList P ops Q (op :: rest) a w :=
  wpList_step fun K hK => by
    rw [if_neg (by rw [hw]; simp), hd]
    exact hK _ _ (h _ (T.put hn hf _))
theorem l_pass0 (T : Tm a n E) (hw : Region.wanted op (yielded ops a.tmps) = false) (hd : op.dst = none) (h : ∀ a', Tm a' n E → wpList P ops Q rest a' w) : wpList P ops Q (op :: rest) a w :=
  wpList_step fun K hK => by
    rw [if_neg (by rw [hw]; simp), hd]
    exact hK _ _ (h _ T)
theorem l_w (hw : Region.wanted op (yielded ops a.tmps) = true) (h : ∀ K : Act → World → Prop, Shut (∀ a w, wpList P ops Q rest a w → K a w) → op.wp P a w K Q) : wpList P ops Q (op :: rest) a w :=
  wpList_wanted hw fun K hK => h K hK

/-! What writes or makes memory, or calls. -/
theorem ow_al {ty : TypeId} {l : List Value} [ZeroTy P ty l] (M : Mem w0 ex w L) (T : Tm a n E) (ho : op.op = .alloc ty) (hd : op.dst = some t) (hf : freshE E t = true) (hn : Nat.blt t n = true)
    (h : ∀ g w' a', Mem w0 ex w' ((g, .cells l) :: L) → Tm a' n ((t, .pointer (some ⟨g, 0, none⟩)) :: E) → K a' w') : op.wp P a w K Q :=
  m_alw M ho fun g w' M' => h g w' _ M' (by rw [hd]; exact T.put hn hf _)
theorem ow_bx {ty : TypeId} {x : Operand} {l : List Value} (M : Mem w0 ex w L) (T : Tm a n E) (ho : op.op = .box ty x) (hd : op.dst = some t) (hf : freshE E t = true) (hn : Nat.blt t n = true) (hx : a.eval x = v) (hv : v.cells = l.toArray)
    (h : ∀ g w' a', Mem w0 ex w' ((g, .cells l) :: L) → Tm a' n ((t, .pointer (some ⟨g, 0, none⟩)) :: E) → K a' w') : op.wp P a w K Q := by
  unfold Oper.wp execOp
  simp only [ho, hx, Instr.box, Sem.run_bind, Sem.run_pure, Result.andThen_ok, newVar, newRow, run_newObj_alloc, hv]
  exact h _ _ _ (M.new l ty) (by rw [hd]; exact T.put hn hf _)
theorem ow_st {ty : TypeId} {x y : Operand} {g o : Nat} {cs ds : List Value} {L' : List (Nat × BA)} (cs' : List Value) (M : Mem w0 ex w L) (T : Tm a n E) (ho : op.op = .store ty x y) (hd : op.dst = none) (hx : a.eval x = .pointer (some ⟨g, o, none⟩)) (hy : a.eval y = v) (hv : v.cells = ds.toArray)
    (hu : Upd L g (.cells cs) (.cells cs') L') (hc : cs.take o ++ ds ++ cs.drop (o + ds.length) = cs') (hs : Nat.ble (o + ds.length) cs.length = true) (h1 : ds.all (·.oneCell') = true) (hi : (P.info? ty).map (·.size) = some ds.length)
    (h : ∀ w' a', Mem w0 ex w' L' → Tm a' n E → K a' w') : op.wp P a w K Q :=
  m_stw M ho hx hy hv hu hc (Nat.le_of_ble_eq_true hs) h1 hi fun w' M' => h w' _ M' (by rw [hd]; exact T)

theorem ow_bs {ty len e : TypeId} {parts : List (Nat × Operand)} {vs : List (Nat × Value)} (l : List Value) (M : Mem w0 ex w L) (T : Tm a n E) (ho : op.op = .buildSlice ty len parts.toArray) (hd : op.dst = some t) (hf : freshE E t = true) (hn : Nat.blt t n = true) (hv : EvP a parts vs)
    (hr : ∀ w : World, (Instr.buildSlice ty len vs.toArray).run P w = .ok (.slice (some ⟨w.heap.size, 0, none⟩) len len) (w.alloc (.cells l.toArray e)))
    (h : ∀ g w' a', Mem w0 ex w' ((g, .cells l) :: L) → Tm a' n ((t, .slice (some ⟨g, 0, none⟩) len len) :: E) → K a' w') : op.wp P a w K Q := by
  unfold Oper.wp execOp
  simp only [ho]
  have e : (parts.toArray.map fun x => (x.1, a.eval x.2)) = vs.toArray := by simp [← hv.map]
  have e2 : (parts.toArray.map fun (i, x) => (i, a.eval x)) = vs.toArray := e
  rw [Sem.run_bind, e2, hr]
  exact h _ _ _ (M.new l _) (by rw [hd]; exact T.put hn hf _)
def storeO {α : Type} : List α → Nat → List α → Option (List α)
  | l, _, [] => some l
  | [], _, _ :: _ => none
  | _ :: r, 0, d :: ds => match storeO r 0 ds with
    | none => none
    | some q => some (d :: q)
  | x :: r, o + 1, d :: ds => match storeO r o (d :: ds) with
    | none => none
    | some q => some (x :: q)
theorem storeO_eq {α : Type} : ∀ {l : List α} {o : Nat} {ds l' : List α}, storeO l o ds = some l' → ds ≠ [] → o + ds.length ≤ l.length ∧ l' = l.take o ++ ds ++ l.drop (o + ds.length)
  | l, o, [], l', h, hn => absurd rfl hn
  | [], o, d :: ds, l', h, _ => by simp [storeO] at h
  | x :: r, 0, [d], l', h, _ => by
    cases r with
    | nil => simp [storeO] at h; subst h; simp
    | cons y r => simp [storeO] at h; subst h; simp
  | x :: r, 0, d :: d2 :: ds, l', h, _ => by
    unfold storeO at h
    cases h2 : storeO r 0 (d2 :: ds) with
    | none => rw [h2] at h; cases h
    | some q =>
      rw [h2] at h
      simp only [Option.some.injEq] at h
      obtain ⟨h3, h4⟩ := storeO_eq h2 (by simp)
      subst h
      subst h4
      simp only [List.length_cons] at h3 ⊢
      refine ⟨by omega, ?_⟩
      simp only [List.take_zero, List.nil_append, Nat.zero_add, List.cons_append, List.drop_succ_cons, List.length_cons]
  | x :: r, o + 1, d :: ds, l', h, _ => by
    unfold storeO at h
    cases h2 : storeO r o (d :: ds) with
    | none => rw [h2] at h; cases h
    | some q =>
      rw [h2] at h
      simp only [Option.some.injEq] at h
      obtain ⟨h3, h4⟩ := storeO_eq h2 (by simp)
      subst h
      subst h4
      simp only [List.length_cons] at h3 ⊢
      refine ⟨by omega, ?_⟩
      rw [show o + 1 + (ds.length + 1) = (o + (ds.length + 1)) + 1 by omega]
      simp only [List.take_succ_cons, List.cons_append, List.drop_succ_cons]
theorem ow_stO {ty : TypeId} {x y : Operand} {g o : Nat} {cs ds cs' : List Value} {L' : List (Nat × BA)} (M : Mem w0 ex w L) (T : Tm a n E) (ho : op.op = .store ty x y) (hd : op.dst = none) (hx : a.eval x = .pointer (some ⟨g, o, none⟩)) (hy : a.eval y = v) (hv : v.cells = ds.toArray)
    (hu : Upd L g (.cells cs) (.cells cs') L') (hc : storeO cs o ds = some cs') (hne : ds ≠ []) (h1 : ds.all (·.oneCell') = true) (hi : (P.info? ty).map (·.size) = some ds.length)
    (h : ∀ w' a', Mem w0 ex w' L' → Tm a' n E → K a' w') : op.wp P a w K Q := by
  obtain ⟨h2, h3⟩ := storeO_eq hc hne
  exact m_stw M ho hx hy hv hu h3.symm h2 h1 hi fun w' M' => h w' _ M' (by rw [hd]; exact T)
def RetK (next : Value → World → Prop) : Ending → World → Prop
  | .returned v, w => next v w
  | _, _ => False
theorem ow_call {x : Operand} {xs : List Operand} {ts : Array TypeId} {f : FuncId} {first cap vs : List Value} {fn : Func} (T : Tm a n E) (ho : op.op = .call { callee := .value x, args := xs.toArray, argTypes := ts }) (hd : op.dst = some t) (hf : freshE E t = true) (hn : Nat.blt t n = true)
    (hx : a.eval x = .func (.func f) first.toArray cap.toArray) (hv : EvL a xs vs) (hfn : P.funcs[f]? = some fn) (hnm : (fn.name == "runtime.NumGoroutine") = false) (hb : fn.body.isNone = false)
    (h : Calls P f (first ++ vs ++ cap).toArray w (RetK fun v w' => ∀ a', Tm a' n ((t, v) :: E) → K a' w')) : op.wp P a w K Q := by
  have e : (xs.toArray.map a.eval) = vs.toArray := by simp [← hv.map]
  have hrun : (execOp a.eval op).run P w = .ok (.enter f (first ++ vs ++ cap).toArray) w := by
    have hne : fn.name ≠ "runtime.NumGoroutine" := by simpa using hnm
    have hb2 : fn.body ≠ none := fun h => by rw [h] at hb; cases hb
    unfold execOp
    simp [ho, resolve, invoke, Deferred.ofValue, hx, hv.map, callFunc, hfn, hb2, hne, Sem.run_bind]
  unfold Oper.wp
  rw [hrun, Oper.upon_enter]
  refine h.mono fun e w' hh => ?_
  cases e with
  | returned v => exact (hd ▸ hh _ (T.put hn hf v) : K (a.put op.dst v) w')
  | panicked c => exact hh.elim
  | outgrown => exact hh.elim

/-! Steps of a region whose order is drawn. -/
def pbits : Nat → Nat → Array Bool := fun n m => ((List.range n).map fun i => m.testBit i).toArray
section
variable {S : Array Bool → World → Prop} {fuel : Nat} {l l' : Array Bool} {i : Nat} {oi : Oper}
theorem wpAnyS_more {S' : Array Bool → World → Prop} (hm : ∀ L w, S' L w → S L w) : ∀ (fuel : Nat) (listed : Array Bool) (a : Act) (w : World), wpAnyS P ops Q S' fuel listed a w → wpAnyS P ops Q S fuel listed a w
  | 0, _, _, _, h => h
  | fuel + 1, _, _, _, h => ⟨h.1, fun i hi => wpOp_mono (fun a' w' h' => ⟨hm _ _ h'.1, wpAnyS_more hm fuel _ a' w' h'.2⟩) (h.2 i hi)⟩
theorem g_start (S : Array Bool → World → Prop) (m : Nat) {id : Nat} (hm : P.follows .mixedOrders = true) (hn : ops.size = m) (hz : Array.replicate m false = pbits m 0) (hS : S (pbits m 0) w.drew)
    (h : wpG P ops Q S m (pbits m 0) a w.drew) : (Code.region id ops true).wp P Q a w := by
  subst hn
  rw [← hz] at hS h
  exact wp_region_any hm (wpAny_of_S _ _ _ _ (h DC.start hS))
theorem g_add (p : Array Bool → World → Prop) (h0 : p l w) (h : wpG P ops Q (fun L W => p L W ∧ S L W) fuel l a w) : wpG P ops Q S fuel l a w :=
  fun hD hS => wpAnyS_more (fun _ _ h => h.2) _ _ _ _ (h hD ⟨h0, hS⟩)
/-- Conditions on the worlds that may come: memory is known; it is as long as number s has not come up. -/
def MU (w0 : World) (ex : Nat → Prop) (L : List (Nat × BA)) : Array Bool → World → Prop := fun _ W => Mem w0 ex W L
def MG (s : Nat) (w0 : World) (ex : Nat → Prop) (L : List (Nat × BA)) : Array Bool → World → Prop := fun B W => B.getD s true = false → Mem w0 ex W L
theorem g_startU (M : Mem w0 ex w L) (m : Nat) {id : Nat} (hm : P.follows .mixedOrders = true) (hn : ops.size = m) (hz : Array.replicate m false = pbits m 0)
    (h : ∀ w', Mem w0 ex w' L → wpG P ops Q (MU w0 ex L) m (pbits m 0) a w') : (Code.region id ops true).wp P Q a w := g_start _ m hm hn hz M.drew (h _ M.drew)
theorem g_startG (s : Nat) (M : Mem w0 ex w L) (m : Nat) {id : Nat} (hm : P.follows .mixedOrders = true) (hn : ops.size = m) (hz : Array.replicate m false = pbits m 0)
    (h : ∀ w', Mem w0 ex w' L → wpG P ops Q (MG s w0 ex L) m (pbits m 0) a w') : (Code.region id ops true).wp P Q a w := g_start _ m hm hn hz (fun _ => M.drew) (h _ M.drew)
theorem g_start2 {Lc : List (Nat × BA)} (M : Mem w0 ex w L) (Mc : Mem w0 ex w Lc) (m : Nat) {id : Nat} (hm : P.follows .mixedOrders = true) (hn : ops.size = m) (hz : Array.replicate m false = pbits m 0)
    (h : ∀ w', Mem w0 ex w' L → wpG P ops Q (MU w0 ex Lc) m (pbits m 0) a w') : (Code.region id ops true).wp P Q a w := g_start _ m hm hn hz Mc.drew (h _ M.drew)
def MA (p q : Array Bool → World → Prop) : Array Bool → World → Prop := fun B W => p B W ∧ q B W
theorem MA.lft {p q : Array Bool → World → Prop} {B : Array Bool} {W : World} (h : MA p q B W) : p B W := h.1
theorem MA.rgt {p q : Array Bool → World → Prop} {B : Array Bool} {W : World} (h : MA p q B W) : q B W := h.2
theorem MA.mk {p q : Array Bool → World → Prop} {B : Array Bool} {W : World} (h : p B W) (h' : q B W) : MA p q B W := ⟨h, h'⟩
theorem g_addU (M : Mem w0 ex w L) (h : wpG P ops Q (MA (MU w0 ex L) S) fuel l a w) : wpG P ops Q S fuel l a w := g_add (MU w0 ex L) M h
theorem g_addG (s : Nat) (M : Mem w0 ex w L) (h : wpG P ops Q (MA (MG s w0 ex L) S) fuel l a w) : wpG P ops Q S fuel l a w := g_add (MG s w0 ex L) (fun _ => M) h
theorem si_U : ∀ (B : Array Bool) W, MU w0 ex L (B.setIfInBounds i true) W ↔ MU w0 ex L B W := fun _ _ => Iff.rfl
theorem si_G {s : Nat} (h : Nat.beq i s = false) : ∀ (B : Array Bool) W, MG s w0 ex L (B.setIfInBounds i true) W ↔ MG s w0 ex L B W := fun B W => by
  unfold MG
  rw [getD_set_ne true (fun e => by subst e; simp at h)]
theorem si_and {p q : Array Bool → World → Prop} (hp : ∀ B W, p (B.setIfInBounds i true) W ↔ p B W) (hq : ∀ B W, q (B.setIfInBounds i true) W ↔ q B W) :
    ∀ (B : Array Bool) W, MA p q (B.setIfInBounds i true) W ↔ MA p q B W := fun B W => and_congr (hp B W) (hq B W)
theorem g_q (T : Tm a n E) (hi : ops[i]? = some oi) (hs : (Region.noSelect ops && Region.free .any ops l i && (Region.ready .any ops l).contains i) = true) (hl : l.setIfInBounds i true = l')
    (hSi : ∀ L w, S (L.setIfInBounds i true) w ↔ S L w) (hQ : ∀ c a w, Q (.panic c) (a.put oi.dst v) w → Q (.panic c) a w)
    (hw : Region.wanted oi (yielded ops a.tmps) = true) (hd : oi.dst = some t) (hf : freshE E t = true) (hn : Nat.blt t n = true)
    (hr : ∀ L w', DC ops L → L.getD i true = false → S L w' → Runs P oi a v w') (h : ∀ a', Tm a' n ((t, v) :: E) → wpG P ops Q S fuel l' a' w) : wpG P ops Q S (fuel + 1) l a w :=
  wpG_take hi hs hSi hQ (.inl ⟨hw, fun w' hy => by obtain ⟨L, h1, h2, h3⟩ := hy; exact hr L w' h1 h2 h3⟩) (by rw [hl, hd]; exact h _ (T.put hn hf v))
theorem g_pass (T : Tm a n E) (hi : ops[i]? = some oi) (hs : (Region.noSelect ops && Region.free .any ops l i && (Region.ready .any ops l).contains i) = true) (hl : l.setIfInBounds i true = l')
    (hSi : ∀ L w, S (L.setIfInBounds i true) w ↔ S L w) (hQ : ∀ c a w, Q (.panic c) (a.put oi.dst undef) w → Q (.panic c) a w)
    (hw : Region.wanted oi (yielded ops a.tmps) = false) (hd : oi.dst = some t) (hf : freshE E t = true) (hn : Nat.blt t n = true) (h : ∀ a', Tm a' n ((t, undef) :: E) → wpG P ops Q S fuel l' a' w) : wpG P ops Q S (fuel + 1) l a w :=
  wpG_take hi hs hSi hQ (.inr ⟨hw, rfl⟩) (by rw [hl, hd]; exact h _ (T.put hn hf _))
theorem g_w (hr : Region.ready .any ops l = [i]) (ho : ops[i]? = some oi) (hl : l.setIfInBounds i true = l') (hw : Region.wanted oi (yielded ops a.tmps) = true)
    (h : ∀ K' : Act → World → Prop, Shut (∀ a w, S l' w → wpG P ops Q S fuel l' a w → K' a w) → oi.wp P a w K' Q) : wpG P ops Q S (fuel + 1) l a w :=
  wpG_one hr ho hw fun _ K' hK => by subst hl; exact h K' hK
def wpGi (P : Program) (ops : Array Oper) (Q : Exit → Act → World → Prop) (S : Array Bool → World → Prop) (fuel : Nat) (l : Array Bool) (i : Nat) (a : Act) (w : World) : Prop :=
  DC ops (l.setIfInBounds i true) → wpOp P ops Q i (fun a' w' => S (l.setIfInBounds i true) w' ∧ wpAnyS P ops Q S fuel (l.setIfInBounds i true) a' w') a w
theorem g_m2 {j : Nat} (hr : Region.ready .any ops l = [i, j]) (h : wpGi P ops Q S fuel l i a w) (h' : wpGi P ops Q S fuel l j a w) : wpG P ops Q S (fuel + 1) l a w := fun hD _ =>
  ⟨fun h0 => (by rw [hr] at h0; cases h0), fun k hk => by
    have hk' := hk
    rw [hr] at hk'
    simp only [List.mem_cons, List.not_mem_nil, or_false] at hk'
    rcases hk' with rfl | rfl
    · exact h (hD.step hk)
    · exact h' (hD.step hk)⟩
theorem g_m3 {j k : Nat} (hr : Region.ready .any ops l = [i, j, k]) (h : wpGi P ops Q S fuel l i a w) (h' : wpGi P ops Q S fuel l j a w) (h'' : wpGi P ops Q S fuel l k a w) : wpG P ops Q S (fuel + 1) l a w := fun hD _ =>
  ⟨fun h0 => (by rw [hr] at h0; cases h0), fun m hk => by
    have hk' := hk
    rw [hr] at hk'
    simp only [List.mem_cons, List.not_mem_nil, or_false] at hk'
    rcases hk' with rfl | rfl | rfl
    · exact h (hD.step hk)
    · exact h' (hD.step hk)
    · exact h'' (hD.step hk)⟩
theorem g_i (ho : ops[i]? = some oi) (hl : l.setIfInBounds i true = l') (hw : Region.wanted oi (yielded ops a.tmps) = true)
    (h : ∀ K' : Act → World → Prop, Shut (∀ a w, S l' w → wpG P ops Q S fuel l' a w → K' a w) → oi.wp P a w K' Q) : wpGi P ops Q S fuel l i a w := fun hD => by
  subst hl
  refine wpOp_step ho (fun K' hK => ?_)
  rw [if_pos hw]
  exact h K' (fun a w hS' hW => hK a w ⟨hS', hW hD hS'⟩)
theorem g_done (hr : Region.ready .any ops l = []) (h : Q .normal a w) : wpG P ops Q S fuel l a w := wpG_done hr fun _ => h
end

/-! Tests. -/
theorem wp_if {c : Operand} {x y : Code} {p : Prop} [Decidable p] (hc : a.eval c = .bool (decide p)) (ht : p → x.wp P Q a w) (hf : ¬ p → y.wp P Q a w) : (Code.cond c x y).wp P Q a w :=
  wp_cond_split hc (fun h => ht (of_decide_eq_true h)) (fun h => hf (of_decide_eq_false h))
theorem wp_ifn {c : Operand} {x y : Code} {p : Prop} [Decidable p] (hc : a.eval c = .bool (!decide p)) (ht : ¬ p → x.wp P Q a w) (hf : p → y.wp P Q a w) : (Code.cond c x y).wp P Q a w :=
  wp_cond_split hc (fun h => ht (by simpa using h)) (fun h => hf (by simpa using h))
theorem rt_ct {fn : Func} {R : Ending → World → Prop} {t t' : Tmp} {ty : TypeId} {m g : Nat} [hT : RowTy P ty m] {cs : List Value} (M : Mem w0 ex w L) (T : Tm a n E) (hr : fn.results = #[.cell t ty, .tmp t'])
    (hx : a.eval (.tmp t) = .pointer (some ⟨g, 0, none⟩)) (hx' : a.eval (.tmp t') = v) (hm : (g, BA.cells cs) ∈ L) (hn : cs.length = m) (h : R (.returned (.tuple #[.agg cs.toArray, v])) w) : bodyPost P fn R .ret a w :=
  ret_M1 M hr T.defers hx hx' hm hn h

theorem nm_then {K : Act → World → Prop} (h : K a w) : Exit.then K Q .normal a w := h
theorem rt_then {K : Act → World → Prop} (h : Q .ret a w) : Exit.then K Q .ret a w := h
theorem rt_blk {id : Nat} (h : Q .ret a w) : Exit.inBlock id Q .ret a w := h
theorem nm_blk {id : Nat} (h : Q .normal a w) : Exit.inBlock id Q .normal a w := h
theorem sh_out {p : Prop} (h : Shut p) : p := h

/-! The start. -/
def numE : Nat → List Value → List (Nat × Value)
  | _, [] => []
  | k, v :: r => (k, v) :: numE (k + 1) r
theorem numE_get : ∀ (l : List Value) (k : Nat) (p : Nat × Value), p ∈ numE k l → ∃ i, p.1 = k + i ∧ l[i]? = some p.2
  | [], _, p, h => by cases h
  | v :: r, k, p, h => by
    rcases List.mem_cons.1 h with rfl | h
    · exact ⟨0, rfl, rfl⟩
    · obtain ⟨i, h1, h2⟩ := numE_get r (k + 1) p h
      exact ⟨i + 1, by omega, by simpa using h2⟩
theorem px_enter {f : FuncId} {fn : Func} {c : Code} {args : Array Value} {R : Ending → World → Prop} (ex : Nat → Prop) (hf : P.funcs[f]? = some fn) (hb : fn.body = some c) (n : Nat) (hn : fn.ntmps = n) (vs : List Value) (ha : args = vs.toArray) (hle : Nat.ble vs.length n = true)
    {L : List (Nat × BA)} (M : Mem w ex w L)
    (h : ∀ a w', Tm a n (numE 0 vs) → Mem w ex w' L → c.wp P (bodyPost P fn R) a w') : Calls P f args w R := by
  subst ha
  have hle := Nat.le_of_ble_eq_true hle
  refine calls_of_wp hf hb (h _ _ ⟨rfl, ?_, fun p hp => ?_⟩ M)
  · simp [hn]; omega
  · obtain ⟨i, h1, h2⟩ := numE_get vs 0 p hp
    have hi : i < vs.length := (List.getElem?_eq_some_iff.1 h2).1
    have e : p.1 = i := by omega
    rw [e]
    have h3 : (vs.toArray ++ Array.replicate (fn.ntmps - vs.toArray.size) undef)[i]? = some p.2 := by
      rw [Array.getElem?_append_left (by simpa using hi)]
      simpa using h2
    show (vs.toArray ++ Array.replicate (fn.ntmps - vs.toArray.size) undef).getD i undef = p.2
    simp only [Array.getD_eq_getD_getElem?, h3, Option.getD_some]

/-- Where a slice's cells lie: in a world that goes on from w and knows the blocks of I. -/
structure Sp (w : World) (ex : Nat → Prop) (I : List (Nat × BA)) (A : Option Addr) (n size b o : Nat) (xs : List Value) : Prop where
  at0 : 0 < n → A = some ⟨b, o, none⟩
  len : xs.length = n * size
  lt : ∀ w' L, Mem w ex w' L → I.Sublist L → 0 < n → b < w'.heap.size
  cell : ∀ w' L, Mem w ex w' L → I.Sublist L → ∀ j u, xs[j]? = some u → w'.cell? ⟨b, o + j, none⟩ = some u
theorem Sp.old {w : World} {size n : Nat} {A : Option Addr} {xs : List Value} (h : Rd w w.heap.size size A n xs) : ∃ b o, Sp w noEx [] A n size b o xs := by
  rcases Nat.eq_zero_or_pos n with rfl | hn
  · refine ⟨0, 0, by omega, h.1, fun _ _ _ _ h => absurd h (by omega), fun _ _ _ _ j u hu => ?_⟩
    have : xs = [] := List.eq_nil_of_length_eq_zero (by have := h.1; omega)
    simp [this] at hu
  · obtain ⟨b, o, h1, h2, h3⟩ := h.2 hn
    exact ⟨b, o, fun _ => h1, h.1, fun w' L M _ _ => Nat.lt_of_lt_of_le h2 M.size, fun w' L M _ j u hu => (M.below.cell (p := ⟨b, o + j, none⟩) h2).trans (h3 j u hu)⟩
theorem Sp.row {w : World} {ex : Nat → Prop} {e size n g cap : Nat} {xs : List Value} (hl : xs.length = n * size) : Sp w ex [(g, .row e size n xs cap)] (some ⟨g, 0, none⟩) n size g 0 xs :=
  ⟨fun _ => rfl, hl, fun w' L M hI _ => BA.lt (M.blk _ (hI.subset List.mem_cons_self)).2, fun w' L M hI j u hu => by
    have hr := M.rdRow (hI.subset List.mem_cons_self)
    have hn : 0 < n := by
      rcases Nat.eq_zero_or_pos n with h | h
      · have : xs = [] := List.eq_nil_of_length_eq_zero (by rw [hl, h, Nat.zero_mul])
        simp [this] at hu
      · exact h
    obtain ⟨b, o, e1, _, h3⟩ := hr.2 hn
    injection e1 with e1
    injection e1 with e1 e2 _
    subst e1
    subst e2
    exact h3 j u hu⟩
theorem Sp.cells {w : World} {ex : Nat → Prop} {size n g : Nat} {xs : List Value} (hl : xs.length = n * size) : Sp w ex [(g, .cells xs)] (some ⟨g, 0, none⟩) n size g 0 xs :=
  ⟨fun _ => rfl, hl, fun w' L M hI _ => BA.lt (M.blk _ (hI.subset List.mem_cons_self)).2, fun w' L M hI j u hu => by
    have hb := M.get (hI.subset List.mem_cons_self)
    rw [hb.cell, Nat.zero_add]
    simpa using hu⟩
theorem Sp.nil {w : World} {ex : Nat → Prop} {size b o : Nat} {A : Option Addr} : Sp w ex [] A 0 size b o [] :=
  ⟨fun h => absurd h (by omega), by simp, fun _ _ _ _ h => absurd h (by omega), fun _ _ _ _ j u hu => by simp at hu⟩
theorem Sp.rd {w w' : World} {ex : Nat → Prop} {I L : List (Nat × BA)} {size n b o : Nat} {A : Option Addr} {xs : List Value} (S : Sp w ex I A n size b o xs) (M : Mem w ex w' L) (hI : I.Sublist L) : Rd w' w'.heap.size size A n xs :=
  ⟨S.len, fun h => ⟨b, o, S.at0 h, S.lt w' L M hI h, S.cell w' L M hI⟩⟩
theorem Mem.swapI {w0 w : World} {ex : Nat → Prop} {I L : List (Nat × BA)} (M : Mem w0 ex w (I ++ L)) : Mem w0 ex w (L ++ I) :=
  ⟨M.os, M.tape, M.output, M.size, M.block, fun p hp => M.blk p (by rcases List.mem_append.1 hp with h | h; exact List.mem_append_right _ h; exact List.mem_append_left _ h), by
    have h := M.nd
    rw [List.map_append] at h ⊢
    obtain ⟨h1, h2, h3⟩ := List.nodup_append.1 h
    exact List.nodup_append.2 ⟨h2, h1, fun a ha b hb e => h3 b hb a ha e.symm⟩⟩
section
variable {w w' : World} {ex : Nat → Prop} {I L : List (Nat × BA)} {n b o k : Nat} {A : Option Addr} {l : List (Int × Int)} {r : List Int} {x y : Int}
theorem Sp.rc0 (S : Sp w ex I A n 2 b o (rc l)) (M : Mem w ex w' L) (hI : I.Sublist L) (h : l[k]? = some (x, y)) : w'.cell? ⟨b, o + k * 2 + 0, none⟩ = some (.int .i64 x) := S.cell w' L M hI _ _ (rc_get l k _ h).1
theorem Sp.rc1 (S : Sp w ex I A n 2 b o (rc l)) (M : Mem w ex w' L) (hI : I.Sublist L) (h : l[k]? = some (x, y)) : w'.cell? ⟨b, o + k * 2 + 1, none⟩ = some (.int .i64 y) := by
  have := S.cell w' L M hI _ _ (rc_get l k _ h).2
  rwa [← Nat.add_assoc] at this
theorem Sp.rcR (S : Sp w ex I A n 2 b o (rc l)) (M : Mem w ex w' L) (hI : I.Sublist L) (h : l[k]? = some (x, y)) : w'.rangeAt b (o + k * 2) [.int .i64 x, .int .i64 y] := fun j v hv => by
  match j with
  | 0 => simp at hv; rw [← hv]; exact S.rc0 M hI h
  | 1 => simp at hv; rw [← hv]; exact S.rc1 M hI h
  | j + 2 => simp at hv
theorem Sp.ic0 (S : Sp w ex I A n 1 b o (ic r)) (M : Mem w ex w' L) (hI : I.Sublist L) (h : r[k]? = some x) : w'.cell? ⟨b, o + k * 1, none⟩ = some (.int .i64 x) := by
  rw [Nat.mul_one]; exact S.cell w' L M hI _ _ (ic_get r k _ h)
end
theorem rc_next {l : List (Int × Int)} {k : Nat} (h : k < l.length) : ∃ x y, l[k]? = some (x, y) ∧ l.drop k = (x, y) :: l.drop (k + 1) := ⟨l[k].1, l[k].2, List.getElem?_eq_getElem h, List.drop_eq_getElem_cons h⟩
theorem ic_next {l : List Int} {k : Nat} (h : k < l.length) : ∃ x, l[k]? = some x ∧ l.drop k = x :: l.drop (k + 1) := ⟨l[k], List.getElem?_eq_getElem h, List.drop_eq_getElem_cons h⟩
/-- A slice's cells: where they lie. -/
theorem Rd.spot {w : World} {B size n : Nat} {A : Option Addr} {xs : List Value} (h : Rd w B size A n xs) : ∃ b o, (0 < n → A = some ⟨b, o, none⟩) ∧ (0 < n → b < B) ∧ ∀ j u, xs[j]? = some u → w.cell? ⟨b, o + j, none⟩ = some u := by
  rcases Nat.eq_zero_or_pos n with rfl | hn
  · refine ⟨0, 0, by omega, by omega, fun j u hu => ?_⟩
    have : xs = [] := List.eq_nil_of_length_eq_zero (by have := h.1; omega)
    simp [this] at hu
  · obtain ⟨b, o, h1, h2, h3⟩ := h.2 hn
    exact ⟨b, o, fun _ => h1, fun _ => h2, h3⟩

/-! Code. -/
theorem cut_seq {x y : Code} (I : Act → World → Prop) (h1 : x.wp P (Exit.then I Q) a w) (h2 : ∀ a w, I a w → y.wp P Q a w) : (Code.seq x y).wp P Q a w :=
  wp_seq (wp_mono h1 fun e a w q => by cases e <;> first | exact q | exact h2 _ _ q)
theorem ex_then {K : Act → World → Prop} {id : Nat} (h : Q (.exit id) a w) : Exit.then K Q (.exit id) a w := h
theorem ex_hit {id : Nat} (h : Q .normal a w) : Exit.inBlock id Q (.exit id) a w := by simp only [Exit.inBlock, if_true]; exact h
theorem ex_miss {id id' : Nat} (hn : Nat.beq id' id = false) (h : Q (.exit id') a w) : Exit.inBlock id Q (.exit id') a w := by
  have : id' ≠ id := fun e => by subst e; simp at hn
  simp only [Exit.inBlock, if_neg this]; exact h
open Classical in
theorem wp_loop_n {c : Code} (I : Nat → Act → World → Prop) (h₀' : ∃ m, I m a w)
    (round : ∀ m a w, I m a w → c.wp P (Exit.then (fun a' w' => ∃ m', m' < m ∧ I m' a' w') Q) a w) : (Code.loop c).wp P Q a w := by
  obtain ⟨m, h₀⟩ := h₀'
  have least : ∀ a w, (∃ m, I m a w) → ∃ m, I m a w ∧ ∀ k, I k a w → m ≤ k := fun a w ⟨m, hm⟩ => by
    induction m using Nat.strongRecOn with
    | _ m ih =>
      by_cases h : ∃ k, k < m ∧ I k a w
      · obtain ⟨k, hk, hi⟩ := h; exact ih k hk hi
      · exact ⟨m, hm, fun k hk => Nat.le_of_not_lt fun hl => h ⟨k, hl, hk⟩⟩
  refine wp_loop (fun a w => ∃ m, I m a w) (fun a w => if h : ∃ m, I m a w then Classical.choose (least a w h) else 0) ⟨m, h₀⟩ fun a w h => ?_
  obtain ⟨h1, h2⟩ := Classical.choose_spec (least a w h)
  refine wp_mono (round _ a w h1) fun e a' w' q => ?_
  cases e with
  | normal =>
    obtain ⟨m', hlt, hm'⟩ := q
    refine ⟨⟨m', hm'⟩, ?_⟩
    simp only [dif_pos (show ∃ m, I m a w from h), dif_pos (show ∃ m, I m a' w' from ⟨m', hm'⟩)]
    exact Nat.lt_of_le_of_lt ((Classical.choose_spec (least a' w' ⟨m', hm'⟩)).2 m' hm') hlt
  | _ => exact q

theorem rounds_S {c : Code} {m : Nat} (h : c.wp P (Exit.then (Code.rounds P c Q m) Q) a w) : Code.rounds P c Q (m + 1) a w := h

/-! Returns. -/
theorem rt_1 {fn : Func} {R : Ending → World → Prop} {t : Tmp} (T : Tm a n E) (hr : fn.results = #[.tmp t]) (hv : a.eval (.tmp t) = v) (h : R (.returned v) w) : bodyPost P fn R .ret a w :=
  ⟨T.defers, v, by rw [results_tmp hr]; exact congrArg (Result.ok · w) hv, h⟩
theorem rt_2 {fn : Func} {R : Ending → World → Prop} {t t' : Tmp} {v' : Value} (T : Tm a n E) (hr : fn.results = #[.tmp t, .tmp t']) (hv : a.eval (.tmp t) = v) (hv' : a.eval (.tmp t') = v') (h : R (.returned (.tuple #[v, v'])) w) : bodyPost P fn R .ret a w :=
  ⟨T.defers, _, by rw [results_tmp2 hr, show a.tmps.getD t undef = v from hv, show a.tmps.getD t' undef = v' from hv'], h⟩
theorem rt_3 {fn : Func} {R : Ending → World → Prop} {t t' t'' : Tmp} {v' v'' : Value} (T : Tm a n E) (hr : fn.results = #[.tmp t, .tmp t', .tmp t'']) (hv : a.eval (.tmp t) = v) (hv' : a.eval (.tmp t') = v') (hv'' : a.eval (.tmp t'') = v'') (h : R (.returned (.tuple #[v, v', v''])) w) : bodyPost P fn R .ret a w :=
  ⟨T.defers, _, by
    have e : a.tmps.getD t undef = v := hv
    have e' : a.tmps.getD t' undef = v' := hv'
    have e'' : a.tmps.getD t'' undef = v'' := hv''
    unfold results
    simp only [hr]
    simp [Sem.run_bind, ← e, ← e', ← e''], h⟩
theorem rt_c {fn : Func} {R : Ending → World → Prop} {t : Tmp} {ty : TypeId} {m g : Nat} [hT : RowTy P ty m] {cs : List Value} (M : Mem w0 ex w L) (T : Tm a n E) (hr : fn.results = #[.cell t ty])
    (hx : a.eval (.tmp t) = .pointer (some ⟨g, 0, none⟩)) (hm : (g, BA.cells cs) ∈ L) (hn : cs.length = m) (h : R (.returned (.agg cs.toArray)) w) : bodyPost P fn R .ret a w :=
  ret_M M hr T.defers hx hm hn h
end
end Go.Proofs.Ythlpceoajhcliaa

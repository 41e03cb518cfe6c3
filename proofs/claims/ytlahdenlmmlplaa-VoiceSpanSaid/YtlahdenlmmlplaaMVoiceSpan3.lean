/-
  Walks of functions, and plain laws (texts put together). No condition.
-/
import Derived.Test.YtlahdenlmmlplaaMVoiceSpan1
import Derived.Test.YtlahdenlmmlplaaMVoiceSpan2
set_option maxRecDepth 100000
set_option maxHeartbeats 1000000
section
/-
 kit: copies of jobs.
-/
namespace Go.Proofs.Ytlahdenlmmlplaa
set_option linter.unusedSimpArgs false
set_option linter.unusedVariables false
open Go.RowKit
def Sm (e size : Nat) (A : Option Addr) (n c : Nat) (xs : List Value) (I : List (Nat × BA)) : Prop :=
 (n = 0 ∧ xs = [] ∧ c = 0 ∧ ∃ g, A = some ⟨g, 0, none⟩ ∧ I = [(g, .any fun o => o = .cells #[] e)]) ∨ ∃ g, A = some ⟨g, 0, none⟩ ∧ I = [(g, .row e size n xs c)]
theorem Sm.sp {w : World} {ex : Nat → Prop} {e size n c : Nat} {A : Option Addr} {xs : List Value} {I : List (Nat × BA)} (h : Sm e size A n c xs I) (hl : xs.length = n * size) : ∃ b o, Sp w ex I A n size b o xs := by
 rcases h with ⟨rfl, rfl, _, g, rfl, rfl⟩ | ⟨g, rfl, rfl⟩
 · exact ⟨0, 0, fun h => absurd h (by omega), by simp, fun _ _ _ _ h => absurd h (by omega), fun _ _ _ _ j u hu => by simp at hu⟩
 · exact ⟨g, 0, Sp.row hl⟩
def RangesPost2 (l : List (Int × Int)) (w : World) (e : Ending) (w' : World) : Prop := ∃ A c I, e = .returned (.slice A l.length c) ∧ Sm 40 2 A l.length c (rc l) I ∧ Mem w noEx w' I
def IntsPost2 (l : List Int) (w : World) (e : Ending) (w' : World) : Prop := ∃ A c I, e = .returned (.slice A l.length c) ∧ Sm 3 1 A l.length c (ic l) I ∧ Mem w noEx w' I
theorem Try.append0i (A : Option Addr) (c g : Nat) (ty : TypeId) (w : World) : (Builtin.append_ #[22, 22] ty #[.slice (some ⟨g, 0, none⟩) 0 0, .slice A 0 c]).run Try.prog w = .ok (.slice (some ⟨g, 0, none⟩) 0 0) w := by
 cases A <;> kernel_rfl
theorem ow_appM {P : Program} {op : Oper} {a : Act} {K : Act → World → Prop} {Q : Exit → Act → World → Prop} {s x : Operand} {ty e size bytes b c d m nn t' : Nat} {A : Option Addr} {z : Value} {cs xs : List Value} {w0 w : World} {ex : Nat → Prop} {L0 I : List (Nat × BA)} {E : List (Nat × Value)} (L1 : List (Nat × BA))
   (hinfo : (P.info? e).map (fun i => (i.zero, i.size, i.bytes)) = some (some z, size, bytes)) (hS : Sm e size A m d xs I) (M : Mem w0 ex w L0) (hsp : L0 = L1 ++ I) (T : Tm a nn E)
   (ho : op.op = .call { callee := .builtin .append, args := #[s, x], argTypes := #[ty, ty] }) (hd : op.dst = some t') (hf : freshE E t' = true) (hnn : Nat.blt t' nn = true)
   (ht : P.underlying ty = some (.slice e)) (hzs : z.cells.size = size) (hsz : Nat.blt 0 size = true) (hby : Nat.ble bytes 1000 = true) (hm : m ≤ 1000000)
   (hs : a.eval s = .slice A m d) (hx : a.eval x = .slice (some ⟨b, 0, none⟩) 1 c) (hmem : (b, BA.cells cs) ∈ L1) (hl : cs.length = size) (h1 : cs.all (·.oneCell') = true)
   (h : ∀ g cap w' a', Mem w0 ex w' ((g, .row e size (m + 1) (xs ++ cs) cap) :: L1) → Tm a' nn ((t', .slice (some ⟨g, 0, none⟩) (m + 1) cap) :: E) → K a' w') : op.wp P a w K Q := by
 rcases hS with ⟨rfl, rfl, rfl, g, rfl, rfl⟩ | ⟨g, rfl, rfl⟩
 · subst hsp
   obtain ⟨i, hi, hz0, hz1, hz2⟩ := info_parts hinfo
   have hsz := Nat.le_of_ble_eq_true hsz
   have hby := Nat.le_of_ble_eq_true hby
   have hbb : (0 + 1) * bytes ≤ 140737488355328 := by omega
   have hB := M.get (List.mem_append_left [(g, BA.any fun o => o = .cells #[] e)] hmem)
   obtain ⟨o, hge, rfl⟩ := (M.blk (g, BA.any fun o => o = .cells #[] e) (List.mem_append_right _ List.mem_cons_self)).2
   have hgl : g < w.heap.size := (Array.getElem?_eq_some_iff.1 hge).1
   refine wp_append_lies w s x ty ho g e i z size bytes ht hi hz0 hz1 hz2 hzs hsz (.slice (some ⟨g, 0, none⟩) 0 0) 0 [] hs ⟨by simp, .inr ⟨g, 0, #[], rfl, Nat.le_refl _, hge, by omega, by unfold maxLen; omega, by simp, by simp⟩⟩ ⟨b, 0, none⟩ 1 c cs hx (by omega) (fun j u hu => by rw [Addr.add_mid, hB.cell, Nat.zero_add]; simpa using hu) (fun u hu => (List.all_eq_true.1 h1) u hu) (by omega) (by unfold maxLen; omega) hbb (Nat.le_of_lt hgl) w.heap.size rfl ?_
   intro g' cap w' hown hgr hat hlt
   have hgr : w.grownBy w' (some g) := hgr
   simp only [Nat.zero_add, List.nil_append] at hown
   have e0 : a.put op.dst (.slice (some ⟨g', 0, none⟩) (0 + 1) cap) = a.put op.dst (.slice (some ⟨g', 0, none⟩) (0 + 1) cap) := rfl
   refine h g' cap w' _ ?_ (by rw [hd]; exact T.put hnn hf _)
   have Ms := Mem.swapI (I := L1) (L := [(g, BA.any fun o => o = .cells #[] e)]) M
   have hg0 : g < w'.heap.size := Nat.lt_of_lt_of_le hgl hgr.size
   rcases hat with h2 | h2
   · have h2 : some g = some g' := h2
     injection h2 with h2
     subst h2
     exact Ms.callW (L' := (g, .row e size (0 + 1) ([] ++ cs) cap) :: L1) .head hgr (own_rebase hown (by omega))
   · have M1 := Ms.callW (L' := (g, .any (fun _ => True)) :: L1) .head hgr ⟨w'.heap[g], Array.getElem?_eq_getElem hg0, trivial⟩
     exact M1.forget.add (by rw [h2]; exact M.size) (own_rebase hown (by omega)) (fun q hq e => by have := BA.lt (Ms.blk q (List.mem_cons_of_mem _ hq)).2; omega)
 · exact ow_app L1 hinfo (.inr ⟨g, d, rfl, rfl⟩) M hsp T ho hd hf hnn ht hzs hsz hby hm hs hx hmem hl h1 h
def CopyPost2 (j : Jb) (w : World) (e : Ending) (w' : World) : Prop := ∃ A c I, e = .returned (jobV j A c) ∧ Sm 40 2 A j.sh.length c (rc j.sh) I ∧ Mem w noEx w' I
def Jb.more (j : Jb) (x y : Int) : Jb := { j with sh := j.sh ++ [(x, y)] }
end Go.Proofs.Ytlahdenlmmlplaa
end

section
/-
 ref1: what is valid; ranges; shifts.
-/
namespace Go.Proofs.Ytlahdenlmmlplaa
set_option linter.unusedSimpArgs false
set_option linter.unusedVariables false
open Go.RowKit
abbrev jobL (j : Jb) (A : Option Addr) (c : Nat) : List Value := [.int .i64 j.p0, .int .i64 j.p1, .int .i64 j.t0, .int .i64 j.t1, .int .i64 j.r0, .int .i64 j.r1, .int .i64 j.u0, .int .i64 j.u1, .int .i64 j.d0, .int .i64 j.d1, .int .i64 j.a0, .int .i64 j.a1, .int .i64 j.b0, .int .i64 j.b1, .int .i64 j.le, .slice A j.sh.length c, .int .i64 j.wi, .int .i64 j.me]
end Go.Proofs.Ytlahdenlmmlplaa
end

section
/-
 kit: strokes out of a pot, Turn.
-/
namespace Go.Proofs.Ytlahdenlmmlplaa
set_option linter.unusedSimpArgs false
set_option linter.unusedVariables false
open Go.RowKit
theorem Sp.mono {w : World} {ex : Nat → Prop} {I I' : List (Nat × BA)} {A : Option Addr} {n size b o : Nat} {xs : List Value} (S : Sp w ex I A n size b o xs) (h : I.Sublist I') : Sp w ex I' A n size b o xs :=
 ⟨S.at0, S.len, fun w' L M hI hn => S.lt w' L M (h.trans hI) hn, fun w' L M hI => S.cell w' L M (h.trans hI)⟩
theorem Sp.pre {w : World} {ex : Nat → Prop} {size n g : Nat} {xs ys : List Value} (hl : xs.length = n * size) : Sp w ex [(g, .cells (xs ++ ys))] (some ⟨g, 0, none⟩) n size g 0 xs :=
 ⟨fun _ => rfl, hl, fun w' L M hI _ => BA.lt (M.blk _ (hI.subset List.mem_cons_self)).2, fun w' L M hI j u hu => by
   have hb := M.get (hI.subset List.mem_cons_self)
   rw [hb.cell, Nat.zero_add, List.getElem?_toArray, List.getElem?_append_left (List.getElem?_eq_some_iff.1 hu).1]
   exact hu⟩
abbrev JE := Jb × Option Addr × Nat
def jc (l : List JE) : List Value := l.flatMap fun x => jobL x.1 x.2.1 x.2.2
abbrev LE := List Int × Option Addr × Nat
def lc (l : List LE) : List Value := l.map fun x => .slice x.2.1 x.1.length x.2.2
theorem lc_length (l : List LE) : (lc l).length = l.length := by simp [lc]
section
variable {w w' : World} {ex : Nat → Prop} {I L : List (Nat × BA)} {n b o k : Nat} {A : Option Addr} {l : List JE} {r : List LE}
theorem Sp.lc0 {x : List Int} {B : Option Addr} {c : Nat} (S : Sp w ex I A n 1 b o (lc r)) (M : Mem w ex w' L) (hI : I.Sublist L) (h : r[k]? = some (x, B, c)) : w'.cell? ⟨b, o + k * 1, none⟩ = some (.slice B x.length c) := by
 rw [Nat.mul_one]
 exact S.cell w' L M hI _ _ (by unfold lc; rw [List.getElem?_map, h]; rfl)
end
section
variable {P : Program} {op : Oper} {a : Act} {K : Act → World → Prop} {Q : Exit → Act → World → Prop} {w0 w : World} {ex : Nat → Prop} {L0 L : List (Nat × BA)} {E : List (Nat × Value)} {t n : Nat}
theorem ow_stI {ty : TypeId} {x y : Operand} {g k : Nat} {v : Int} {l : List Int} {ys : List Value} {L' : List (Nat × BA)} (M : Mem w0 ex w L) (T : Tm a n E) (ho : op.op = .store ty x y) (hd : op.dst = none) (hx : a.eval x = .pointer (some ⟨g, 0 + k * 1, none⟩)) (hy : a.eval y = .int .i64 v)
   (hu : Upd L g (.cells (ic l ++ ys)) (.cells (ic (l.set k v) ++ ys)) L') (hk : k < l.length) (hi : (P.info? ty).map (·.size) = some 1)
   (h : ∀ w' a', Mem w0 ex w' L' → Tm a' n E → K a' w') : op.wp P a w K Q := by
 refine m_stw (ds := [.int .i64 v]) M ho hx hy rfl hu ?_ (by simp only [List.length_append, List.length_cons, List.length_nil, ic_length]; omega) rfl hi fun w' M' => h w' _ M' (by rw [hd]; exact T)
 rw [Nat.zero_add, Nat.mul_one, List.take_append_of_le_length (by rw [ic_length]; omega), List.drop_append_of_le_length (by rw [ic_length]; simp; omega), ← List.append_assoc]
 congr 1
 unfold ic
 rw [← List.map_take, ← List.map_drop, List.set_eq_take_append_cons_drop, if_pos hk]
 simp
end
def Sw (size : Nat) (A : Option Addr) (n b : Nat) (xs : List Value) (I : List (Nat × BA)) : Prop := xs.length = n * size ∧ (n = 0 ∨ (A = some ⟨b, 0, none⟩ ∧ ∃ ys, I = [(b, .cells (xs ++ ys))]))
theorem Sw.sp {w : World} {ex : Nat → Prop} {size n b : Nat} {A : Option Addr} {xs : List Value} {I : List (Nat × BA)} (h : Sw size A n b xs I) : Sp w ex I A n size b 0 xs := by
 obtain ⟨hl, rfl | ⟨rfl, ys, rfl⟩⟩ := h
 · obtain rfl : xs = [] := List.eq_nil_of_length_eq_zero (by omega)
   exact ⟨fun h => absurd h (by omega), by simp, fun _ _ _ _ h => absurd h (by omega), fun _ _ _ _ j u hu => by simp at hu⟩
 · exact Sp.pre hl
def TurnPost (n : Nat) (w : World) (e : Ending) (w' : World) : Prop := ∃ k : Nat, e = .returned (.int .i64 k) ∧ k < n ∧ Below w.heap.size w w'
def StrokesPost (bp : Nat) (most : Int) (w : World) (e : Ending) (w' : World) : Prop :=
 ∃ (l : List Int) (A : Option Addr) (c : Nat) (s : Int) (I : List (Nat × BA)), e = .returned (.slice A l.length c) ∧ ((l.length : Int) ≤ most ∧ ∀ q ∈ l, q = 1 ∨ q = 2) ∧ u64ok s ∧ Sl 3 1 (.slice A l.length c) l.length (ic l) I ∧ Mem w (fun b => b = bp) w' (I ++ [(bp, .cells [.int .u64 s])])
theorem ic_snoc (l : List Int) (x : Int) : ic l ++ [.int .i64 x] = ic (l ++ [x]) := by simp [ic]
end Go.Proofs.Ytlahdenlmmlplaa
end

section
/-
 voice: the verdicts on all pairs.
-/
namespace Go.Proofs.Ytlahdenlmmlplaa
set_option linter.unusedSimpArgs false
set_option linter.unusedVariables false
open Go.RowKit
theorem Try.info22 : (Try.prog.info? 22).map (fun i => (i.zero, i.size, i.bytes)) = some (some (.slice none 0 0), 1, 24) := by kernel_rfl
def Els (LL : List LE) (I : List (Nat × BA)) : Prop := ∀ x ∈ LL, ∃ b o, ∀ (w : World) (ex : Nat → Prop), Sp w ex I x.2.1 x.1.length 1 b o (ic x.1)
theorem Els.mono {LL : List LE} {I I' : List (Nat × BA)} (h : Els LL I) (hs : I.Sublist I') : Els LL I' := fun x hx => by
 obtain ⟨b, o, h1⟩ := h x hx
 exact ⟨b, o, fun w ex => (h1 w ex).mono hs⟩
theorem Els.snoc {LL : List LE} {I : List (Nat × BA)} (h : Els LL I) (l : List Int) (g c : Nat) (ys : List Value) : Els (LL ++ [(l, some ⟨g, 0, none⟩, c)]) (I ++ [(g, .cells (ic l ++ ys))]) := fun x hx => by
 rcases List.mem_append.1 hx with hx | hx
 · exact h.mono (List.sublist_append_left _ _) x hx
 · simp only [List.mem_cons, List.not_mem_nil, or_false] at hx
   subst hx
   exact ⟨g, 0, fun w ex => (Sp.pre (by simp [ic_length])).mono (List.sublist_append_right _ _)⟩
theorem lc_snoc (l : List LE) (x : List Int) (B : Option Addr) (c : Nat) : lc l ++ [.slice B x.length c] = lc (l ++ [(x, B, c)]) := by simp [lc]
theorem Mem.as {w0 w : World} {ex : Nat → Prop} {L L' : List (Nat × BA)} (M : Mem w0 ex w L) (h : L = L') : Mem w0 ex w L' := h ▸ M
theorem take_set {l R : List Int} {q : Nat} {v : Int} (h : l.take q = R.take q) (hR : R[q]? = some v) (hq : q < l.length) : (l.set q v).take (q + 1) = R.take (q + 1) := by
 rw [List.take_add_one, List.take_add_one, hR, List.take_set_of_le (Nat.le_refl _), h, List.getElem?_set_self hq]
section
variable {P : Program} {op : Oper} {a : Act} {K : Act → World → Prop} {Q : Exit → Act → World → Prop} {w0 w : World} {ex : Nat → Prop} {L : List (Nat × BA)} {E : List (Nat × Value)} {df : List Deferred} {t n : Nat}
theorem madeCells_ic (m : Nat) : madeCells (Value.cells (.int .i64 0)) (m * 1) = (ic (List.replicate m 0) ++ []).toArray := by
 apply Array.ext
 · simp [madeCells, ic]
 · intro i h1 h2
   simp [madeCells, ic, Value.cells, Nat.mod_one]
theorem ow_ms {ty e m : Nat} {x y : Operand} (M : Mem w0 ex w L) (T : TmD df a n E) (ho : op.op = .makeSlice ty x y) (hd : op.dst = some t) (hf : freshE E t = true) (hn : Nat.blt t n = true) (hx : a.eval x = .int .i64 (m : Int)) (hy : a.eval y = .int .i64 (m : Int))
   (ht : P.underlying ty = some (.slice e)) (hinfo : (P.info? e).map (fun i => (i.zero, i.size, i.bytes)) = some (some (.int .i64 0), 1, 8)) (hm : m ≤ 1000000)
   (h : ∀ g w' a', Mem w0 ex w' ((g, .cells (ic (List.replicate m 0) ++ [])) :: L) → TmD df a' n ((t, .slice (some ⟨g, 0, none⟩) m m) :: E) → K a' w') : op.wp P a w K Q := by
 obtain ⟨i, hi, hz, hs, hb⟩ := info_parts hinfo
 have hr := run_makeSlice (P := P) w ty e i _ ht hi hz .i64 .i64 (m : Int) (m : Int) (by omega) (Int.le_refl _) (by rw [hs]; omega) (by rw [hb]; omega) (by omega)
 rw [hs, Int.toNat_natCast, madeCells_ic] at hr
 unfold Oper.wp execOp
 simp only [ho, hx, hy, hr, Sem.run_bind, Result.andThen_ok, Sem.run_pure]
 rw [Oper.upon_value, hd]
 exact h _ _ _ (M.new _ _) (T.put hn hf _)
end
def ListsPost (R : List (List Int)) (w : World) (e : Ending) (w' : World) : Prop := ∃ (A : Option Addr) (c : Nat) (LL : List LE) (I : List (Nat × BA)), e = .returned (.slice A LL.length c) ∧ LL.map (·.1) = R ∧ (∃ b o, ∀ (w : World) (ex : Nat → Prop), Sp w ex I A LL.length 1 b o (lc LL)) ∧ Els LL I ∧ Mem w noEx w' I
theorem rowP_length (b : Bx) (x : Snd) : (rowP b x).length = b.highs.length := by simp [rowP]
theorem take_row {b : Bx} {k : Nat} {x : Snd} (h : b.lows[k]? = some x) : (b.lows.take (k + 1)).map (rowP b) = (b.lows.take k).map (rowP b) ++ [rowP b x] := by rw [List.take_add_one, h]; simp
theorem table_any (b : Bx) (A : Option Addr) (c : Nat) (B : Option Addr) (d : Nat) (w : World) (hA : Rd w w.heap.size 4 A b.lows.length (sc b.lows)) (hB : Rd w w.heap.size 4 B b.highs.length (sc b.highs)) (gb : b.good) :
   Calls Try.prog 71 #[bxV b A c B d] w (ListsPost (tableP b) w) := by
 have hlA := hA.len4
 have hlB := hB.len4
 obtain ⟨bA, oA, SA⟩ := Sp.old hA
 obtain ⟨bB, oB, SB⟩ := Sp.old hB
 have gl3 := gb.law.span
 have gl4 := gb.law.press
 have gn := gb.note
 have gf := gb.law.first
 have gs := gb.law.step
 have gd := gb.due
 unfold Bx.due at gd
 dsimp only at gl3 gl4 gf gs
 have nA := gb.lows.1
 have nB := gb.highs.1
 refine px_enter noEx Try.func71 rfl 49 rfl [.agg #[.int .i64 b.first, .int .i64 b.step, .int .i64 b.span, .int .i64 b.press, .int .i64 b.note, .slice A b.lows.length c, .slice B b.highs.length d, .int .i64 b.t0, .int .i64 b.t1, .int .i64 b.r0, .int .i64 b.r1, .int .i64 b.u0, .int .i64 b.u1, .int .i64 b.d0, .int .i64 b.d1, .int .i64 b.a0, .int .i64 b.a1, .int .i64 b.b0, .int .i64 b.b1, .int .i64 b.le, .int .i64 b.me]] rfl rfl (Mem.init w _) ?_
 intro ac wc T M
 refine wp_seq ?_
 refine wp_region_lit ?_
 refine l_w rfl ?_; intro K hK
 refine ow_bx M T rfl rfl rfl rfl (T.ev 0 rfl) rfl ?_; clear M T; intro g1 wc ac M T
 refine sh_out hK _ _ ?_; clear hK K
 refine lq T (rn_assign rfl evc) ?_; clear T ac; intro ac T
 refine wpList_nil ?_
 replace T := T.pick [1] rfl
 refine nm_then ?_
 refine wp_seq ?_
 refine wp_region_lit ?_
 refine lq T (rn_assign rfl evc) ?_; clear T ac; intro ac T
 refine wpList_nil ?_
 refine nm_then ?_
 refine wp_seq ?_
 refine wp_seq ?_
 refine wp_region_lit ?_
 refine lq (v := (.pointer (some ⟨g1, 5, none⟩))) T (rn_fieldAddr (off := 5) rfl (T.ev 1 rfl) (fun _ _ _ => by kernel_rfl)) ?_; clear T ac; intro ac T
 refine lq T (rn_one (Mem.nth M 0 rfl) rfl (T.ev 0 rfl) rfl) ?_; clear T ac; intro ac T
 refine lq T (rn_lenS rfl Try.underlying38 (T.ev 0 rfl)) ?_; clear T ac; intro ac T
 refine lq T (rn_move rfl evc) ?_; clear T ac; intro ac T
 refine wpList_nil ?_
 replace T := T.pick [0, 1, 2, 4, 5] rfl
 refine nm_then ?_
 refine wp_block ?_
 refine wp_loop_n (fun mz ac wc => ∃ (k : Nat) (OL : List LE) (B3 : Option Addr) (c3 : Nat) (Ie Io : List (Nat × BA)), mz = b.lows.length - k ∧ (k ≤ b.lows.length) ∧ (OL.map (·.1) = (b.lows.take k).map (rowP b)) ∧ (OL.length = k) ∧ (Els OL Ie) ∧ (Sl 22 1 (.slice B3 OL.length c3) OL.length (lc OL) Io) ∧ Tm ac 49 [(1, .pointer (some ⟨g1, 0, none⟩)), (3, .slice B3 OL.length c3), (10, .slice A b.lows.length c), (11, .int .i64 ((b.lows.length : Nat) : Int)), (12, .int .i64 (k : Int))] ∧ Mem w noEx wc ((g1, .cells [.int .i64 b.first, .int .i64 b.step, .int .i64 b.span, .int .i64 b.press, .int .i64 b.note, .slice A b.lows.length c, .slice B b.highs.length d, .int .i64 b.t0, .int .i64 b.t1, .int .i64 b.r0, .int .i64 b.r1, .int .i64 b.u0, .int .i64 b.u1, .int .i64 b.d0, .int .i64 b.d1, .int .i64 b.a0, .int .i64 b.a1, .int .i64 b.b0, .int .i64 b.b1, .int .i64 b.le, .int .i64 b.me]) :: (Ie ++ Io))) ?_ ?_
 ·exact ⟨_, 0, [], none, 0, [], [], rfl, (Nat.zero_le _), rfl, rfl, (fun x hx => by cases hx), (Sl.nil _ _), T.pick [4, 3, 2, 1, 0] rfl, ((M.mask [true] rfl).as (by simp))⟩
 clear T M
 rintro mz ac wc ⟨k, OL, B3, c3, Ie, Io, hmm1, hk, hO, hOl, hE, hsl, T, M⟩
 refine wp_seq ?_
 refine wp_region_lit ?_
 refine lq T (rn_lss rfl (T.ev 4 rfl) (T.ev 3 rfl)) ?_; clear T ac; intro ac T
 refine wpList_nil ?_
 refine nm_then ?_
 refine wp_seq ?_
 refine wp_if (T.ev 0 rfl) ?_ ?_
 ·intro h1
  obtain ⟨x, hkx, -⟩ := sc_next (l := b.lows) (k := k) (by omega)
  have gx := gb.lows.2 x (List.mem_of_getElem? hkx)
  refine wp_skip ?_
  refine nm_then ?_
  refine wp_seq ?_
  refine wp_block ?_
  refine wp_seq ?_
  refine wp_region_lit ?_
  refine lq T (rn_indexAddr (size := 4) k rfl (T.ev 3 rfl) (T.ev 5 rfl) ⟨_, Try.underlying38, by kernel_rfl⟩ rfl (by omega) (SA.at0 (by omega))) ?_; clear T ac; intro ac T
  refine lq (v := (.agg #[.int .i64 x.t0, .int .i64 x.t1, .int .i64 x.s0, .int .i64 x.s1])) T (rn_rowat (Sp.scR4 SA M (List.nil_sublist _) hkx) rfl (T.ev 0 rfl) rfl) ?_; clear T ac; intro ac T
  refine l_w rfl ?_; intro K hK
  refine ow_al M T rfl rfl rfl rfl ?_; clear M T; intro g2 wc ac M T
  refine sh_out hK _ _ ?_; clear hK K
  refine l_w rfl ?_; intro K hK
  refine ow_stO M T rfl rfl (T.ev 0 rfl) (T.ev 1 rfl) rfl .head rfl (by simp) rfl (by kernel_rfl) ?_; clear M T; intro wc ac M T
  refine sh_out hK _ _ ?_; clear hK K
  refine wpList_nil ?_
  replace T := T.pick [0, 4, 5, 6, 7, 8] rfl
  refine nm_then ?_
  refine wp_seq ?_
  refine wp_region_lit ?_
  refine lq (v := (.pointer (some ⟨g1, 6, none⟩))) T (rn_fieldAddr (off := 6) rfl (T.ev 1 rfl) (fun _ _ _ => by kernel_rfl)) ?_; clear T ac; intro ac T
  refine lq T (rn_one (Mem.nth M 1 rfl) rfl (T.ev 0 rfl) rfl) ?_; clear T ac; intro ac T
  refine lq T (rn_lenS rfl Try.underlying38 (T.ev 0 rfl)) ?_; clear T ac; intro ac T
  refine l_w rfl ?_; intro K hK
  refine ow_ms (m := b.highs.length) M T rfl rfl rfl rfl (T.ev 0 rfl) (T.ev 0 rfl) Try.underlying22 Try.info3 (by omega) ?_; clear M T; intro g3 wc ac M T
  obtain ⟨lm1, hlm1⟩ : ∃ q : List Int, q = List.replicate b.highs.length 0 := ⟨_, rfl⟩
  have llm1 : lm1.length = b.highs.length := by rw [hlm1, List.length_replicate]
  rw [← hlm1] at M
  have Ss1 := Sp.pre (w := w) (ex := noEx) (size := 1) (n := lm1.length) (g := g3) (xs := ic lm1) (ys := []) (by simp [ic_length])
  refine sh_out hK _ _ ?_; clear hK K
  refine lq T (rn_assign rfl (T.ev 0 rfl)) ?_; clear T ac; intro ac T
  refine wpList_nil ?_
  replace T := T.pick [0, 5, 6, 7, 8, 9, 10] rfl
  refine nm_then ?_
  refine wp_seq ?_
  refine wp_seq ?_
  refine wp_region_lit ?_
  refine lq (v := (.pointer (some ⟨g1, 6, none⟩))) T (rn_fieldAddr (off := 6) rfl (T.ev 2 rfl) (fun _ _ _ => by kernel_rfl)) ?_; clear T ac; intro ac T
  refine lq T (rn_one (Mem.nth M 2 rfl) rfl (T.ev 0 rfl) rfl) ?_; clear T ac; intro ac T
  refine lq T (rn_lenS rfl Try.underlying38 (T.ev 0 rfl)) ?_; clear T ac; intro ac T
  refine lq T (rn_move rfl evc) ?_; clear T ac; intro ac T
  refine wpList_nil ?_
  replace T := T.pick [0, 1, 2, 4, 5, 6, 7, 8, 9, 10] rfl
  refine nm_then ?_
  refine wp_block ?_
  refine wp_loop_n (fun mz ac wc => ∃ (iq : Nat) (rw : List Int), mz = b.highs.length - iq ∧ (iq ≤ b.highs.length) ∧ (rw.length = b.highs.length) ∧ (rw.take iq = (rowP b x).take iq) ∧ Tm ac 49 [(1, .pointer (some ⟨g1, 0, none⟩)), (3, .slice B3 OL.length c3), (5, .pointer (some ⟨g2, 0, none⟩)), (6, .slice (some ⟨g3, 0, none⟩) b.highs.length b.highs.length), (10, .slice A b.lows.length c), (11, .int .i64 ((b.lows.length : Nat) : Int)), (12, .int .i64 (k : Int)), (21, .slice B b.highs.length d), (22, .int .i64 ((b.highs.length : Nat) : Int)), (23, .int .i64 (iq : Int))] ∧ Mem w noEx wc ((g3, .cells (ic rw ++ [])) :: (g2, .cells [.int .i64 x.t0, .int .i64 x.t1, .int .i64 x.s0, .int .i64 x.s1]) :: (g1, .cells [.int .i64 b.first, .int .i64 b.step, .int .i64 b.span, .int .i64 b.press, .int .i64 b.note, .slice A b.lows.length c, .slice B b.highs.length d, .int .i64 b.t0, .int .i64 b.t1, .int .i64 b.r0, .int .i64 b.r1, .int .i64 b.u0, .int .i64 b.u1, .int .i64 b.d0, .int .i64 b.d1, .int .i64 b.a0, .int .i64 b.a1, .int .i64 b.b0, .int .i64 b.b1, .int .i64 b.le, .int .i64 b.me]) :: (Ie ++ Io))) ?_ ?_
  ·exact ⟨_, 0, lm1, rfl, (Nat.zero_le _), llm1, rfl, T.pick [5, 6, 4, 3, 7, 8, 9, 2, 1, 0] rfl, M.mask [true, true, true] rfl⟩
  clear T M
  rintro mz ac wc ⟨iq, rw, hmm2, hq, hrl, hrw, T, M⟩
  refine wp_seq ?_
  refine wp_region_lit ?_
  refine lq T (rn_lss rfl (T.ev 9 rfl) (T.ev 8 rfl)) ?_; clear T ac; intro ac T
  refine wpList_nil ?_
  refine nm_then ?_
  refine wp_seq ?_
  refine wp_if (T.ev 0 rfl) ?_ ?_
  ·intro h2
   obtain ⟨y, hky, -⟩ := sc_next (l := b.highs) (k := iq) (by omega)
   have gy := gb.highs.2 y (List.mem_of_getElem? hky)
   have Srw := Sp.pre (w := w) (ex := noEx) (size := 1) (n := rw.length) (g := g3) (xs := ic rw) (ys := []) (by simp [ic_length])
   refine wp_skip ?_
   refine nm_then ?_
   refine wp_seq ?_
   refine wp_block ?_
   refine wp_seq ?_
   refine wp_region_lit ?_
   refine lq T (rn_move rfl (T.ev 10 rfl)) ?_; clear T ac; intro ac T
   refine lq T (rn_indexAddr (size := 4) iq rfl (T.ev 9 rfl) (T.ev 11 rfl) ⟨_, Try.underlying38, by kernel_rfl⟩ rfl (by omega) (SB.at0 (by omega))) ?_; clear T ac; intro ac T
   refine lq (v := (.agg #[.int .i64 y.t0, .int .i64 y.t1, .int .i64 y.s0, .int .i64 y.s1])) T (rn_rowat (Sp.scR4 SB M (List.nil_sublist _) hky) rfl (T.ev 0 rfl) rfl) ?_; clear T ac; intro ac T
   refine l_w rfl ?_; intro K hK
   refine ow_al M T rfl rfl rfl rfl ?_; clear M T; intro g4 wc ac M T
   refine sh_out hK _ _ ?_; clear hK K
   refine lq T (rn_assign rfl (T.ev 3 rfl)) ?_; clear T ac; intro ac T
   refine l_w rfl ?_; intro K hK
   refine ow_stO M T rfl rfl (T.ev 1 rfl) (T.ev 2 rfl) rfl .head rfl (by simp) rfl (by kernel_rfl) ?_; clear M T; intro wc ac M T
   refine sh_out hK _ _ ?_; clear hK K
   refine wpList_nil ?_
   replace T := T.pick [0, 1, 6, 7, 8, 9, 10, 11, 12, 13, 14, 15] rfl
   refine nm_then ?_
   refine g_start2 M (M.mask [false, false, false, false] rfl) 15 (by kernel_rfl) rfl (by kernel_rfl) ?_
   clear M; intro wc M
   refine g_addG 14 M ?_
   refine g_have (fun ac wc => ∃ (gr9_11 : Nat), Tm ac 49 [(39, .slice (some ⟨gr9_11, 0, none⟩) 2 2), (36, .int .i64 (b.first + b.step * b.note)), (38, .agg #[.int .i64 y.t0, .int .i64 y.t1, .int .i64 y.s0, .int .i64 y.s1]), (37, .agg #[.int .i64 x.t0, .int .i64 x.t1, .int .i64 x.s0, .int .i64 x.s1]), (35, .int .i64 b.note), (34, .pointer (some ⟨g1, 4, none⟩)), (33, .agg #[.int .i64 b.first, .int .i64 b.step, .int .i64 b.span, .int .i64 b.press]), (32, .pointer (some ⟨g1, 0, none⟩)), (31, .agg #[.int .i64 b.first, .int .i64 b.step, .int .i64 b.span, .int .i64 b.press]), (30, .pointer (some ⟨g1, 0, none⟩)), (29, .int .i64 (iq : Int)), (28, .slice (some ⟨g3, 0, none⟩) b.highs.length b.highs.length), (7, .int .i64 (iq : Int)), (8, .pointer (some ⟨g4, 0, none⟩)), (1, .pointer (some ⟨g1, 0, none⟩)), (3, .slice B3 OL.length c3), (5, .pointer (some ⟨g2, 0, none⟩)), (6, .slice (some ⟨g3, 0, none⟩) b.highs.length b.highs.length), (10, .slice A b.lows.length c), (11, .int .i64 ((b.lows.length : Nat) : Int)), (12, .int .i64 (k : Int)), (21, .slice B b.highs.length d), (22, .int .i64 ((b.highs.length : Nat) : Int)), (23, .int .i64 (iq : Int))] ∧ Mem w noEx wc ((gr9_11, .cells [.int .i64 x.t0, .int .i64 x.t1, .int .i64 x.s0, .int .i64 x.s1, .int .i64 y.t0, .int .i64 y.t1, .int .i64 y.s0, .int .i64 y.s1]) :: (g4, .cells [.int .i64 y.t0, .int .i64 y.t1, .int .i64 y.s0, .int .i64 y.s1]) :: (g3, .cells (ic rw ++ [])) :: (g2, .cells [.int .i64 x.t0, .int .i64 x.t1, .int .i64 x.s0, .int .i64 x.s1]) :: (g1, .cells [.int .i64 b.first, .int .i64 b.step, .int .i64 b.span, .int .i64 b.press, .int .i64 b.note, .slice A b.lows.length c, .slice B b.highs.length d, .int .i64 b.t0, .int .i64 b.t1, .int .i64 b.r0, .int .i64 b.r1, .int .i64 b.u0, .int .i64 b.u1, .int .i64 b.d0, .int .i64 b.d1, .int .i64 b.a0, .int .i64 b.a1, .int .i64 b.b0, .int .i64 b.b1, .int .i64 b.le, .int .i64 b.me]) :: (Ie ++ Io))) (pbits 15 4095) 3 ?_ ?_
   ·clear T M
    rintro ac wc ⟨gr9_11, T, M⟩
    refine gw 12 8191 ?_; intro K hK
    refine ow_call (first := []) (cap := []) T rfl rfl rfl rfl evf (.cons (T.ev 8 rfl) (.cons (T.ev 1 rfl) (.cons (T.ev 0 rfl) .nil))) Try.func55 rfl rfl ?_
    refine Calls.mono (keeps_any b.law (b.first + b.step * b.note) _ _ _ [x, y] _ (by (try dsimp only); omega) (by (try dsimp only); omega) (by (try dsimp only); omega) (by intro z hz; simp only [List.mem_cons, List.not_mem_nil, or_false] at hz; rcases hz with rfl | rfl; exact gx; exact gy) (M.rdOwn (nthE_mem (i := 0) rfl) rfl rfl) (by first | omega | (simp only [List.length_cons, List.length_nil]; omega))) ?_
    clear T
    rintro e wc ⟨rfl, hb⟩
    intro ac T
    replace M := M.call hb; clear hb
    refine sh_out hK _ _ (MA.mk (fun _ => M.mask [false, true, true, true, true] rfl) (M.mask [false, false, false, false, false] rfl)) ?_; clear hK K
    refine gq T 13 16383 rfl (fun _ _ _ _ _ => (rn_indexAddr (size := 1) iq rfl (T.ev 12 rfl) (T.ev 11 rfl) ⟨_, Try.underlying22, by kernel_rfl⟩ rfl (by omega) rfl)) ?_; clear T ac; intro ac T
    refine gw 14 32767 ?_; intro K hK
    refine ow_stI M T rfl rfl (T.ev 0 rfl) (T.ev 1 rfl) (.tail (.tail .head)) (by omega) rfl ?_; clear M T; intro wc ac M T
    obtain ⟨lo1, hlo1⟩ : ∃ q, q = rw.set iq (keepsP b.law (b.first + b.step * b.note) [x, y]) := ⟨_, rfl⟩
    have lhlo1 : rw.length = lo1.length := by rw [hlo1, List.length_set]
    rw [← hlo1] at M; (try rw [lhlo1] at M); (try rw [lhlo1] at T)
    have Ss2 := Sp.pre (w := w) (ex := noEx) (size := 1) (n := lo1.length) (g := g3) (xs := ic lo1) (ys := []) (by simp [ic_length])
    refine sh_out hK _ _ (MA.mk (fun h => (no_of (by kernel_rfl) h).elim) (M.mask [false, false, false, false, false] rfl)) ?_; clear hK K
    refine g_done (by kernel_rfl) ?_
    replace T := T.pick [16, 17, 18, 19, 20, 21, 22, 23, 24, 25] rfl
    replace M := M.mask [false, false, true, true, true] rfl
    refine nm_blk ?_
    refine nm_then ?_
    refine wp_region_lit ?_
    refine lq T (rn_add rfl (T.ev 9 rfl) evc (by omega)) ?_; clear T ac; intro ac T
    refine l_q (v := (.int .i64 ((iq : Int) + 1))) (T.pick [0, 1, 2, 3, 4, 5, 6, 7, 8, 9] rfl) rfl rfl rfl rfl (rn_move rfl (T.ev 0 rfl)) ?_; clear T ac; intro ac T
    refine wpList_nil ?_
    replace T := T.pick [0, 2, 3, 4, 5, 6, 7, 8, 9, 10] rfl
    refine nm_then ?_
    exact ⟨_, by omega, iq + 1, lo1, rfl, (by omega), (by omega), (by rw [hlo1]; exact take_set hrw (by unfold rowP; rw [List.getElem?_map, hky]; rfl) (by omega)), T.pick [1, 2, 3, 4, 5, 6, 7, 8, 9, 0] rfl, M.mask [true, true, true] rfl⟩
   intro H0
   refine gq T 0 1 rfl (fun _ _ _ _ _ => (rn_move rfl (T.ev 5 rfl))) ?_; clear T ac; intro ac T
   refine gq T 1 3 rfl (fun _ _ _ _ _ => (rn_move rfl (T.ev 1 rfl))) ?_; clear T ac; intro ac T
   refine gq (v := (.pointer (some ⟨g1, 0, none⟩))) T 2 7 rfl (fun _ _ _ _ _ => (rn_fieldAddr (off := 0) rfl (T.ev 4 rfl) (fun _ _ _ => by kernel_rfl))) ?_; clear T ac; intro ac T
   refine gq T 3 15 rfl (fun B w' hD hl hS => (rn_rowO (Mem.nth (show Mem w noEx w' _ from ((MA.lft hS) (hD.wait (i := 3) (m := 14) (by kernel_rfl) hl))) 3 rfl) rfl (T.ev 0 rfl) rfl)) ?_; clear T ac; intro ac T
   refine gq (v := (.pointer (some ⟨g1, 0, none⟩))) T 4 31 rfl (fun _ _ _ _ _ => (rn_fieldAddr (off := 0) rfl (T.ev 6 rfl) (fun _ _ _ => by kernel_rfl))) ?_; clear T ac; intro ac T
   refine gq T 5 63 rfl (fun B w' hD hl hS => (rn_rowO (Mem.nth (show Mem w noEx w' _ from ((MA.lft hS) (hD.wait (i := 5) (m := 14) (by kernel_rfl) hl))) 3 rfl) rfl (T.ev 0 rfl) rfl)) ?_; clear T ac; intro ac T
   refine gq (v := (.pointer (some ⟨g1, 4, none⟩))) T 6 127 rfl (fun _ _ _ _ _ => (rn_fieldAddr (off := 4) rfl (T.ev 8 rfl) (fun _ _ _ => by kernel_rfl))) ?_; clear T ac; intro ac T
   refine gq T 7 255 rfl (fun B w' hD hl hS => (rn_one (Mem.nth (show Mem w noEx w' _ from ((MA.lft hS) (hD.wait (i := 7) (m := 14) (by kernel_rfl) hl))) 3 rfl) rfl (T.ev 0 rfl) rfl)) ?_; clear T ac; intro ac T
   refine gq T 9 767 rfl (fun B w' hD hl hS => (rn_rowO (Mem.nth (show Mem w noEx w' _ from ((MA.lft hS) (hD.wait (i := 9) (m := 14) (by kernel_rfl) hl))) 2 rfl) rfl (T.ev 12 rfl) rfl)) ?_; clear T ac; intro ac T
   refine gq T 10 1791 rfl (fun B w' hD hl hS => (rn_rowO (Mem.nth (show Mem w noEx w' _ from ((MA.lft hS) (hD.wait (i := 10) (m := 14) (by kernel_rfl) hl))) 0 rfl) rfl (T.ev 10 rfl) rfl)) ?_; clear T ac; intro ac T
   refine g_m2 (i := 8) (j := 11) (by kernel_rfl) ?_ ?_
   ·refine gi 2047 ?_; intro K hK
    refine ow_call (first := []) (cap := []) T rfl rfl rfl rfl evf (.cons (T.ev 4 rfl) (.cons (T.ev 2 rfl) .nil)) Try.func56 rfl rfl ?_
    refine Calls.mono (vdue_any b.law b.note _ (by (try dsimp only); omega) (by (try dsimp only); omega) (by (try dsimp only); omega)) ?_
    clear T
    rintro e wc ⟨rfl, hb⟩
    intro ac T
    replace M := M.call hb; clear hb
    refine sh_out hK _ _ (MA.mk (fun _ => M.mask [true, true, true, true] rfl) (M.mask [false, false, false, false] rfl)) ?_; clear hK K
    refine gw 11 4095 ?_; intro K hK
    refine ow_bs (e := 48) [.int .i64 x.t0, .int .i64 x.t1, .int .i64 x.s0, .int .i64 x.s1, .int .i64 y.t0, .int .i64 y.t1, .int .i64 y.s0, .int .i64 y.s1] M T rfl rfl rfl rfl (.cons (T.ev 2 rfl) (.cons (T.ev 1 rfl) .nil)) (fun _ => by kernel_rfl) ?_; clear M T; intro gr9_11 wc ac M T
    refine sh_out hK _ _ (MA.mk (fun _ => M.mask [false, true, true, true, true] rfl) (M.mask [false, false, false, false, false] rfl)) ?_; clear hK K
    exact H0 _ _ ⟨gr9_11, T, M⟩
   refine gi 3839 ?_; intro K hK
   refine ow_bs (e := 48) [.int .i64 x.t0, .int .i64 x.t1, .int .i64 x.s0, .int .i64 x.s1, .int .i64 y.t0, .int .i64 y.t1, .int .i64 y.s0, .int .i64 y.s1] M T rfl rfl rfl rfl (.cons (T.ev 1 rfl) (.cons (T.ev 0 rfl) .nil)) (fun _ => by kernel_rfl) ?_; clear M T; intro gr9_11 wc ac M T
   refine sh_out hK _ _ (MA.mk (fun _ => M.mask [false, true, true, true, true] rfl) (M.mask [false, false, false, false, false] rfl)) ?_; clear hK K
   refine gw 8 4095 ?_; intro K hK
   refine ow_call (first := []) (cap := []) T rfl rfl rfl rfl evf (.cons (T.ev 5 rfl) (.cons (T.ev 3 rfl) .nil)) Try.func56 rfl rfl ?_
   refine Calls.mono (vdue_any b.law b.note _ (by (try dsimp only); omega) (by (try dsimp only); omega) (by (try dsimp only); omega)) ?_
   clear T
   rintro e wc ⟨rfl, hb⟩
   intro ac T
   replace M := M.call hb; clear hb
   refine sh_out hK _ _ (MA.mk (fun _ => M.mask [false, true, true, true, true] rfl) (M.mask [false, false, false, false, false] rfl)) ?_; clear hK K
   exact H0 _ _ ⟨gr9_11, T.pick [1, 0, 2, 3, 4, 5, 6, 7, 8, 9, 10, 11, 12, 13, 14, 15, 16, 17, 18, 19, 20, 21, 22, 23] rfl, M⟩
  intro h2
  have hrow : rw = rowP b x := by rw [List.take_of_length_le (by omega), List.take_of_length_le (by rw [rowP_length]; omega)] at hrw; exact hrw
  refine wp_exit ?_
  refine ex_then ?_
  refine ex_then ?_
  refine ex_hit ?_
  refine nm_then ?_
  refine wp_region_lit ?_
  refine lq T (rn_move rfl (T.ev 2 rfl)) ?_; clear T ac; intro ac T
  refine lq T (rn_move rfl (T.ev 5 rfl)) ?_; clear T ac; intro ac T
  refine l_w rfl ?_; intro K hK
  refine ow_bs (e := 22) [.slice (some ⟨g3, 0, none⟩) b.highs.length b.highs.length] M T rfl rfl rfl rfl (.cons (T.ev 0 rfl) .nil) (fun _ => by kernel_rfl) ?_; clear M T; intro g5 wc ac M T
  refine sh_out hK _ _ ?_; clear hK K
  refine l_w rfl ?_; intro K hK
  refine ow_app (((g5, .cells [.slice (some ⟨g3, 0, none⟩) b.highs.length b.highs.length]) :: (g3, .cells (ic rw ++ [])) :: (g2, .cells [.int .i64 x.t0, .int .i64 x.t1, .int .i64 x.s0, .int .i64 x.s1]) :: (g1, .cells [.int .i64 b.first, .int .i64 b.step, .int .i64 b.span, .int .i64 b.press, .int .i64 b.note, .slice A b.lows.length c, .slice B b.highs.length d, .int .i64 b.t0, .int .i64 b.t1, .int .i64 b.r0, .int .i64 b.r1, .int .i64 b.u0, .int .i64 b.u1, .int .i64 b.d0, .int .i64 b.d1, .int .i64 b.a0, .int .i64 b.a1, .int .i64 b.b0, .int .i64 b.b1, .int .i64 b.le, .int .i64 b.me]) :: Ie)) Try.info22 hsl M (by first | rfl | simp) T rfl rfl rfl rfl Try.underlying62 rfl rfl rfl (by omega) (T.ev 2 rfl) (T.ev 0 rfl) (nthE_mem (i := 0) rfl) rfl rfl ?_; clear M T; intro ga1 cga1 wc ac M T
  refine sh_out hK _ _ ?_; clear hK K
  refine l_q (v := (.slice (some ⟨ga1, 0, none⟩) (OL.length + 1) cga1)) (T.pick [0, 1, 2, 3, 4, 5, 7, 8, 9, 10, 11, 12, 13, 14] rfl) rfl rfl rfl rfl (rn_assign rfl (T.ev 0 rfl)) ?_; clear T ac; intro ac T
  refine wpList_nil ?_
  replace T := T.pick [0, 6, 9, 10, 11] rfl
  replace M := M.mask [true, false, true, false, true] rfl
  refine nm_blk ?_
  refine nm_then ?_
  refine wp_region_lit ?_
  refine lq T (rn_add rfl (T.ev 4 rfl) evc (by omega)) ?_; clear T ac; intro ac T
  refine l_q (v := (.int .i64 ((k : Int) + 1))) (T.pick [0, 1, 2, 3, 4] rfl) rfl rfl rfl rfl (rn_move rfl (T.ev 0 rfl)) ?_; clear T ac; intro ac T
  refine wpList_nil ?_
  replace T := T.pick [0, 2, 3, 4, 5] rfl
  refine nm_then ?_
  have e9 : OL.length + 1 = (OL ++ [(rw, (some ⟨g3, 0, none⟩ : Option Addr), b.highs.length)]).length := by simp
  have e8 : ((lc OL) ++ [.slice (some ⟨g3, 0, none⟩) b.highs.length b.highs.length]) = lc (OL ++ [(rw, (some ⟨g3, 0, none⟩ : Option Addr), b.highs.length)]) := by rw [← lc_snoc, hrl]
  rw [e9, e8] at M
  rw [e9] at T
  clear e9 e8
  exact ⟨_, by omega, k + 1, (OL ++ [(rw, (some ⟨g3, 0, none⟩ : Option Addr), b.highs.length)]), _, _, (Ie ++ [(g3, .cells (ic rw ++ []))]), [(ga1, .row 22 1 (OL ++ [(rw, (some ⟨g3, 0, none⟩ : Option Addr), b.highs.length)]).length (lc (OL ++ [(rw, (some ⟨g3, 0, none⟩ : Option Addr), b.highs.length)])) cga1)], rfl, (by omega), (by rw [take_row hkx, List.map_append, hO, hrow]; rfl), (by simp [hOl]), (hE.snoc _ _ _ _), (Sl.row _ _ _ _ _ _), T.pick [2, 1, 3, 4, 0] rfl, ((Mem.swapI (I := [(g3, .cells (ic rw ++ [])), (ga1, .row 22 1 (OL ++ [(rw, (some ⟨g3, 0, none⟩ : Option Addr), b.highs.length)]).length (lc (OL ++ [(rw, (some ⟨g3, 0, none⟩ : Option Addr), b.highs.length)])) cga1)]) (L := [(g1, .cells [.int .i64 b.first, .int .i64 b.step, .int .i64 b.span, .int .i64 b.press, .int .i64 b.note, .slice A b.lows.length c, .slice B b.highs.length d, .int .i64 b.t0, .int .i64 b.t1, .int .i64 b.r0, .int .i64 b.r1, .int .i64 b.u0, .int .i64 b.u1, .int .i64 b.d0, .int .i64 b.d1, .int .i64 b.a0, .int .i64 b.a1, .int .i64 b.b0, .int .i64 b.b1, .int .i64 b.le, .int .i64 b.me])] ++ Ie) (M.permT [1, 0, 2] 3 rfl rfl rfl rfl)).as (by simp))⟩
 intro h1
 refine wp_exit ?_
 refine ex_then ?_
 refine ex_then ?_
 refine ex_hit ?_
 refine nm_then ?_
 refine wp_seq ?_
 refine wp_region_lit ?_
 refine lq T (rn_move rfl (T.ev 2 rfl)) ?_; clear T ac; intro ac T
 refine lq T (rn_assign rfl (T.ev 0 rfl)) ?_; clear T ac; intro ac T
 refine wpList_nil ?_
 replace T := T.pick [0] rfl
 replace M := M.mask [false] rfl
 refine nm_then ?_
 refine wp_ret ?_
 refine rt_1 T rfl (T.ev 0 rfl) ?_
 obtain ⟨b9, o9, h9⟩ := hsl.spV (by simp [lc_length])
 exact ⟨B3, c3, OL, Ie ++ Io, rfl, by rw [hO, List.take_of_length_le (by omega)]; rfl, ⟨b9, o9, fun w ex => (h9 w ex).mono (List.sublist_append_right _ _)⟩, hE.mono (List.sublist_append_left _ _), M.mask [] rfl⟩
end Go.Proofs.Ytlahdenlmmlplaa
end

section
/-
 Pairings of tongues, in plain words: sets of numbers as bits, all pairings in order, the first one with the most pairs.
-/
namespace Go.Proofs.Ytlahdenlmmlplaa
set_option linter.unusedSimpArgs false
set_option linter.unusedVariables false
open Go.RowKit
def shlI (x n : Int) : Int := IntKind.i64.wrap (x * 2 ^ min n.toNat 64)
def shrI (x n : Int) : Int := x.fdiv (2 ^ min n.toNat 64)
def andI (x y : Int) : Int := IntKind.i64.wrap ((BitVec.ofInt 64 x &&& BitVec.ofInt 64 y).toNat)
def orI (x y : Int) : Int := IntKind.i64.wrap ((BitVec.ofInt 64 x ||| BitVec.ofInt 64 y).toNat)
section
variable {P : Program} {op : Oper} {a : Act} {w : World} {t t' : TypeId} {x y : Operand} {p q : Int}
theorem rn_shl (ho : op.op = .binOp .shl t x y t') (hx : a.eval x = .int .i64 p) (hy : a.eval y = .int .i64 q) (hb : 0 ≤ q) : Runs P op a (.int .i64 (shlI p q)) w :=
 rn_bin ho hx hy (by
   show (Op.shift .shl .i64 p .i64 q).run P w = _
   unfold Op.shift
   rw [if_neg (by omega)]
   rfl)
theorem rn_shr (ho : op.op = .binOp .shr t x y t') (hx : a.eval x = .int .i64 p) (hy : a.eval y = .int .i64 q) (hb : 0 ≤ q) : Runs P op a (.int .i64 (shrI p q)) w :=
 rn_bin ho hx hy (by
   show (Op.shift .shr .i64 p .i64 q).run P w = _
   unfold Op.shift
   rw [if_neg (by omega)]
   rfl)
theorem rn_and (ho : op.op = .binOp .and t x y t') (hx : a.eval x = .int .i64 p) (hy : a.eval y = .int .i64 q) : Runs P op a (.int .i64 (andI p q)) w := rn_bin ho hx hy rfl
theorem rn_or (ho : op.op = .binOp .or t x y t') (hx : a.eval x = .int .i64 p) (hy : a.eval y = .int .i64 q) : Runs P op a (.int .i64 (orI p q)) w := rn_bin ho hx hy rfl
end
def hasI (s n : Int) : Bool := decide (andI (shrI s n) 1 = 1)
def withI (s n : Int) : Int := orI s (shlI 1 n)
def sizeI (s : Int) : Nat := (List.range 5).countP fun k => hasI s (k : Nat)
theorem with_fin : ∀ (s : Fin 32) (n : Fin 5), (0 ≤ withI s.val n.val ∧ withI s.val n.val < 32) ∧ ∀ k : Fin 5, hasI (withI s.val n.val) k.val = (hasI s.val k.val || decide (k = n)) := by decide +kernel
theorem size_fin : ∀ s : Fin 32, 0 < s.val → (0 ≤ andI s.val ((s.val : Int) - 1) ∧ andI s.val ((s.val : Int) - 1) < s.val) ∧ sizeI (andI s.val ((s.val : Int) - 1)) + 1 = sizeI s.val := by decide +kernel
theorem with_bd {s n : Int} (hs : 0 ≤ s ∧ s < 32) (hn : 0 ≤ n ∧ n < 5) : 0 ≤ withI s n ∧ withI s n < 32 := by
 have h := (with_fin ⟨s.toNat, by omega⟩ ⟨n.toNat, by omega⟩).1
 simp only [Int.toNat_of_nonneg hs.1, Int.toNat_of_nonneg hn.1] at h
 exact h
theorem with_has {s n k : Int} (hs : 0 ≤ s ∧ s < 32) (hn : 0 ≤ n ∧ n < 5) (hk : 0 ≤ k ∧ k < 5) : hasI (withI s n) k = (hasI s k || decide (k = n)) := by
 have h := (with_fin ⟨s.toNat, by omega⟩ ⟨n.toNat, by omega⟩).2 ⟨k.toNat, by omega⟩
 simp only [Int.toNat_of_nonneg hs.1, Int.toNat_of_nonneg hn.1, Int.toNat_of_nonneg hk.1] at h
 rw [h]
 congr 1
 apply decide_eq_decide.2
 rw [Fin.mk.injEq]
 omega
theorem size_step {s : Int} (hs : 0 < s ∧ s < 32) : (0 ≤ andI s (s - 1) ∧ andI s (s - 1) < s) ∧ sizeI (andI s (s - 1)) + 1 = sizeI s := by
 have h := size_fin ⟨s.toNat, by omega⟩ (by show 0 < s.toNat; omega)
 simp only [Int.toNat_of_nonneg (show 0 ≤ s by omega)] at h
 exact h
theorem has0 {k : Int} (hk : 0 ≤ k ∧ k < 5) : hasI 0 k = false := by
 have h : ∀ k : Fin 5, hasI 0 k.val = false := by decide +kernel
 have := h ⟨k.toNat, by omega⟩
 simpa only [Int.toNat_of_nonneg hk.1] using this
theorem size0 : sizeI 0 = 0 := by decide +kernel
def pairsP : List Int → Int
 | [] => 0
 | h :: l => (if 0 ≤ h then 1 else 0) + pairsP l
theorem pairsP_snoc (l : List Int) (h : Int) : pairsP (l ++ [h]) = pairsP l + (if 0 ≤ h then 1 else 0) := by
 induction l with
 | nil => simp [pairsP]
 | cons x l ih =>
   show _ + pairsP (l ++ [h]) = _ + pairsP l + _
   rw [ih]
   omega
def offerP : Option (List Int) → List Int → Option (List Int)
 | none, l => some l
 | some b, l => if pairsP b < pairsP l then some l else some b
def goP (may : Nat → Nat → Bool) (l : List Int) (h : Nat) : Bool := !(l.contains (h : Int)) && may l.length h
def prsP (may : Nat → Nat → Bool) (highs : Nat) : Nat → List Int → List (List Int)
 | 0, l => [l]
 | r + 1, l => ((List.range highs).flatMap fun h => if goP may l h then prsP may highs r (l ++ [(h : Int)]) else []) ++ prsP may highs r (l ++ [-1])
def growP (may : Nat → Nat → Bool) (highs r : Nat) (l : List Int) (b : Option (List Int)) : Option (List Int) := (prsP may highs r l).foldl offerP b
def partP (may : Nat → Nat → Bool) (highs r : Nat) (l : List Int) (b : Option (List Int)) (h : Nat) : Option (List Int) := ((List.range h).flatMap fun h => if goP may l h then prsP may highs r (l ++ [(h : Int)]) else []).foldl offerP b
theorem partP_zero (may : Nat → Nat → Bool) (highs r : Nat) (l : List Int) (b : Option (List Int)) : partP may highs r l b 0 = b := rfl
theorem partP_skip {may : Nat → Nat → Bool} {highs r : Nat} {l : List Int} {b : Option (List Int)} {h : Nat} (hg : goP may l h = false) : partP may highs r l b (h + 1) = partP may highs r l b h := by
 unfold partP
 rw [List.range_succ, List.flatMap_append, List.foldl_append]
 simp [hg]
theorem partP_go {may : Nat → Nat → Bool} {highs r : Nat} {l : List Int} {b : Option (List Int)} {h : Nat} (hg : goP may l h = true) : partP may highs r l b (h + 1) = growP may highs r (l ++ [(h : Int)]) (partP may highs r l b h) := by
 unfold partP growP
 rw [List.range_succ, List.flatMap_append, List.foldl_append]
 simp [hg]
theorem growP_succ (may : Nat → Nat → Bool) (highs r : Nat) (l : List Int) (b : Option (List Int)) : growP may highs (r + 1) l b = growP may highs r (l ++ [-1]) (partP may highs r l b highs) := by
 unfold growP partP
 rw [prsP, List.foldl_append]
def tabP (T : List (List Int)) (ok : Int → Bool) (i k : Nat) : Bool := ok ((T.getD i []).getD k 0)
def mostO (T : List (List Int)) (ok : Int → Bool) (lows highs : Nat) : Option (List Int) := growP (tabP T ok) highs lows [] none
def mostP (T : List (List Int)) (ok : Int → Bool) (lows highs : Nat) : List Int := (mostO T ok lows highs).getD []
end Go.Proofs.Ytlahdenlmmlplaa
end

section
/-
 A callee that may change some blocks that are the caller's own; what a recursion leaves as it was; a list copied behind an empty literal.
-/
namespace Go.Proofs.Ytlahdenlmmlplaa
set_option linter.unusedSimpArgs false
set_option linter.unusedVariables false
open Go.RowKit
theorem Mem.joinX {w0 w w' : World} {ex ex' : Nat → Prop} {X X' F : List (Nat × BA)} (M : Mem w0 ex w (X ++ F)) (N : Mem w ex' w' X') (hx : ∀ b, ex' b → inL X b) : Mem w0 ex w' (X' ++ F) := by
 have hX : ∀ b, ex' b → w0.heap.size ≤ b ∨ ex b := fun b hb => by
   obtain ⟨q, hq, rfl⟩ := List.mem_map.1 (hx b hb)
   exact (M.blk q (List.mem_append_left _ hq)).1
 have hnd := M.nd
 rw [List.map_append] at hnd
 obtain ⟨n1, n2, n3⟩ := List.nodup_append.1 hnd
 refine ⟨N.os.trans M.os, N.tape.trans M.tape, N.output.trans M.output, Nat.le_trans M.size N.size, fun b hb hxb => ?_, fun q hq => ?_, ?_⟩
 · refine (N.block b (Nat.lt_of_lt_of_le hb M.size) fun e => ?_).trans (M.block b hb hxb)
   rcases hX b e with h | h
   · omega
   · exact hxb h
 · rcases List.mem_append.1 hq with hq | hq
   · have h := N.blk q hq
     refine ⟨?_, h.2⟩
     rcases h.1 with h | h
     · exact .inl (Nat.le_trans M.size h)
     · exact hX _ h
   · have h := M.blk q (List.mem_append_right _ hq)
     exact ⟨h.1, BA.same h.2 N.size (N.block _ (BA.lt h.2) fun e => by
       obtain ⟨r, hr, e2⟩ := List.mem_map.1 (hx _ e)
       exact n3 r.1 (List.mem_map.2 ⟨r, hr, rfl⟩) q.1 (List.mem_map.2 ⟨q, hq, rfl⟩) e2)⟩
 · rw [List.map_append]
   refine List.nodup_append.2 ⟨N.nd, n2, fun a ha b hb e => ?_⟩
   obtain ⟨q, hq, rfl⟩ := List.mem_map.1 ha
   obtain ⟨r, hr, rfl⟩ := List.mem_map.1 hb
   have h2 := BA.lt (M.blk r (List.mem_append_right _ hr)).2
   rcases (N.blk q hq).1 with h1 | h1
   · omega
   · obtain ⟨s, hs, e2⟩ := List.mem_map.1 (hx _ h1)
     exact n3 s.1 (List.mem_map.2 ⟨s, hs, rfl⟩) r.1 (List.mem_map.2 ⟨r, hr, rfl⟩) (e2.trans e)
theorem Mem.spin {w0 w : World} {ex : Nat → Prop} (X Y Z : List (Nat × BA)) (M : Mem w0 ex w (X ++ (Y ++ Z))) : Mem w0 ex w (X ++ (Z ++ Y)) :=
 have hp : (X ++ (Y ++ Z)).Perm (X ++ (Z ++ Y)) := List.Perm.append_left X List.perm_append_comm
 ⟨M.os, M.tape, M.output, M.size, M.block, fun p h => M.blk p (hp.mem_iff.2 h), (hp.map _).nodup_iff.1 M.nd⟩
theorem Mem.wide {w0 w w' : World} {ex ex' : Nat → Prop} {L L' : List (Nat × BA)} (M : Mem w0 ex w L) (N : Mem w ex' w' L') (hx : ∀ b, ex' b → inL L b) : Mem w0 ex w' [] :=
 (Mem.joinX (F := []) (by rw [List.append_nil]; exact M) N hx).sub (List.nil_sublist _)
theorem Sp.move {w0 w : World} {ex ex' : Nat → Prop} {L : List (Nat × BA)} {A : Option Addr} {n size b o : Nat} {xs : List Value} (M : Mem w0 ex w L) (hx : ∀ b, ex' b → inL L b) (S : Sp w0 ex [] A n size b o xs) : Sp w ex' [] A n size b o xs :=
 ⟨S.at0, S.len, fun w' L' M' _ hn => S.lt w' [] (M.wide M' hx) (List.Sublist.refl _) hn, fun w' L' M' _ j v hv => S.cell w' [] (M.wide M' hx) (List.Sublist.refl _) j v hv⟩
def Old (w : World) (ex : Nat → Prop) (g : Nat) (cs : List Value) : Prop := Bk w g cs.toArray ∧ ¬ ex g
theorem Old.move {w0 w : World} {ex ex' : Nat → Prop} {L : List (Nat × BA)} {g : Nat} {cs : List Value} (M : Mem w0 ex w L) (hx : ∀ b, ex' b → inL L b) (h : Old w0 ex g cs) : Old w ex' g cs :=
 ⟨M.old h.1 h.2, fun e => by
   obtain ⟨q, hq, rfl⟩ := List.mem_map.1 (hx _ e)
   have := h.1.lt
   rcases (M.blk q hq).1 with h1 | h1
   · omega
   · exact h.2 h1⟩
theorem Old.of {w0 w : World} {ex ex' : Nat → Prop} {L X : List (Nat × BA)} {g : Nat} {cs : List Value} (M : Mem w0 ex w (X ++ L)) (hx : ∀ b, ex' b → inL X b) (h : (g, BA.cells cs) ∈ L) : Old w ex' g cs :=
 ⟨M.get (List.mem_append_right _ h), fun e => by
   have hnd := M.nd
   rw [List.map_append] at hnd
   obtain ⟨s, hs, e2⟩ := List.mem_map.1 (hx _ e)
   exact (List.nodup_append.1 hnd).2.2 s.1 (List.mem_map.2 ⟨s, hs, rfl⟩) g (List.mem_map.2 ⟨_, h, rfl⟩) e2⟩
theorem Sp.of {w0 w : World} {ex ex' : Nat → Prop} {L X I : List (Nat × BA)} {A : Option Addr} {n size b o : Nat} {xs : List Value} (M : Mem w0 ex w (X ++ L)) (hx : ∀ b, ex' b → inL X b) (S : Sp w0 ex I A n size b o xs) (hI : I.Sublist L) : Sp w ex' [] A n size b o xs :=
 ⟨S.at0, S.len, fun w' L' M' _ hn => S.lt w' _ (Mem.joinX M M' hx) (hI.trans (List.sublist_append_right _ _)) hn, fun w' L' M' _ j v hv => S.cell w' _ (Mem.joinX M M' hx) (hI.trans (List.sublist_append_right _ _)) j v hv⟩
theorem Sp.other {w : World} {n g : Nat} {A : Option Addr} {l : List Int} {cs : List Value} (h : Rd w w.heap.size 1 A n (ic l)) (hB : Bk w g cs.toArray) (hc : ∀ v ∈ cs, ∀ k i, v ≠ .int k i) : ∃ b o, Sp w (fun b => b = g) [] A n 1 b o (ic l) := by
 rcases Nat.eq_zero_or_pos n with rfl | hn
 · refine ⟨0, 0, by omega, h.1, fun _ _ _ _ h => absurd h (by omega), fun _ _ _ _ j u hu => ?_⟩
   have : ic l = [] := List.eq_nil_of_length_eq_zero (by have := h.1; omega)
   simp [this] at hu
 · obtain ⟨b, o, h1, h2, h3⟩ := h.2 hn
   refine ⟨b, o, fun _ => h1, h.1, fun w' L M _ _ => Nat.lt_of_lt_of_le h2 M.size, fun w' L M _ j u hu => (World.cell?_of_block (w := w) (a := ⟨b, o + j, none⟩) (M.block b h2 fun e => ?_)).trans (h3 j u hu)⟩
   have e : b = g := e
   subst e
   have hl := h.1
   rw [ic_length] at hl
   obtain ⟨x, hx⟩ : ∃ x, l[0]? = some x := ⟨_, List.getElem?_eq_getElem (by omega)⟩
   have h4 := h3 0 (.int .i64 x) (by unfold ic; rw [List.getElem?_map, hx]; rfl)
   rw [hB.cell] at h4
   have h5 : (cs.toArray)[o + 0]? = some (.int .i64 x) := h4
   have h6 : Value.int .i64 x ∈ cs := by
     rw [List.getElem?_toArray] at h5
     exact List.mem_of_getElem? h5
   exact hc _ h6 _ _ rfl
section
variable {P : Program} {op : Oper} {a : Act} {K : Act → World → Prop} {Q : Exit → Act → World → Prop} {w0 w : World} {ex : Nat → Prop} {L0 L : List (Nat × BA)} {E : List (Nat × Value)} {t n : Nat}
theorem ow_bs0 {ty e : TypeId} (M : Mem w0 ex w L) (T : Tm a n E) (ho : op.op = .buildSlice ty 0 #[]) (hd : op.dst = some t) (hf : freshE E t = true) (hn : Nat.blt t n = true)
   (hr : ∀ w : World, (Instr.buildSlice ty 0 #[]).run P w = .ok (.slice (some ⟨w.heap.size, 0, none⟩) 0 0) (w.alloc (.cells #[] e)))
   (h : ∀ g w' a', Mem w0 ex w' ((g, .any fun o => o = .cells #[] e) :: L) → Tm a' n ((t, .slice (some ⟨g, 0, none⟩) 0 0) :: E) → K a' w') : op.wp P a w K Q := by
 unfold Oper.wp execOp
 simp only [ho]
 have e2 : ((#[] : Array (Nat × Operand)).map fun (i, x) => (i, a.eval x)) = #[] := by simp
 rw [Sem.run_bind, e2, hr]
 exact h w.heap.size _ _ (M.newAny (.cells #[] e) (fun o => o = .cells #[] e) rfl) (by rw [hd]; exact T.put hn hf _)
theorem ow_appS {s x : Operand} {ty e size bytes b m d : Nat} {B : Option Addr} {z : Value} {cs : List Value}
   (hinfo : (P.info? e).map (fun i => (i.zero, i.size, i.bytes)) = some (some z, size, bytes)) (M : Mem w0 ex w ((b, .any fun o => o = .cells #[] e) :: L)) (T : Tm a n E)
   (ho : op.op = .call { callee := .builtin .append, args := #[s, x], argTypes := #[ty, ty] }) (hd : op.dst = some t) (hf : freshE E t = true) (hnn : Nat.blt t n = true)
   (h0 : ∀ g (w : World), (Builtin.append_ #[ty, ty] op.type #[.slice (some ⟨g, 0, none⟩) 0 0, .slice B 0 d]).run P w = .ok (.slice (some ⟨g, 0, none⟩) 0 0) w)
   (ht : P.underlying ty = some (.slice e)) (hzs : z.cells.size = size) (hsz : Nat.blt 0 size = true) (hby : Nat.ble bytes 1000 = true) (hm : m ≤ 1000000)
   (hs : a.eval s = .slice (some ⟨b, 0, none⟩) 0 0) (hx : a.eval x = .slice B m d) (hr : Rd w w.heap.size size B m cs) (h1 : ∀ u ∈ cs, u.oneCell' = true)
   (h : ∀ A' c' I' w' a', Sm e size A' m c' cs I' → Mem w0 ex w' (I' ++ L) → Tm a' n ((t, .slice A' m c') :: E) → K a' w') : op.wp P a w K Q := by
 rcases Nat.eq_zero_or_pos m with rfl | hm0
 · obtain rfl : cs = [] := List.eq_nil_of_length_eq_zero (by have := hr.1; omega)
   unfold Oper.wp execOp
   simp only [ho, resolve, invoke, builtin, Sem.run_bind, Sem.run_pure, Result.andThen_ok, List.map_toArray, List.map_cons, List.map_nil, hs, hx, h0]
   exact h _ _ [(b, .any fun o => o = .cells #[] e)] w _ (.inl ⟨rfl, rfl, rfl, b, rfl, rfl⟩) M (by rw [hd]; exact T.put hnn hf _)
 · obtain ⟨i, hi, hz0, hz1, hz2⟩ := info_parts hinfo
   obtain ⟨g2, o2, rfl, hlt, hc⟩ := hr.cells hm0
   have hby := Nat.le_of_ble_eq_true hby
   have hsz := Nat.le_of_ble_eq_true hsz
   have hbb : (0 + m) * bytes ≤ 140737488355328 := by
     have : (0 + m) * bytes ≤ 1000000 * 1000 := Nat.mul_le_mul (by omega) hby
     omega
   obtain ⟨h2, o, hge, rfl⟩ := M.blk (b, .any fun o => o = .cells #[] e) List.mem_cons_self
   have hgl : b < w.heap.size := (Array.getElem?_eq_some_iff.1 hge).1
   refine wp_append_lies w s x ty ho b e i z size bytes ht hi hz0 hz1 hz2 hzs hsz _ 0 [] hs ⟨by simp, .inr ⟨b, 0, #[], rfl, Nat.le_refl _, hge, by omega, by unfold maxLen; omega, by simp, by simp⟩⟩ ⟨g2, o2, none⟩ m d cs hx hr.1 (fun j u hu => by rw [Addr.add_mid]; exact hc j u hu) h1 hm0 (by unfold maxLen; omega) hbb (Nat.le_of_lt hgl) w.heap.size rfl ?_
   intro g cap' w' hown hgr hat hlt2
   have hgr : w.grownBy w' (some b) := hgr
   simp only [Nat.zero_add, List.nil_append] at hown
   have key : Mem w0 ex w' ((g, .row e size m cs cap') :: L) := by
     rcases hat with h3 | h3
     · have h3 : some b = some g := h3
       injection h3 with h3
       subst h3
       exact M.callW (L' := (b, .row e size m cs cap') :: L) .head hgr (own_rebase hown hm0)
     · have M1 := M.callW (L' := (b, .any (fun _ => True)) :: L) .head hgr (by
         have hl0 : b < w'.heap.size := Nat.lt_of_lt_of_le hgl hgr.size
         exact ⟨w'.heap[b], Array.getElem?_eq_getElem hl0, trivial⟩)
       exact M1.forget.add (by rw [h3]; exact M.size) (own_rebase hown hm0) (fun q hq e => by have := BA.lt (M.blk q (List.mem_cons_of_mem _ hq)).2; omega)
   have e0 : a.put op.dst (.slice (some ⟨g, 0, none⟩) (0 + m) cap') = a.put op.dst (.slice (some ⟨g, 0, none⟩) m cap') := by rw [Nat.zero_add]
   rw [e0]
   exact h _ _ [(g, .row e size m cs cap')] w' _ (.inr ⟨g, rfl, rfl⟩) key (by rw [hd]; exact T.put hnn hf _)
end
def KS (best : Option (List Int)) (A : Option Addr) (n : Nat) (is : Bool) (I : List (Nat × BA)) : Prop :=
 n = (best.getD []).length ∧ n ≤ 5 ∧ is = best.isSome ∧ ∃ b o, ∀ (w : World) (ex : Nat → Prop), Sp w ex I A n 1 b o (ic (best.getD []))
theorem KS.nil (A : Option Addr) : KS none A 0 false [] := ⟨rfl, by omega, rfl, 0, 0, fun _ _ => Sp.nil⟩
def offC (is : Bool) (lb l : List Int) (new old : Value) : List Value := if ((!is) || decide (pairsP lb < pairsP l)) = true then [new, .bool true] else [old, .bool is]
theorem offer_ks {best : Option (List Int)} {l : List Int} {A Ab : Option Addr} {n nb c cb : Nat} {is : Bool} {I Ib : List (Nat × BA)} (h : KS best Ab nb is Ib) (hl : ∃ b o, ∀ (w : World) (ex : Nat → Prop), Sp w ex I A n 1 b o (ic l)) (hn : n = l.length) (hn5 : n ≤ 5) :
   ∃ A' n' c' is' I', offC is (best.getD []) l (.slice A n c) (.slice Ab nb cb) = [.slice A' n' c', .bool is'] ∧ KS (offerP best l) A' n' is' I' ∧ (I' = I ∨ I' = Ib) := by
 obtain ⟨h1, h2, rfl, h3⟩ := h
 cases best with
 | none => exact ⟨A, n, c, true, I, by simp [offC], ⟨hn, hn5, rfl, hl⟩, .inl rfl⟩
 | some b =>
   by_cases hp : pairsP b < pairsP l
   · exact ⟨A, n, c, true, I, by simp [offC, hp], by simp only [offerP, hp, if_true]; exact ⟨hn, hn5, rfl, hl⟩, .inl rfl⟩
   · exact ⟨Ab, nb, cb, true, Ib, by simp [offC, hp], by simp only [offerP, hp, if_false]; exact ⟨h1, h2, rfl, h3⟩, .inr rfl⟩
def UsedOk (s : Int) (l : List Int) : Prop := (0 ≤ s ∧ s < 32) ∧ ∀ k : Nat, k < 5 → hasI s k = l.contains (k : Int)
theorem UsedOk.nil : UsedOk 0 [] := ⟨by omega, fun k hk => by rw [has0 (by omega)]; rfl⟩
theorem UsedOk.with {s : Int} {l : List Int} {h : Nat} (u : UsedOk s l) (hh : h < 5) : UsedOk (withI s h) (l ++ [(h : Int)]) := by
 refine ⟨with_bd u.1 (by omega), fun k hk => ?_⟩
 rw [with_has u.1 (by omega) (by omega), u.2 k hk]
 simp [List.contains_eq_any_beq, List.any_append, eq_comm]
 try rfl
theorem UsedOk.skip {s : Int} {l : List Int} (u : UsedOk s l) : UsedOk s (l ++ [-1]) := by
 refine ⟨u.1, fun k hk => ?_⟩
 rw [u.2 k hk]
 have : ((k : Int) == -1) = false := by rw [beq_eq_false_iff_ne]; omega
 simp [List.contains_eq_any_beq, List.any_append, this]
def stG (may : Nat → Nat → Bool) (highs r : Nat) (l : List Int) (b : Option (List Int)) (h : Nat) : Option (List Int) := if h ≤ highs then partP may highs r l b h else growP may highs (r + 1) l b
theorem stG_zero (may : Nat → Nat → Bool) (highs r : Nat) (l : List Int) (b : Option (List Int)) : stG may highs r l b 0 = b := by rw [stG, if_pos (Nat.zero_le _), partP_zero]
theorem stG_skip {may : Nat → Nat → Bool} {highs r : Nat} {l : List Int} {b : Option (List Int)} {h : Nat} (hh : h < highs) (hg : goP may l h = false) : stG may highs r l b (h + 1) = stG may highs r l b h := by
 rw [stG, if_pos (by omega), stG, if_pos (by omega), partP_skip hg]
theorem stG_go {may : Nat → Nat → Bool} {highs r : Nat} {l : List Int} {b : Option (List Int)} {h : Nat} (hh : h < highs) (hg : goP may l h = true) : stG may highs r l b (h + 1) = growP may highs r (l ++ [(h : Int)]) (stG may highs r l b h) := by
 rw [stG, if_pos (by omega), stG, if_pos (by omega), partP_go hg]
theorem stG_last {may : Nat → Nat → Bool} {highs r : Nat} {l : List Int} {b : Option (List Int)} : stG may highs r l b (highs + 1) = growP may highs r (l ++ [-1]) (stG may highs r l b highs) := by
 rw [stG, if_neg (by omega), stG, if_pos (Nat.le_refl _), growP_succ]
theorem stG_end {may : Nat → Nat → Bool} {highs r : Nat} {l : List Int} {b : Option (List Int)} {h : Nat} (hh : highs < h) : stG may highs r l b h = growP may highs (r + 1) l b := by rw [stG, if_neg (by omega)]
structure GE where
 lo : Nat
 me : Nat
 hi : Nat
 ma : Nat
 gr : Nat
 kb : Nat
 mb : Nat
 tb : Nat
 fo : Nat
 lows : Nat
 highs : Nat
 A : Option Addr
 c : Nat
 LL : List LE
abbrev pV (g : Nat) : Value := .pointer (some ⟨g, 0, none⟩)
structure GEnv (e : GE) (w : World) (ex : Nat → Prop) : Prop where
 lo : Old w ex e.lo [.int .i64 (e.lows : Int)]
 me : Old w ex e.me [.func (.func 102) #[] #[pV e.kb]]
 hi : Old w ex e.hi [.int .i64 (e.highs : Int)]
 ma : Old w ex e.ma [.func (.func 101) #[] #[pV e.mb, pV e.tb]]
 gr : Old w ex e.gr [.func (.func 122) #[] #[pV e.lo, pV e.me, pV e.hi, pV e.ma, pV e.gr]]
 mb : Old w ex e.mb [.func (.func e.fo) #[] #[]]
 tb : Old w ex e.tb [.slice e.A e.LL.length e.c]
 sp : ∃ b o, Sp w ex [] e.A e.LL.length 1 b o (lc e.LL)
 els : ∀ x ∈ e.LL, ∃ b o, Sp w ex [] x.2.1 x.1.length 1 b o (ic x.1)
theorem GEnv.move {e : GE} {w0 w : World} {ex ex' : Nat → Prop} {L : List (Nat × BA)} (M : Mem w0 ex w L) (hx : ∀ b, ex' b → inL L b) (h : GEnv e w0 ex) : GEnv e w ex' :=
 ⟨h.lo.move M hx, h.me.move M hx, h.hi.move M hx, h.ma.move M hx, h.gr.move M hx, h.mb.move M hx, h.tb.move M hx,
   (by obtain ⟨b, o, h1⟩ := h.sp; exact ⟨b, o, h1.move M hx⟩), fun x hx' => (by obtain ⟨b, o, h1⟩ := h.els x hx'; exact ⟨b, o, h1.move M hx⟩)⟩
def GrowPost (kb : Nat) (best : Option (List Int)) (w : World) (ex : Nat → Prop) (e : Ending) (w' : World) : Prop :=
 ∃ A n c is I, e = .returned (.bool true) ∧ KS best A n is I ∧ Mem w ex w' ((kb, .cells [.slice A n c, .bool is]) :: I)
def MayOk (e : GE) (may : Nat → Nat → Bool) : Prop := ∀ (w : World) (i h : Nat), GEnv e w noEx → i < e.lows → h < e.highs → Calls Try.prog 101 #[.int .i64 (i : Int), .int .i64 (h : Int), pV e.mb, pV e.tb] w (fun en w' => en = .returned (.bool (may i h)) ∧ Below w.heap.size w w')
theorem goP_of {may : Nat → Nat → Bool} {used : Int} {l : List Int} {h : Nat} {v : Bool} (hu : UsedOk used l) (hh : h < 5) (h5 : (hasI used (h : Int) || !may l.length h) = v) : goP may l h = !v := by
 unfold goP
 rw [← hu.2 h hh, ← h5]
 cases hasI used (h : Int) <;> cases may l.length h <;> rfl
theorem stG_last' {may : Nat → Nat → Bool} {highs r : Nat} {l : List Int} {b : Option (List Int)} {h : Nat} (hh : h = highs) : stG may highs r l b (h + 1) = growP may highs r (l ++ [-1]) (stG may highs r l b h) := by subst hh; exact stG_last
def GrowSpec (e : GE) (may : Nat → Nat → Bool) (r : Nat) : Prop :=
 ∀ (w : World) (exq : Nat → Prop) (l : List Int) (A : Option Addr) (m c : Nat) (used : Int) (bo : Option (List Int)) (Ab : Option Addr) (nb cb : Nat) (is : Bool) (Il Ib : List (Nat × BA)),
   m = l.length → l.length + r = e.lows → UsedOk used l → KS bo Ab nb is Ib → (∃ b o, ∀ (w : World) (ex : Nat → Prop), Sp w ex Il A m 1 b o (ic l)) → GEnv e w exq → Mem w exq w ((e.kb, .cells [.slice Ab nb cb, .bool is]) :: (Ib ++ Il)) →
   Calls Try.prog 122 #[.slice A m c, .int .i64 used, pV e.lo, pV e.me, pV e.hi, pV e.ma, pV e.gr] w (GrowPost e.kb (growP may e.highs r l bo) w exq)
end Go.Proofs.Ytlahdenlmmlplaa
end

section
/-
 voice: pairings.
-/
namespace Go.Proofs.Ytlahdenlmmlplaa
set_option linter.unusedSimpArgs false
set_option linter.unusedVariables false
open Go.RowKit
theorem ic_one (l : List Int) : ∀ u ∈ ic l, u.oneCell' = true := by
 intro u hu
 obtain ⟨p, _, rfl⟩ := List.mem_map.1 hu
 rfl
theorem pairsP_take {l : List Int} {k : Nat} {x : Int} (h : l[k]? = some x) : pairsP (l.take (k + 1)) = pairsP (l.take k) + (if 0 ≤ x then 1 else 0) := by
 rw [List.take_add_one, h]
 exact pairsP_snoc _ _
theorem with_any (s n : Int) (w : World) (hn : 0 ≤ n) :
   Calls Try.prog 74 #[.int .i64 s, .int .i64 n] w fun e w' => e = .returned (.int .i64 (withI s n)) ∧ Below w.heap.size w w' := by
 refine px_enter noEx Try.func74 rfl 9 rfl [.int .i64 s, .int .i64 n] rfl rfl (Mem.init w _) ?_
 intro ac wc T M
 refine wp_seq ?_
 refine wp_region_lit ?_
 refine lq T (rn_assign rfl evc) ?_; clear T ac; intro ac T
 refine wpList_nil ?_
 replace T := T.pick [1, 2] rfl
 refine nm_then ?_
 refine wp_seq ?_
 refine wp_region_lit ?_
 refine lq T (rn_move rfl (T.ev 0 rfl)) ?_; clear T ac; intro ac T
 refine lq T (rn_move rfl (T.ev 2 rfl)) ?_; clear T ac; intro ac T
 refine lq T (rn_shl rfl evc (T.ev 0 rfl) (by omega)) ?_; clear T ac; intro ac T
 refine lq T (rn_or rfl (T.ev 2 rfl) (T.ev 0 rfl)) ?_; clear T ac; intro ac T
 refine lq T (rn_assign rfl (T.ev 0 rfl)) ?_; clear T ac; intro ac T
 refine wpList_nil ?_
 replace T := T.pick [0] rfl
 refine nm_then ?_
 refine wp_ret ?_
 refine rt_1 T rfl (T.ev 0 rfl) ?_
 exact ⟨rfl, M.below⟩
theorem hasT_any (s n : Int) (w : World) (hn : 0 ≤ n) :
   Calls Try.prog 123 #[.int .i64 s, .int .i64 n] w fun e w' => e = .returned (.bool (hasI s n)) ∧ Below w.heap.size w w' := by
 refine px_enter noEx Try.func123 rfl 10 rfl [.int .i64 s, .int .i64 n] rfl rfl (Mem.init w _) ?_
 intro ac wc T M
 refine wp_seq ?_
 refine wp_region_lit ?_
 refine lq T (rn_assign rfl evc) ?_; clear T ac; intro ac T
 refine wpList_nil ?_
 replace T := T.pick [1, 2] rfl
 refine nm_then ?_
 refine wp_seq ?_
 refine wp_region_lit ?_
 refine lq T (rn_move rfl (T.ev 0 rfl)) ?_; clear T ac; intro ac T
 refine lq T (rn_move rfl (T.ev 2 rfl)) ?_; clear T ac; intro ac T
 refine lq T (rn_shr rfl (T.ev 1 rfl) (T.ev 0 rfl) (by omega)) ?_; clear T ac; intro ac T
 refine lq T (rn_and rfl (T.ev 0 rfl) evc) ?_; clear T ac; intro ac T
 refine lq T (rn_eql rfl (T.ev 0 rfl) evc) ?_; clear T ac; intro ac T
 refine lq T (rn_assign rfl (T.ev 0 rfl)) ?_; clear T ac; intro ac T
 refine wpList_nil ?_
 replace T := T.pick [0] rfl
 refine nm_then ?_
 refine wp_ret ?_
 refine rt_1 T rfl (T.ev 0 rfl) ?_
 exact ⟨rfl, M.below⟩
theorem size_any (s : Int) (w : World) (hs : 0 ≤ s ∧ s < 32) :
   Calls Try.prog 73 #[.int .i64 s] w fun e w' => e = .returned (.int .i64 (sizeI s : Nat)) ∧ Below w.heap.size w w' := by
 refine px_enter noEx Try.func73 rfl 13 rfl [.int .i64 s] rfl rfl (Mem.init w _) ?_
 intro ac wc T M
 refine wp_seq ?_
 refine wp_region_lit ?_
 refine lq T (rn_assign rfl evc) ?_; clear T ac; intro ac T
 refine wpList_nil ?_
 replace T := T.pick [1] rfl
 refine nm_then ?_
 refine wp_seq ?_
 refine wp_region_lit ?_
 refine lq T (rn_assign rfl evc) ?_; clear T ac; intro ac T
 refine wpList_nil ?_
 refine nm_then ?_
 refine wp_seq ?_
 refine wp_block ?_
 refine wp_loop_n (fun mz ac wc => ∃ (r k : Int), mz = r.toNat ∧ (0 ≤ r ∧ r < 32) ∧ (0 ≤ k ∧ k ≤ 32 - r) ∧ ((sizeI s : Int) = k + (sizeI r : Nat)) ∧ Tm ac 13 [(0, .int .i64 r), (3, .int .i64 k)] ∧ Mem w noEx wc []) ?_ ?_
 ·exact ⟨_, s, 0, rfl, (by omega), (by omega), (by omega), T.pick [1, 0] rfl, M.mask [] rfl⟩
 clear T M
 rintro mz ac wc ⟨r, k, hmm1, hr, hk, H, T, M⟩
 refine wp_seq ?_
 refine wp_seq ?_
 refine wp_region_lit ?_
 refine lq T (rn_move rfl (T.ev 0 rfl)) ?_; clear T ac; intro ac T
 refine lq T (rn_gtr rfl (T.ev 0 rfl) evc) ?_; clear T ac; intro ac T
 refine wpList_nil ?_
 replace T := T.pick [0, 2, 3] rfl
 refine nm_then ?_
 refine wp_if (T.ev 0 rfl) ?_ ?_
 ·intro h1
  have hz := size_step (s := r) (by omega)
  refine wp_skip ?_
  refine nm_then ?_
  refine wp_seq ?_
  refine wp_block ?_
  refine wp_region_lit ?_
  refine lq T (rn_move rfl (T.ev 2 rfl)) ?_; clear T ac; intro ac T
  refine lq T (rn_add rfl (T.ev 0 rfl) evc (by omega)) ?_; clear T ac; intro ac T
  refine l_q (v := (.int .i64 (k + 1))) (T.pick [0, 1, 2, 3] rfl) rfl rfl rfl rfl (rn_assign rfl (T.ev 0 rfl)) ?_; clear T ac; intro ac T
  refine wpList_nil ?_
  replace T := T.pick [0, 4] rfl
  refine nm_blk ?_
  refine nm_then ?_
  refine wp_region_lit ?_
  refine lq T (rn_move rfl (T.ev 1 rfl)) ?_; clear T ac; intro ac T
  refine lq T (rn_move rfl (T.ev 2 rfl)) ?_; clear T ac; intro ac T
  refine lq T (rn_sub rfl (T.ev 0 rfl) evc (by omega)) ?_; clear T ac; intro ac T
  refine lq T (rn_and rfl (T.ev 2 rfl) (T.ev 0 rfl)) ?_; clear T ac; intro ac T
  refine l_q (v := (.int .i64 (andI r (r - 1)))) (T.pick [0, 1, 2, 3, 4] rfl) rfl rfl rfl rfl (rn_assign rfl (T.ev 0 rfl)) ?_; clear T ac; intro ac T
  refine wpList_nil ?_
  replace T := T.pick [0, 5] rfl
  refine nm_then ?_
  exact ⟨_, by omega, _, _, rfl, (by omega), (by omega), (by omega), T.pick [0, 1] rfl, M.mask [] rfl⟩
 intro h1
 obtain rfl : r = 0 := by omega
 rw [size0] at H
 refine wp_exit ?_
 refine ex_then ?_
 refine ex_then ?_
 refine ex_hit ?_
 refine nm_then ?_
 refine wp_seq ?_
 refine wp_region_lit ?_
 refine lq T (rn_move rfl (T.ev 2 rfl)) ?_; clear T ac; intro ac T
 refine lq T (rn_assign rfl (T.ev 0 rfl)) ?_; clear T ac; intro ac T
 refine wpList_nil ?_
 replace T := T.pick [0] rfl
 refine nm_then ?_
 refine wp_ret ?_
 refine rt_1 T rfl (T.ev 0 rfl) ?_
 exact ⟨ret_int (by omega), M.below⟩
theorem pairs_any (A : Option Addr) (m c : Nat) (l : List Int) (w : World) (hr : Rd w w.heap.size 1 A m (ic l)) (hm : m ≤ 1000000)  :
   Calls Try.prog 70 #[.slice A m c] w fun e w' => e = .returned (.int .i64 (pairsP l)) ∧ Below w.heap.size w w' := by
 have hml := hr.len1
 obtain ⟨bA, oA, SA⟩ := Sp.old hr
 refine px_enter noEx Try.func70 rfl 18 rfl [.slice A m c] rfl rfl (Mem.init w _) ?_
 intro ac wc T M
 refine wp_seq ?_
 refine wp_region_lit ?_
 refine lq T (rn_assign rfl evc) ?_; clear T ac; intro ac T
 refine wpList_nil ?_
 replace T := T.pick [1] rfl
 refine nm_then ?_
 refine wp_seq ?_
 refine wp_region_lit ?_
 refine lq T (rn_assign rfl evc) ?_; clear T ac; intro ac T
 refine wpList_nil ?_
 refine nm_then ?_
 refine wp_seq ?_
 refine wp_seq ?_
 refine wp_region_lit ?_
 refine lq T (rn_move rfl (T.ev 1 rfl)) ?_; clear T ac; intro ac T
 refine lq T (rn_lenS rfl Try.underlying22 (T.ev 0 rfl)) ?_; clear T ac; intro ac T
 refine lq T (rn_move rfl evc) ?_; clear T ac; intro ac T
 refine wpList_nil ?_
 replace T := T.pick [0, 1, 2, 3] rfl
 refine nm_then ?_
 refine wp_block ?_
 refine wp_loop_n (fun mz ac wc => ∃ (k : Nat) (q : Int), mz = m - k ∧ (k ≤ m) ∧ (0 ≤ q ∧ q ≤ k) ∧ (q = pairsP (l.take k)) ∧ Tm ac 18 [(3, .int .i64 q), (6, .slice A m c), (7, .int .i64 ((m : Nat) : Int)), (8, .int .i64 (k : Int))] ∧ Mem w noEx wc []) ?_ ?_
 ·exact ⟨_, 0, 0, rfl, (Nat.zero_le _), (by omega), rfl, T.pick [3, 2, 1, 0] rfl, M.mask [] rfl⟩
 clear T M
 rintro mz ac wc ⟨k, q, hmm1, hk, hq, H, T, M⟩
 refine wp_seq ?_
 refine wp_region_lit ?_
 refine lq T (rn_lss rfl (T.ev 3 rfl) (T.ev 2 rfl)) ?_; clear T ac; intro ac T
 refine wpList_nil ?_
 refine nm_then ?_
 refine wp_seq ?_
 refine wp_if (T.ev 0 rfl) ?_ ?_
 ·intro h1
  obtain ⟨x, hkx, -⟩ := ic_next (l := l) (k := k) (by omega)
  have hpt := pairsP_take hkx
  refine wp_skip ?_
  refine nm_then ?_
  refine cut_seq (fun ac wc => Tm ac 18 [(3, .int .i64 (if 0 ≤ x then (q + 1) else q)), (6, .slice A m c), (7, .int .i64 ((m : Nat) : Int)), (8, .int .i64 (k : Int))] ∧ Mem w noEx wc []) ?_ ?_
  ·refine wp_block ?_
   refine wp_seq ?_
   refine wp_region_lit ?_
   refine lq T (rn_indexAddr (size := 1) k rfl (T.ev 2 rfl) (T.ev 4 rfl) ⟨_, Try.underlying22, by kernel_rfl⟩ rfl (by omega) (SA.at0 (by omega))) ?_; clear T ac; intro ac T
   refine lq T (rn_cell (Sp.ic0 SA M (List.nil_sublist _) hkx) rfl (T.ev 0 rfl)) ?_; clear T ac; intro ac T
   refine lq T (rn_assign rfl (T.ev 0 rfl)) ?_; clear T ac; intro ac T
   refine wpList_nil ?_
   replace T := T.pick [0, 4, 5, 6, 7] rfl
   refine nm_then ?_
   refine wp_seq ?_
   refine wp_region_lit ?_
   refine lq T (rn_move rfl (T.ev 0 rfl)) ?_; clear T ac; intro ac T
   refine lq T (rn_geq rfl (T.ev 0 rfl) evc) ?_; clear T ac; intro ac T
   refine wpList_nil ?_
   replace T := T.pick [0, 3, 4, 5, 6] rfl
   refine nm_then ?_
   refine wp_if (T.ev 0 rfl) ?_ ?_
   ·intro h2
    refine wp_region_lit ?_
    refine lq T (rn_move rfl (T.ev 1 rfl)) ?_; clear T ac; intro ac T
    refine lq T (rn_add rfl (T.ev 0 rfl) evc (by omega)) ?_; clear T ac; intro ac T
    refine l_q (v := (.int .i64 (q + 1))) (T.pick [0, 1, 2, 4, 5, 6] rfl) rfl rfl rfl rfl (rn_assign rfl (T.ev 0 rfl)) ?_; clear T ac; intro ac T
    refine wpList_nil ?_
    replace T := T.pick [0, 4, 5, 6] rfl
    refine nm_blk ?_
    exact ⟨(T.pick (E' := [(3, .int .i64 (q + 1)), (6, .slice A m c), (7, .int .i64 ((m : Nat) : Int)), (8, .int .i64 (k : Int))]) [0, 1, 2, 3] rfl).as (by (try rw [show (decide (0 ≤ x)) = true from (decide_eq_true h2)]); (try simp only [if_pos h2]); (try rfl)), M.mask [] rfl⟩
   intro h2
   refine wp_skip ?_
   refine nm_blk ?_
   exact ⟨(T.pick (E' := [(3, .int .i64 q), (6, .slice A m c), (7, .int .i64 ((m : Nat) : Int)), (8, .int .i64 (k : Int))]) [1, 2, 3, 4] rfl).as (by (try rw [show (decide (0 ≤ x)) = false from (decide_eq_false h2)]); (try simp only [if_neg h2]); (try rfl)), M.mask [] rfl⟩
  clear T M
  rintro ac wc ⟨T, M⟩
  refine wp_region_lit ?_
  refine lq T (rn_add rfl (T.ev 3 rfl) evc (by omega)) ?_; clear T ac; intro ac T
  refine l_q (v := (.int .i64 ((k : Int) + 1))) (T.pick [0, 1, 2, 3] rfl) rfl rfl rfl rfl (rn_move rfl (T.ev 0 rfl)) ?_; clear T ac; intro ac T
  refine wpList_nil ?_
  replace T := T.pick [0, 2, 3, 4] rfl
  refine nm_then ?_
  exact ⟨_, by omega, k + 1, _, rfl, (by omega), (by (try split) <;> omega), (by rw [hpt, ← H]; (try split) <;> omega), T.pick [1, 2, 3, 0] rfl, M.mask [] rfl⟩
 intro h1
 rw [List.take_of_length_le (by omega)] at H
 refine wp_exit ?_
 refine ex_then ?_
 refine ex_then ?_
 refine ex_hit ?_
 refine nm_then ?_
 refine wp_seq ?_
 refine wp_region_lit ?_
 refine lq T (rn_move rfl (T.ev 1 rfl)) ?_; clear T ac; intro ac T
 refine lq T (rn_assign rfl (T.ev 0 rfl)) ?_; clear T ac; intro ac T
 refine wpList_nil ?_
 replace T := T.pick [0] rfl
 refine nm_then ?_
 refine wp_ret ?_
 refine rt_1 T rfl (T.ev 0 rfl) ?_
 exact ⟨ret_int H, M.below⟩
theorem always_any (x : Int) (w : World)  :
   Calls Try.prog 69 #[.int .i64 x] w fun e w' => e = .returned (.bool (decide (x = 1))) ∧ Below w.heap.size w w' := by
 refine px_enter noEx Try.func69 rfl 5 rfl [.int .i64 x] rfl rfl (Mem.init w _) ?_
 intro ac wc T M
 refine wp_seq ?_
 refine wp_region_lit ?_
 refine lq T (rn_assign rfl evc) ?_; clear T ac; intro ac T
 refine wpList_nil ?_
 replace T := T.pick [1] rfl
 refine nm_then ?_
 refine wp_seq ?_
 refine wp_region_lit ?_
 refine lq T (rn_move rfl (T.ev 0 rfl)) ?_; clear T ac; intro ac T
 refine lq T (rn_eql rfl (T.ev 0 rfl) evc) ?_; clear T ac; intro ac T
 refine lq T (rn_assign rfl (T.ev 0 rfl)) ?_; clear T ac; intro ac T
 refine wpList_nil ?_
 replace T := T.pick [0] rfl
 refine nm_then ?_
 refine wp_ret ?_
 refine rt_1 T rfl (T.ev 0 rfl) ?_
 exact ⟨rfl, M.below⟩
theorem maybe_any (x : Int) (w : World)  :
   Calls Try.prog 75 #[.int .i64 x] w fun e w' => e = .returned (.bool (!decide (x = 2))) ∧ Below w.heap.size w w' := by
 refine px_enter noEx Try.func75 rfl 5 rfl [.int .i64 x] rfl rfl (Mem.init w _) ?_
 intro ac wc T M
 refine wp_seq ?_
 refine wp_region_lit ?_
 refine lq T (rn_assign rfl evc) ?_; clear T ac; intro ac T
 refine wpList_nil ?_
 replace T := T.pick [1] rfl
 refine nm_then ?_
 refine wp_seq ?_
 refine wp_region_lit ?_
 refine lq T (rn_move rfl (T.ev 0 rfl)) ?_; clear T ac; intro ac T
 refine lq T (rn_neq rfl (T.ev 0 rfl) evc) ?_; clear T ac; intro ac T
 refine lq T (rn_assign rfl (T.ev 0 rfl)) ?_; clear T ac; intro ac T
 refine wpList_nil ?_
 replace T := T.pick [0] rfl
 refine nm_then ?_
 refine wp_ret ?_
 refine rt_1 T rfl (T.ev 0 rfl) ?_
 exact ⟨rfl, M.below⟩
theorem better_any (A : Option Addr) (m c : Nat) (l : List Int) (B : Option Addr) (d f : Nat) (lb : List Int) (w : World) (hl : Rd w w.heap.size 1 A m (ic l)) (hm : m ≤ 1000000) (hb : Rd w w.heap.size 1 B d (ic lb)) (hd : d ≤ 1000000)  :
   Calls Try.prog 104 #[.slice A m c, .slice B d f] w fun e w' => e = .returned (.bool (decide (pairsP lb < pairsP l))) ∧ Below w.heap.size w w' := by
 obtain ⟨bA, oA, SA⟩ := Sp.old hl
 obtain ⟨bB, oB, SB⟩ := Sp.old hb
 refine px_enter noEx Try.func104 rfl 10 rfl [.slice A m c, .slice B d f] rfl rfl (Mem.init w _) ?_
 intro ac wc T M
 refine wp_seq ?_
 refine wp_region_lit ?_
 refine lq T (rn_assign rfl evc) ?_; clear T ac; intro ac T
 refine wpList_nil ?_
 replace T := T.pick [1, 2] rfl
 refine nm_then ?_
 refine wp_seq ?_
 refine wp_region_lit ?_
 refine lq T (rn_move rfl (T.ev 0 rfl)) ?_; clear T ac; intro ac T
 refine l_w rfl ?_; intro K hK
 refine ow_call (first := []) (cap := []) T rfl rfl rfl rfl evf (.cons (T.ev 0 rfl) .nil) Try.func70 rfl rfl ?_
 refine Calls.mono (pairs_any _ _ _ l _ (SA.rd M (List.nil_sublist _)) (by omega)) ?_
 clear T
 rintro e wc ⟨rfl, hb⟩
 intro ac T
 replace M := M.call hb; clear hb
 refine sh_out hK _ _ ?_; clear hK K
 refine lq T (rn_move rfl (T.ev 3 rfl)) ?_; clear T ac; intro ac T
 refine l_w rfl ?_; intro K hK
 refine ow_call (first := []) (cap := []) T rfl rfl rfl rfl evf (.cons (T.ev 0 rfl) .nil) Try.func70 rfl rfl ?_
 refine Calls.mono (pairs_any _ _ _ lb _ (SB.rd M (List.nil_sublist _)) (by omega)) ?_
 clear T
 rintro e wc ⟨rfl, hb⟩
 intro ac T
 replace M := M.call hb; clear hb
 refine sh_out hK _ _ ?_; clear hK K
 refine lq T (rn_gtr rfl (T.ev 2 rfl) (T.ev 0 rfl)) ?_; clear T ac; intro ac T
 refine lq T (rn_assign rfl (T.ev 0 rfl)) ?_; clear T ac; intro ac T
 refine wpList_nil ?_
 replace T := T.pick [0] rfl
 refine nm_then ?_
 refine wp_ret ?_
 refine rt_1 T rfl (T.ev 0 rfl) ?_
 exact ⟨rfl, M.below⟩
def OfferPost (kb : Nat) (is : Bool) (lb l : List Int) (new old : Value) (v : Value) (w : World) (e : Ending) (w' : World) : Prop := e = .returned v ∧ Mem w (fun b => b = kb) w' [(kb, .cells (offC is lb l new old))]
theorem offer_any (kb : Nat) (is : Bool) (A : Option Addr) (m c : Nat) (l : List Int) (B : Option Addr) (d f : Nat) (lb : List Int) (w : World) (hl : Rd w w.heap.size 1 A m (ic l)) (hm : m ≤ 1000000) (hb : Rd w w.heap.size 1 B d (ic lb)) (hd : d ≤ 1000000) (hk : Bk w kb #[.slice B d f, .bool is]) :
   Calls Try.prog 103 #[.pointer (some ⟨kb, 0, none⟩), .slice A m c, .func (.func 104) #[] #[]] w (OfferPost kb is lb l (.slice A m c) (.slice B d f) (.tuple #[]) w) := by
 obtain ⟨bA, oA, SA⟩ := Sp.other hl hk (by intro v hv k i; simp only [List.mem_cons, List.not_mem_nil, or_false] at hv; rcases hv with rfl | rfl <;> simp)
 obtain ⟨bB, oB, SB⟩ := Sp.other hb hk (by intro v hv k i; simp only [List.mem_cons, List.not_mem_nil, or_false] at hv; rcases hv with rfl | rfl <;> simp)
 refine px_enter (fun b => b = kb) Try.func103 rfl 27 rfl [.pointer (some ⟨kb, 0, none⟩), .slice A m c, .func (.func 104) #[] #[]] rfl rfl (Mem.initEx (p := .cells [.slice B d f, .bool is]) hk) ?_
 intro ac wc T M
 refine cut_seq (fun ac wc => Tm ac 27 [(0, .pointer (some ⟨kb, 0, none⟩)), (1, .slice A m c), (19, .bool ((!is) || (decide (pairsP lb < pairsP l))))] ∧ Mem w (fun b => b = kb) wc [(kb, .cells [.slice B d f, .bool is])]) ?_ ?_
 ·refine wp_region_lit ?_
  refine lq T (rn_move rfl (T.ev 0 rfl)) ?_; clear T ac; intro ac T
  refine lq T (rn_nil rfl (T.ev 0 rfl)) ?_; clear T ac; intro ac T
  refine lq (v := (.pointer (some ⟨kb, 1, none⟩))) T (rn_fieldAddr (off := 1) rfl (T.ev 0 rfl) (fun _ _ _ => by kernel_rfl)) ?_; clear T ac; intro ac T
  refine lq T (rn_one (Mem.nth M 0 rfl) rfl (T.ev 0 rfl) rfl) ?_; clear T ac; intro ac T
  refine lq T (rn_not rfl (T.ev 0 rfl)) ?_; clear T ac; intro ac T
  refine lq T (rn_move rfl (T.ev 0 rfl)) ?_; clear T ac; intro ac T
  rcases Bool.eq_false_or_eq_true (!is) with h1 | h1
  ·refine lp T (wanted_no rfl rfl (T.ev 0 rfl) h1) ?_; clear T ac; intro ac T
   refine lp T (wanted_no rfl rfl (T.ev 1 rfl) h1) ?_; clear T ac; intro ac T
   refine lp T (wanted_no rfl rfl (T.ev 2 rfl) h1) ?_; clear T ac; intro ac T
   refine lp T (wanted_no rfl rfl (T.ev 3 rfl) h1) ?_; clear T ac; intro ac T
   refine lp T (wanted_no rfl rfl (T.ev 4 rfl) h1) ?_; clear T ac; intro ac T
   refine lp T (wanted_no rfl rfl (T.ev 5 rfl) h1) ?_; clear T ac; intro ac T
   refine lp T (wanted_no rfl rfl (T.ev 6 rfl) h1) ?_; clear T ac; intro ac T
   refine lq T (rn_pick1 rfl (T.ev 7 rfl) h1 evc) ?_; clear T ac; intro ac T
   refine wpList_nil ?_
   replace T := T.pick [0, 14, 15] rfl
   exact ⟨(T.pick (E' := [(0, .pointer (some ⟨kb, 0, none⟩)), (1, .slice A m c), (19, .bool true)]) [1, 2, 0] rfl).as (by (try rw [show (!is) = true from h1]); (try rfl)), M.mask [true] rfl⟩
  refine lw T (wanted_yes rfl rfl (T.ev 0 rfl) h1) (rn_move rfl (T.ev 8 rfl)) ?_; clear T ac; intro ac T
  refine lw T (wanted_yes rfl rfl (T.ev 1 rfl) h1) (rn_move rfl (T.ev 8 rfl)) ?_; clear T ac; intro ac T
  refine lw T (wanted_yes rfl rfl (T.ev 2 rfl) h1) (rn_move rfl (T.ev 8 rfl)) ?_; clear T ac; intro ac T
  refine lw T (wanted_yes rfl rfl (T.ev 3 rfl) h1) (rn_nil rfl (T.ev 0 rfl)) ?_; clear T ac; intro ac T
  refine lw (v := (.pointer (some ⟨kb, 0, none⟩))) T (wanted_yes rfl rfl (T.ev 4 rfl) h1) (rn_fieldAddr (off := 0) rfl (T.ev 0 rfl) (fun _ _ _ => by kernel_rfl)) ?_; clear T ac; intro ac T
  refine lw T (wanted_yes rfl rfl (T.ev 5 rfl) h1) (rn_one (Mem.nth M 0 rfl) rfl (T.ev 0 rfl) rfl) ?_; clear T ac; intro ac T
  refine l_w (wanted_yes rfl rfl (T.ev 6 rfl) h1) ?_; intro K hK
  refine ow_call (first := []) (cap := []) T rfl rfl rfl rfl (T.ev 5 rfl) (.cons (T.ev 4 rfl) (.cons (T.ev 0 rfl) .nil)) Try.func104 rfl rfl ?_
  refine Calls.mono (better_any _ _ _ l _ _ _ lb _ (SA.rd M (List.nil_sublist _)) hm (SB.rd M (List.nil_sublist _)) hd) ?_
  clear T
  rintro e wc ⟨rfl, hb⟩
  intro ac T
  replace M := M.call hb; clear hb
  refine sh_out hK _ _ ?_; clear hK K
  refine lq T (rn_pick0 rfl (T.ev 7 rfl) h1 (T.ev 0 rfl)) ?_; clear T ac; intro ac T
  refine wpList_nil ?_
  replace T := T.pick [0, 14, 15] rfl
  exact ⟨(T.pick (E' := [(0, .pointer (some ⟨kb, 0, none⟩)), (1, .slice A m c), (19, .bool (decide (pairsP lb < pairsP l)))]) [1, 2, 0] rfl).as (by (try rw [show (!is) = false from h1]); (try rfl)), M.mask [true] rfl⟩
 clear T M
 rintro ac wc ⟨T, M⟩
 refine wp_cond_split (T.ev 2 rfl) ?_ ?_
 ·intro h2
  (try have h2' := h2; try simp only [Bool.and_eq_true, Bool.or_eq_true, Bool.not_eq_true', Bool.and_eq_false_imp, Bool.or_eq_false_iff, decide_eq_true_eq, decide_eq_false_iff_not] at h2')
  refine wp_region_lit ?_
  refine lq T (rn_move rfl (T.ev 0 rfl)) ?_; clear T ac; intro ac T
  refine lq T (rn_move rfl (T.ev 1 rfl)) ?_; clear T ac; intro ac T
  refine lq T (rn_move rfl (T.ev 3 rfl)) ?_; clear T ac; intro ac T
  refine lq T (rn_nil rfl (T.ev 2 rfl)) ?_; clear T ac; intro ac T
  refine lq (v := (.pointer (some ⟨kb, 0, none⟩))) T (rn_fieldAddr (off := 0) rfl (T.ev 0 rfl) (fun _ _ _ => by kernel_rfl)) ?_; clear T ac; intro ac T
  refine l_w rfl ?_; intro K hK
  refine ow_stO M T rfl rfl (T.ev 0 rfl) (T.ev 2 rfl) rfl .head rfl (by simp) rfl (by kernel_rfl) ?_; clear M T; intro wc ac M T
  refine sh_out hK _ _ ?_; clear hK K
  refine lq T (rn_nil rfl (T.ev 3 rfl)) ?_; clear T ac; intro ac T
  refine lq (v := (.pointer (some ⟨kb, 1, none⟩))) T (rn_fieldAddr (off := 1) rfl (T.ev 0 rfl) (fun _ _ _ => by kernel_rfl)) ?_; clear T ac; intro ac T
  refine l_w rfl ?_; intro K hK
  refine ow_stO M T rfl rfl (T.ev 0 rfl) evc rfl .head rfl (by simp) rfl (by kernel_rfl) ?_; clear M T; intro wc ac M T
  refine sh_out hK _ _ ?_; clear hK K
  refine wpList_nil ?_
  replace T := T.pick [] rfl
  refine nm_0 T rfl ?_
  exact ⟨rfl, by unfold offC; rw [if_pos (by simp_all)]; exact M⟩
 intro h2
 (try have h2' := h2; try simp only [Bool.and_eq_true, Bool.or_eq_true, Bool.not_eq_true', Bool.and_eq_false_imp, Bool.or_eq_false_iff, decide_eq_true_eq, decide_eq_false_iff_not] at h2')
 refine wp_skip ?_
 refine nm_0 T rfl ?_
 exact ⟨rfl, by unfold offC; rw [if_neg (by simp_all)]; exact M⟩
theorem met_any (kb : Nat) (is : Bool) (A : Option Addr) (m c : Nat) (l : List Int) (B : Option Addr) (d f : Nat) (lb : List Int) (w : World) (hl : Rd w w.heap.size 1 A m (ic l)) (hm : m ≤ 1000000) (hb : Rd w w.heap.size 1 B d (ic lb)) (hd : d ≤ 1000000) (hk : Bk w kb #[.slice B d f, .bool is]) :
   Calls Try.prog 102 #[.slice A m c, .pointer (some ⟨kb, 0, none⟩)] w (OfferPost kb is lb l (.slice A m c) (.slice B d f) (.bool true) w) := by
 obtain ⟨bA, oA, SA⟩ := Sp.other hl hk (by intro v hv k i; simp only [List.mem_cons, List.not_mem_nil, or_false] at hv; rcases hv with rfl | rfl <;> simp)
 obtain ⟨bB, oB, SB⟩ := Sp.other hb hk (by intro v hv k i; simp only [List.mem_cons, List.not_mem_nil, or_false] at hv; rcases hv with rfl | rfl <;> simp)
 refine px_enter (fun b => b = kb) Try.func102 rfl 6 rfl [.slice A m c, .pointer (some ⟨kb, 0, none⟩)] rfl rfl (Mem.initEx (p := .cells [.slice B d f, .bool is]) hk) ?_
 intro ac wc T M
 refine wp_seq ?_
 refine wp_region_lit ?_
 refine lq T (rn_assign rfl evc) ?_; clear T ac; intro ac T
 refine wpList_nil ?_
 replace T := T.pick [1, 2] rfl
 refine nm_then ?_
 refine wp_seq ?_
 refine wp_region_lit ?_
 refine lq T (rn_move rfl (T.ev 0 rfl)) ?_; clear T ac; intro ac T
 refine l_w rfl ?_; intro K hK
 refine ow_call (first := []) (cap := []) T rfl rfl rfl rfl evf (.cons (T.ev 2 rfl) (.cons (T.ev 0 rfl) (.cons evf .nil))) Try.func103 rfl rfl ?_
 refine Calls.mono (offer_any kb is _ _ _ l _ _ _ lb _ (SA.rd M (List.nil_sublist _)) hm (SB.rd M (List.nil_sublist _)) hd (M.nth 0 rfl)) ?_
 clear T
 rintro e wc ⟨rfl, N⟩
 intro ac T
 replace M := Mem.joinX (X := [(kb, .cells [.slice B d f, .bool is])]) (F := []) M N (fun b h => by subst h; exact List.mem_cons_self)
 clear N
 refine sh_out hK _ _ ?_; clear hK K
 refine wpList_nil ?_
 replace T := T.pick [] rfl
 refine nm_then ?_
 refine wp_seq ?_
 refine wp_region_lit ?_
 refine lq T (rn_assign rfl evc) ?_; clear T ac; intro ac T
 refine wpList_nil ?_
 refine nm_then ?_
 refine wp_ret ?_
 refine rt_1 T rfl (T.ev 0 rfl) ?_
 exact ⟨rfl, M⟩
theorem may_always (mb tb : Nat) (A : Option Addr) (c : Nat) (LL : List LE) (i k : Nat) (x : List Int) (B : Option Addr) (d : Nat) (y : Int) (w : World) (hmb : Bk w mb #[.func (.func 69) #[] #[]]) (htb : Bk w tb #[.slice A LL.length c]) (hA : Rd w w.heap.size 1 A LL.length (lc LL)) (hx : LL[i]? = some (x, B, d)) (hB : Rd w w.heap.size 1 B x.length (ic x)) (hy : x[k]? = some y) :
   Calls Try.prog 101 #[.int .i64 (i : Int), .int .i64 (k : Int), .pointer (some ⟨mb, 0, none⟩), .pointer (some ⟨tb, 0, none⟩)] w fun e w' => e = .returned (.bool (decide (y = 1))) ∧ Below w.heap.size w w' := by
 obtain ⟨bA, oA, SA⟩ := Sp.old hA
 obtain ⟨bB, oB, SB⟩ := Sp.old hB
 have hi := (List.getElem?_eq_some_iff.1 hx).1
 have hk := (List.getElem?_eq_some_iff.1 hy).1
 refine px_enter noEx Try.func101 rfl 16 rfl [.int .i64 (i : Int), .int .i64 (k : Int), .pointer (some ⟨mb, 0, none⟩), .pointer (some ⟨tb, 0, none⟩)] rfl rfl (Mem.init w _) ?_
 intro ac wc T M
 refine wp_seq ?_
 refine wp_region_lit ?_
 refine lq T (rn_assign rfl evc) ?_; clear T ac; intro ac T
 refine wpList_nil ?_
 replace T := T.pick [1, 2, 3, 4] rfl
 refine nm_then ?_
 refine wp_seq ?_
 refine g_start2 M (M.mask [] rfl) 10 (by kernel_rfl) rfl (by kernel_rfl) ?_
 clear M; intro wc M
 refine gq T 0 1 rfl (fun B w' hD hl hS => (rn_one (Mem.old (show Mem w noEx w' _ from hS) hmb (fun h => h)) rfl (T.ev 2 rfl) rfl)) ?_; clear T ac; intro ac T
 refine gq T 1 3 rfl (fun B w' hD hl hS => (rn_one (Mem.old (show Mem w noEx w' _ from hS) htb (fun h => h)) rfl (T.ev 4 rfl) rfl)) ?_; clear T ac; intro ac T
 refine gq T 2 7 rfl (fun _ _ _ _ _ => (rn_move rfl (T.ev 2 rfl))) ?_; clear T ac; intro ac T
 refine gq T 3 15 rfl (fun _ _ _ _ _ => (rn_indexAddr (size := 1) i rfl (T.ev 1 rfl) (T.ev 0 rfl) ⟨_, Try.underlying62, by kernel_rfl⟩ rfl (by omega) (SA.at0 (by omega)))) ?_; clear T ac; intro ac T
 refine gq (v := (.slice B x.length d)) T 4 31 rfl (fun B w' hD hl hS => (rn_cell (Sp.lc0 SA (show Mem w noEx w' _ from hS) (List.nil_sublist _) hx) rfl (T.ev 0 rfl))) ?_; clear T ac; intro ac T
 refine gq T 5 63 rfl (fun _ _ _ _ _ => (rn_move rfl (T.ev 6 rfl))) ?_; clear T ac; intro ac T
 refine gq T 6 127 rfl (fun _ _ _ _ _ => (rn_indexAddr (size := 1) k rfl (T.ev 1 rfl) (T.ev 0 rfl) ⟨_, Try.underlying22, by kernel_rfl⟩ rfl (by omega) (SB.at0 (by omega)))) ?_; clear T ac; intro ac T
 refine gq T 7 255 rfl (fun B w' hD hl hS => (rn_cell (Sp.ic0 SB (show Mem w noEx w' _ from hS) (List.nil_sublist _) hy) rfl (T.ev 0 rfl))) ?_; clear T ac; intro ac T
 refine gw 8 511 ?_; intro K hK
 refine ow_call (first := []) (cap := []) T rfl rfl rfl rfl (T.ev 7 rfl) (.cons (T.ev 0 rfl) .nil) Try.func69 rfl rfl ?_
 refine Calls.mono (always_any y _) ?_
 clear T
 rintro e wc ⟨rfl, hb⟩
 intro ac T
 replace M := M.call hb; clear hb
 refine sh_out hK _ _ (M.mask [] rfl) ?_; clear hK K
 refine gq T 9 1023 rfl (fun _ _ _ _ _ => (rn_assign rfl (T.ev 0 rfl))) ?_; clear T ac; intro ac T
 refine g_done (by kernel_rfl) ?_
 replace T := T.pick [0] rfl
 refine nm_then ?_
 refine wp_ret ?_
 refine rt_1 T rfl (T.ev 0 rfl) ?_
 exact ⟨rfl, M.below⟩
theorem may_maybe (mb tb : Nat) (A : Option Addr) (c : Nat) (LL : List LE) (i k : Nat) (x : List Int) (B : Option Addr) (d : Nat) (y : Int) (w : World) (hmb : Bk w mb #[.func (.func 75) #[] #[]]) (htb : Bk w tb #[.slice A LL.length c]) (hA : Rd w w.heap.size 1 A LL.length (lc LL)) (hx : LL[i]? = some (x, B, d)) (hB : Rd w w.heap.size 1 B x.length (ic x)) (hy : x[k]? = some y) :
   Calls Try.prog 101 #[.int .i64 (i : Int), .int .i64 (k : Int), .pointer (some ⟨mb, 0, none⟩), .pointer (some ⟨tb, 0, none⟩)] w fun e w' => e = .returned (.bool (!decide (y = 2))) ∧ Below w.heap.size w w' := by
 obtain ⟨bA, oA, SA⟩ := Sp.old hA
 obtain ⟨bB, oB, SB⟩ := Sp.old hB
 have hi := (List.getElem?_eq_some_iff.1 hx).1
 have hk := (List.getElem?_eq_some_iff.1 hy).1
 refine px_enter noEx Try.func101 rfl 16 rfl [.int .i64 (i : Int), .int .i64 (k : Int), .pointer (some ⟨mb, 0, none⟩), .pointer (some ⟨tb, 0, none⟩)] rfl rfl (Mem.init w _) ?_
 intro ac wc T M
 refine wp_seq ?_
 refine wp_region_lit ?_
 refine lq T (rn_assign rfl evc) ?_; clear T ac; intro ac T
 refine wpList_nil ?_
 replace T := T.pick [1, 2, 3, 4] rfl
 refine nm_then ?_
 refine wp_seq ?_
 refine g_start2 M (M.mask [] rfl) 10 (by kernel_rfl) rfl (by kernel_rfl) ?_
 clear M; intro wc M
 refine gq T 0 1 rfl (fun B w' hD hl hS => (rn_one (Mem.old (show Mem w noEx w' _ from hS) hmb (fun h => h)) rfl (T.ev 2 rfl) rfl)) ?_; clear T ac; intro ac T
 refine gq T 1 3 rfl (fun B w' hD hl hS => (rn_one (Mem.old (show Mem w noEx w' _ from hS) htb (fun h => h)) rfl (T.ev 4 rfl) rfl)) ?_; clear T ac; intro ac T
 refine gq T 2 7 rfl (fun _ _ _ _ _ => (rn_move rfl (T.ev 2 rfl))) ?_; clear T ac; intro ac T
 refine gq T 3 15 rfl (fun _ _ _ _ _ => (rn_indexAddr (size := 1) i rfl (T.ev 1 rfl) (T.ev 0 rfl) ⟨_, Try.underlying62, by kernel_rfl⟩ rfl (by omega) (SA.at0 (by omega)))) ?_; clear T ac; intro ac T
 refine gq (v := (.slice B x.length d)) T 4 31 rfl (fun B w' hD hl hS => (rn_cell (Sp.lc0 SA (show Mem w noEx w' _ from hS) (List.nil_sublist _) hx) rfl (T.ev 0 rfl))) ?_; clear T ac; intro ac T
 refine gq T 5 63 rfl (fun _ _ _ _ _ => (rn_move rfl (T.ev 6 rfl))) ?_; clear T ac; intro ac T
 refine gq T 6 127 rfl (fun _ _ _ _ _ => (rn_indexAddr (size := 1) k rfl (T.ev 1 rfl) (T.ev 0 rfl) ⟨_, Try.underlying22, by kernel_rfl⟩ rfl (by omega) (SB.at0 (by omega)))) ?_; clear T ac; intro ac T
 refine gq T 7 255 rfl (fun B w' hD hl hS => (rn_cell (Sp.ic0 SB (show Mem w noEx w' _ from hS) (List.nil_sublist _) hy) rfl (T.ev 0 rfl))) ?_; clear T ac; intro ac T
 refine gw 8 511 ?_; intro K hK
 refine ow_call (first := []) (cap := []) T rfl rfl rfl rfl (T.ev 7 rfl) (.cons (T.ev 0 rfl) .nil) Try.func75 rfl rfl ?_
 refine Calls.mono (maybe_any y _) ?_
 clear T
 rintro e wc ⟨rfl, hb⟩
 intro ac T
 replace M := M.call hb; clear hb
 refine sh_out hK _ _ (M.mask [] rfl) ?_; clear hK K
 refine gq T 9 1023 rfl (fun _ _ _ _ _ => (rn_assign rfl (T.ev 0 rfl))) ?_; clear T ac; intro ac T
 refine g_done (by kernel_rfl) ?_
 replace T := T.pick [0] rfl
 refine nm_then ?_
 refine wp_ret ?_
 refine rt_1 T rfl (T.ev 0 rfl) ?_
 exact ⟨rfl, M.below⟩
end Go.Proofs.Ytlahdenlmmlplaa
end

section
/-
 voice: pairings, gone through.
-/
namespace Go.Proofs.Ytlahdenlmmlplaa
set_option linter.unusedSimpArgs false
set_option linter.unusedVariables false
open Go.RowKit
theorem grow_step (ge : GE) (may : Nat → Nat → Bool) (r : Nat) (exq : Nat → Prop) (l : List Int) (A : Option Addr) (c : Nat) (used : Int) (bo : Option (List Int)) (Ab : Option Addr) (nb cb : Nat) (is : Bool) (Il Ib : List (Nat × BA)) (w : World) (hlo : ge.lows ≤ 4) (hhi : ge.highs ≤ 5) (hmay : MayOk ge may) (ih : ∀ r', r = r' + 1 → GrowSpec ge may r') (hlr : l.length + r = ge.lows) (hu : UsedOk used l) (hks : KS bo Ab nb is Ib) (hl : ∃ b o, ∀ (w : World) (ex : Nat → Prop), Sp w ex Il A l.length 1 b o (ic l)) (genv : GEnv ge w exq) (M0 : Mem w exq w ((ge.kb, .cells [.slice Ab nb cb, .bool is]) :: (Ib ++ Il))) :
   Calls Try.prog 122 #[.slice A l.length c, .int .i64 used, .pointer (some ⟨ge.lo, 0, none⟩), .pointer (some ⟨ge.me, 0, none⟩), .pointer (some ⟨ge.hi, 0, none⟩), .pointer (some ⟨ge.ma, 0, none⟩), .pointer (some ⟨ge.gr, 0, none⟩)] w (GrowPost ge.kb (growP may ge.highs r l bo) w exq) := by
 have hls := hl
 obtain ⟨bl, ol, hSl⟩ := hls
 have Sl0 := hSl w exq
 have hks0 := hks
 obtain ⟨hkn, hk5, hki, bb, ob, hSb⟩ := hks0
 have Sb0 := hSb w exq
 refine px_enter exq Try.func122 rfl 60 rfl [.slice A l.length c, .int .i64 used, .pointer (some ⟨ge.lo, 0, none⟩), .pointer (some ⟨ge.me, 0, none⟩), .pointer (some ⟨ge.hi, 0, none⟩), .pointer (some ⟨ge.ma, 0, none⟩), .pointer (some ⟨ge.gr, 0, none⟩)] rfl rfl M0 ?_
 intro ac wc T M
 refine wp_seq ?_
 refine wp_region_lit ?_
 refine lq T (rn_assign rfl evc) ?_; clear T ac; intro ac T
 refine wpList_nil ?_
 replace T := T.pick [1, 2, 3, 4, 5, 6, 7] rfl
 refine nm_then ?_
 refine wp_scope_straight ?_
 refine wp_seq ?_
 refine wp_seq ?_
 refine wp_region_lit ?_
 refine lq T (rn_move rfl (T.ev 0 rfl)) ?_; clear T ac; intro ac T
 refine lq T (rn_lenS rfl Try.underlying22 (T.ev 0 rfl)) ?_; clear T ac; intro ac T
 refine lq T (rn_one (Mem.old M genv.lo.1 genv.lo.2) rfl (T.ev 4 rfl) rfl) ?_; clear T ac; intro ac T
 refine lq T (rn_eql rfl (T.ev 1 rfl) (T.ev 0 rfl)) ?_; clear T ac; intro ac T
 refine wpList_nil ?_
 replace T := T.pick [0, 4, 5, 7, 8, 9, 10] rfl
 refine nm_then ?_
 refine wp_if (T.ev 0 rfl) ?_ ?_
 ·intro h1
  obtain rfl : r = 0 := by omega
  refine wp_seq ?_
  refine wp_region_lit ?_
  refine lq T (rn_one (Mem.old M genv.me.1 genv.me.2) rfl (T.ev 3 rfl) rfl) ?_; clear T ac; intro ac T
  refine lq T (rn_move rfl (T.ev 2 rfl)) ?_; clear T ac; intro ac T
  refine l_w rfl ?_; intro K hK
  refine ow_call (first := []) (cap := [.pointer (some ⟨ge.kb, 0, none⟩)]) T rfl rfl rfl rfl (T.ev 1 rfl) (.cons (T.ev 0 rfl) .nil) Try.func102 rfl rfl ?_
  refine Calls.mono (met_any ge.kb is _ _ _ l _ _ _ (bo.getD []) _ (Sl0.rd M (.cons _ (List.sublist_append_right _ _))) (by omega) (Sb0.rd M (.cons _ (subL (List.Sublist.refl _)))) (by omega) (M.nth 0 rfl)) ?_
  clear T
  rintro e wc ⟨rfl, N⟩
  intro ac T
  obtain ⟨Au1, nu1, cu1, iu1, Iu1, hocu1, hksu1, hIu1⟩ := offer_ks (c := c) (cb := cb) hks hl rfl (by omega)
  rw [hocu1] at N
  replace M := Mem.joinX (X := [(ge.kb, .cells [.slice Ab nb cb, .bool is])]) (F := Ib ++ Il) M N (fun b h => by subst h; exact List.mem_cons_self)
  clear N
  replace M : Mem w exq wc ((ge.kb, .cells [.slice Au1 nu1 cu1, .bool iu1]) :: (Ib ++ Il)) := M
  refine sh_out hK _ _ ?_; clear hK K
  refine lq T (rn_assign rfl (T.ev 0 rfl)) ?_; clear T ac; intro ac T
  refine wpList_nil ?_
  replace T := T.pick [0] rfl
  refine nm_then ?_
  refine wp_ret ?_
  refine rt_then ?_
  refine rt_ng ?_
  refine rt_1 T rfl (T.ev 0 rfl) ?_
  refine ⟨Au1, nu1, cu1, iu1, Iu1, rfl, hksu1, M.sub (.cons_cons _ ?_)⟩
  rcases hIu1 with rfl | rfl
  · exact List.sublist_append_right _ _
  · exact List.sublist_append_left _ _
 intro h1
 obtain ⟨r1, rfl⟩ : ∃ k, r = k + 1 := ⟨r - 1, by omega⟩
 have ih1 := ih r1 rfl
 refine wp_skip ?_
 refine nm_then ?_
 refine wp_seq ?_
 refine wp_region_lit ?_
 refine lq T (rn_move rfl (T.ev 2 rfl)) ?_; clear T ac; intro ac T
 refine lq (v := (.func (.func 123) #[.int .i64 used] #[])) T (rn_makeFunc rfl (.cons (T.ev 0 rfl) .nil) .nil) ?_; clear T ac; intro ac T
 refine lq T (rn_assign rfl (T.ev 0 rfl)) ?_; clear T ac; intro ac T
 refine wpList_nil ?_
 replace T := T.pick [0, 4, 5, 7, 8, 9] rfl
 refine nm_then ?_
 refine wp_seq ?_
 refine wp_label ?_
 refine nm_then ?_
 refine wp_seq ?_
 refine wp_seq ?_
 refine wp_region_lit ?_
 refine lq T (rn_one (Mem.old M genv.hi.1 genv.hi.2) rfl (T.ev 3 rfl) rfl) ?_; clear T ac; intro ac T
 refine lq T (rn_add rfl (T.ev 0 rfl) evc (by omega)) ?_; clear T ac; intro ac T
 refine lq T (rn_move rfl evc) ?_; clear T ac; intro ac T
 refine wpList_nil ?_
 replace T := T.pick [0, 1, 3, 4, 5, 6, 7, 8] rfl
 refine nm_then ?_
 refine wp_block ?_
 refine wp_loop_n (fun mz ac wc => ∃ (h : Nat) (A3 : Option Addr) (n3 c3 : Nat) (i3 : Bool) (I3 : List (Nat × BA)), mz = ge.highs + 1 - h ∧ (h ≤ ge.highs + 1) ∧ (KS (stG may ge.highs r1 l bo h) A3 n3 i3 I3) ∧ Tm ac 60 [(0, .slice A l.length c), (1, .int .i64 used), (4, .pointer (some ⟨ge.hi, 0, none⟩)), (5, .pointer (some ⟨ge.ma, 0, none⟩)), (6, .pointer (some ⟨ge.gr, 0, none⟩)), (10, .func (.func 123) #[.int .i64 used] #[]), (24, .int .i64 (((ge.highs : Nat) : Int) + 1)), (25, .int .i64 (h : Int))] ∧ Mem w exq wc ((ge.kb, .cells [.slice A3 n3 c3, .bool i3]) :: (I3 ++ Il))) ?_ ?_
 ·exact ⟨_, 0, Ab, nb, cb, is, Ib, rfl, (by omega), (by rw [stG_zero]; exact hks), T.pick [3, 4, 5, 6, 7, 2, 1, 0] rfl, M.mask [true] rfl⟩
 clear T M
 rintro mz ac wc ⟨h, A3, n3, c3, i3, I3, hmm1, hh, hKs, T, M⟩
 refine wp_seq ?_
 refine wp_region_lit ?_
 refine lq T (rn_lss rfl (T.ev 7 rfl) (T.ev 6 rfl)) ?_; clear T ac; intro ac T
 refine wpList_nil ?_
 refine nm_then ?_
 refine wp_seq ?_
 refine wp_if (T.ev 0 rfl) ?_ ?_
 ·intro h2
  refine wp_skip ?_
  refine nm_then ?_
  refine wp_seq ?_
  refine wp_block ?_
  refine wp_seq ?_
  refine wp_region_lit ?_
  refine lq T (rn_move rfl (T.ev 8 rfl)) ?_; clear T ac; intro ac T
  refine lq T (rn_assign rfl (T.ev 0 rfl)) ?_; clear T ac; intro ac T
  refine wpList_nil ?_
  replace T := T.pick [0, 3, 4, 5, 6, 7, 8, 9, 10] rfl
  refine nm_then ?_
  refine wp_seq ?_
  refine wp_region_lit ?_
  refine lq T (rn_move rfl (T.ev 0 rfl)) ?_; clear T ac; intro ac T
  refine lq T (rn_move rfl (T.ev 3 rfl)) ?_; clear T ac; intro ac T
  refine lq T (rn_assign rfl (T.ev 1 rfl)) ?_; clear T ac; intro ac T
  refine lq T (rn_assign rfl (T.ev 1 rfl)) ?_; clear T ac; intro ac T
  refine wpList_nil ?_
  replace T := T.pick [0, 1, 4, 5, 6, 7, 8, 9, 10, 11, 12] rfl
  refine nm_then ?_
  refine wp_seq ?_
  refine wp_block ?_
  refine wp_seq ?_
  refine wp_region_lit ?_
  refine lq T (rn_move rfl (T.ev 2 rfl)) ?_; clear T ac; intro ac T
  refine lq T (rn_one (Mem.old M genv.hi.1 genv.hi.2) rfl (T.ev 6 rfl) rfl) ?_; clear T ac; intro ac T
  refine lq T (rn_eql rfl (T.ev 1 rfl) (T.ev 0 rfl)) ?_; clear T ac; intro ac T
  refine lq T (rn_assign rfl (T.ev 0 rfl)) ?_; clear T ac; intro ac T
  refine wpList_nil ?_
  replace T := T.pick [0, 4, 5, 6, 7, 8, 9, 10, 11, 12, 13, 14] rfl
  refine nm_then ?_
  refine wp_if (T.ev 0 rfl) ?_ ?_
  ·intro h3
   refine wp_region_lit ?_
   refine l_q (v := (.int .i64 (-1))) (T.pick [0, 1, 3, 4, 5, 6, 7, 8, 9, 10, 11] rfl) rfl rfl rfl rfl (rn_assign rfl evc) ?_; clear T ac; intro ac T
   refine wpList_nil ?_
   replace T := T.pick [0, 2, 4, 5, 6, 7, 8, 9, 10, 11] rfl
   refine nm_blk ?_
   refine nm_then ?_
   refine wp_seq ?_
   refine g_start2 M (M.perm [] rfl rfl) 10 (by kernel_rfl) rfl (by kernel_rfl) ?_
   clear M; intro wc M
   refine gq T 0 1 rfl (fun B w' hD hl hS => (rn_one (Mem.old (show Mem w exq w' _ from hS) genv.gr.1 genv.gr.2) rfl (T.ev 6 rfl) rfl)) ?_; clear T ac; intro ac T
   refine gq T 2 5 rfl (fun _ _ _ _ _ => (rn_move rfl (T.ev 3 rfl))) ?_; clear T ac; intro ac T
   refine gq T 4 21 rfl (fun _ _ _ _ _ => (rn_move rfl (T.ev 2 rfl))) ?_; clear T ac; intro ac T
   refine gq T 7 149 rfl (fun _ _ _ _ _ => (rn_move rfl (T.ev 4 rfl))) ?_; clear T ac; intro ac T
   refine g_m2 (i := 1) (j := 5) (by kernel_rfl) ?_ ?_
   ·refine gi 151 ?_; intro K hK
    refine ow_bs0 (e := 3) M T rfl rfl rfl rfl (fun _ => by kernel_rfl) ?_; clear M T; intro gr12_1 wc ac M T
    refine sh_out hK _ _ (M.perm [] rfl rfl) ?_; clear hK K
    refine g_m2 (i := 3) (j := 5) (by kernel_rfl) ?_ ?_
    ·refine gi 159 ?_; intro K hK
     refine ow_appS Try.info3 M T rfl rfl rfl rfl (fun g w => Try.append0i _ _ g _ w) Try.underlying22 rfl rfl rfl (by omega) (T.ev 0 rfl) (T.ev 3 rfl) (Sl0.rd M (.cons _ (.cons _ (List.sublist_append_right _ _)))) (ic_one _) ?_; clear M T; intro Au12_3 cu12_3 Iu12_3 wc ac hSm12_3 M T
     replace M : Mem w exq wc ((ge.kb, .cells [.slice A3 n3 c3, .bool i3]) :: (I3 ++ Il ++ Iu12_3)) := M.swapI
     refine sh_out hK _ _ (M.perm [] rfl rfl) ?_; clear hK K
     refine gw 5 191 ?_; intro K hK
     refine ow_bs (e := 3) [.int .i64 (-1)] M T rfl rfl rfl rfl (.cons (T.ev 3 rfl) .nil) (fun _ => by kernel_rfl) ?_; clear M T; intro gr12_5 wc ac M T
     refine sh_out hK _ _ (M.perm [] rfl rfl) ?_; clear hK K
     refine gw 6 255 ?_; intro K hK
     refine ow_appM (((gr12_5, .cells [.int .i64 (-1)]) :: (ge.kb, .cells [.slice A3 n3 c3, .bool i3]) :: (I3 ++ Il))) Try.info3 hSm12_3 M (by first | rfl | simp) T rfl rfl rfl rfl Try.underlying22 rfl rfl rfl (by omega) (T.ev 1 rfl) (T.ev 0 rfl) (nthE_mem (i := 0) rfl) rfl rfl ?_; clear M T; intro ga12_6 ca12_6 wc ac M T
     refine sh_out hK _ _ (M.perm [] rfl rfl) ?_; clear hK K
     refine gw 8 511 ?_; intro K hK
     have Mq : Mem w exq wc ((ge.kb, .cells [.slice A3 n3 c3, .bool i3]) :: (ga12_6, .row 3 1 (l.length + 1) (ic l ++ [.int .i64 (-1)]) ca12_6) :: (I3 ++ Il)) := M.permT [2, 0] 3 rfl rfl rfl rfl
     have My : Mem w exq wc ((ge.kb, .cells [.slice A3 n3 c3, .bool i3]) :: (ga12_6, .row 3 1 (l.length + 1) (ic l ++ [.int .i64 (-1)]) ca12_6) :: I3) := Mq.sub ((List.sublist_append_left I3 Il).cons_cons _ |>.cons_cons _)
     have Mx : Mem wc (inL ((ge.kb, .cells [.slice A3 n3 c3, .bool i3]) :: (ga12_6, .row 3 1 (l.length + 1) (ic l ++ [.int .i64 (-1)]) ca12_6) :: I3)) wc ((ge.kb, .cells [.slice A3 n3 c3, .bool i3]) :: (I3 ++ [(ga12_6, .row 3 1 (l.length + 1) (ic l ++ [.int .i64 (-1)]) ca12_6)])) := Mem.spin [(ge.kb, .cells [.slice A3 n3 c3, .bool i3])] [(ga12_6, .row 3 1 (l.length + 1) (ic l ++ [.int .i64 (-1)]) ca12_6)] I3 My.rebase
     have gx := genv.move (ex' := inL ((ge.kb, .cells [.slice A3 n3 c3, .bool i3]) :: (ga12_6, .row 3 1 (l.length + 1) (ic l ++ [.int .i64 (-1)]) ca12_6) :: I3)) Mq (fun b hb => by unfold inL at hb ⊢; exact (((List.sublist_append_left I3 Il).cons_cons _).cons_cons _ |>.map _).subset hb)
     refine ow_call (first := []) (cap := [.pointer (some ⟨ge.lo, 0, none⟩), .pointer (some ⟨ge.me, 0, none⟩), .pointer (some ⟨ge.hi, 0, none⟩), .pointer (some ⟨ge.ma, 0, none⟩), .pointer (some ⟨ge.gr, 0, none⟩)]) T rfl rfl rfl rfl (T.ev 7 rfl) (.cons (T.ev 0 rfl) (.cons (T.ev 4 rfl) .nil)) Try.func122 rfl rfl ?_
     refine Calls.mono (ih1 wc _ (l ++ [-1]) _ _ _ _ _ _ _ _ _ [(ga12_6, .row 3 1 (l.length + 1) (ic l ++ [.int .i64 (-1)]) ca12_6)] I3 (by simp) (by simp only [List.length_append, List.length_cons, List.length_nil]; omega) hu.skip hKs ⟨_, _, fun w ex => by rw [← ic_snoc]; exact Sp.row (by simp [ic_length])⟩ gx Mx) ?_
     clear T
     rintro e wc ⟨Aur12_8, nur12_8, cur12_8, iur12_8, Iur12_8, rfl, hksur12_8, N⟩
     intro ac T
     replace M := Mem.joinX (X := (ge.kb, .cells [.slice A3 n3 c3, .bool i3]) :: (ga12_6, .row 3 1 (l.length + 1) (ic l ++ [.int .i64 (-1)]) ca12_6) :: I3) (F := Il) Mq N (fun b h => h)
     clear N Mq My Mx gx
     replace M : Mem w exq wc ((ge.kb, .cells [.slice Aur12_8 nur12_8 cur12_8, .bool iur12_8]) :: (Iur12_8 ++ Il)) := M
     refine sh_out hK _ _ (M.perm [] rfl rfl) ?_; clear hK K
     refine gq (v := (.bool false)) T 9 1023 rfl (fun _ _ _ _ _ => (rn_neqof (rn_not rfl (T.ev 0 rfl)) (by simp))) ?_; clear T ac; intro ac T
     refine g_done (by kernel_rfl) ?_
     replace T := T.pick [0, 12, 13, 14, 15, 16, 17, 18, 19] rfl
     refine nm_then ?_
     refine wp_cond_false (T.ev 0 rfl) ?_
     refine wp_skip ?_
     refine nm_blk ?_
     refine nm_then ?_
     refine wp_region_lit ?_
     refine lq T (rn_add rfl (T.ev 8 rfl) evc (by omega)) ?_; clear T ac; intro ac T
     refine l_q (v := (.int .i64 ((h : Int) + 1))) (T.pick [0, 1, 2, 3, 4, 5, 6, 7, 8] rfl) rfl rfl rfl rfl (rn_move rfl (T.ev 0 rfl)) ?_; clear T ac; intro ac T
     refine wpList_nil ?_
     replace T := T.pick [0, 3, 4, 5, 6, 7, 8, 9] rfl
     refine nm_then ?_
     exact ⟨_, by omega, h + 1, Aur12_8, nur12_8, cur12_8, iur12_8, Iur12_8, rfl, (by omega), (by rw [stG_last' (by omega)]; exact hksur12_8), T.pick [1, 2, 3, 4, 5, 6, 7, 0] rfl, M⟩
    refine gi 183 ?_; intro K hK
    refine ow_bs (e := 3) [.int .i64 (-1)] M T rfl rfl rfl rfl (.cons (T.ev 2 rfl) .nil) (fun _ => by kernel_rfl) ?_; clear M T; intro gr12_5 wc ac M T
    refine sh_out hK _ _ (M.perm [] rfl rfl) ?_; clear hK K
    refine gw 3 191 ?_; intro K hK
    replace M := M.permT [1, 0, 2] 3 rfl rfl rfl rfl
    refine ow_appS Try.info3 M T rfl rfl rfl rfl (fun g w => Try.append0i _ _ g _ w) Try.underlying22 rfl rfl rfl (by omega) (T.ev 1 rfl) (T.ev 4 rfl) (Sl0.rd M (.cons _ (.cons _ (.cons _ (List.sublist_append_right _ _))))) (ic_one _) ?_; clear M T; intro Au12_3 cu12_3 Iu12_3 wc ac hSm12_3 M T
    replace M : Mem w exq wc ((gr12_5, .cells [.int .i64 (-1)]) :: (ge.kb, .cells [.slice A3 n3 c3, .bool i3]) :: (I3 ++ Il ++ Iu12_3)) := M.swapI
    refine sh_out hK _ _ (M.perm [] rfl rfl) ?_; clear hK K
    refine gw 6 255 ?_; intro K hK
    refine ow_appM (((gr12_5, .cells [.int .i64 (-1)]) :: (ge.kb, .cells [.slice A3 n3 c3, .bool i3]) :: (I3 ++ Il))) Try.info3 hSm12_3 M (by first | rfl | simp) T rfl rfl rfl rfl Try.underlying22 rfl rfl rfl (by omega) (T.ev 0 rfl) (T.ev 1 rfl) (nthE_mem (i := 0) rfl) rfl rfl ?_; clear M T; intro ga12_6 ca12_6 wc ac M T
    refine sh_out hK _ _ (M.perm [] rfl rfl) ?_; clear hK K
    refine gw 8 511 ?_; intro K hK
    have Mq : Mem w exq wc ((ge.kb, .cells [.slice A3 n3 c3, .bool i3]) :: (ga12_6, .row 3 1 (l.length + 1) (ic l ++ [.int .i64 (-1)]) ca12_6) :: (I3 ++ Il)) := M.permT [2, 0] 3 rfl rfl rfl rfl
    have My : Mem w exq wc ((ge.kb, .cells [.slice A3 n3 c3, .bool i3]) :: (ga12_6, .row 3 1 (l.length + 1) (ic l ++ [.int .i64 (-1)]) ca12_6) :: I3) := Mq.sub ((List.sublist_append_left I3 Il).cons_cons _ |>.cons_cons _)
    have Mx : Mem wc (inL ((ge.kb, .cells [.slice A3 n3 c3, .bool i3]) :: (ga12_6, .row 3 1 (l.length + 1) (ic l ++ [.int .i64 (-1)]) ca12_6) :: I3)) wc ((ge.kb, .cells [.slice A3 n3 c3, .bool i3]) :: (I3 ++ [(ga12_6, .row 3 1 (l.length + 1) (ic l ++ [.int .i64 (-1)]) ca12_6)])) := Mem.spin [(ge.kb, .cells [.slice A3 n3 c3, .bool i3])] [(ga12_6, .row 3 1 (l.length + 1) (ic l ++ [.int .i64 (-1)]) ca12_6)] I3 My.rebase
    have gx := genv.move (ex' := inL ((ge.kb, .cells [.slice A3 n3 c3, .bool i3]) :: (ga12_6, .row 3 1 (l.length + 1) (ic l ++ [.int .i64 (-1)]) ca12_6) :: I3)) Mq (fun b hb => by unfold inL at hb ⊢; exact (((List.sublist_append_left I3 Il).cons_cons _).cons_cons _ |>.map _).subset hb)
    refine ow_call (first := []) (cap := [.pointer (some ⟨ge.lo, 0, none⟩), .pointer (some ⟨ge.me, 0, none⟩), .pointer (some ⟨ge.hi, 0, none⟩), .pointer (some ⟨ge.ma, 0, none⟩), .pointer (some ⟨ge.gr, 0, none⟩)]) T rfl rfl rfl rfl (T.ev 7 rfl) (.cons (T.ev 0 rfl) (.cons (T.ev 4 rfl) .nil)) Try.func122 rfl rfl ?_
    refine Calls.mono (ih1 wc _ (l ++ [-1]) _ _ _ _ _ _ _ _ _ [(ga12_6, .row 3 1 (l.length + 1) (ic l ++ [.int .i64 (-1)]) ca12_6)] I3 (by simp) (by simp only [List.length_append, List.length_cons, List.length_nil]; omega) hu.skip hKs ⟨_, _, fun w ex => by rw [← ic_snoc]; exact Sp.row (by simp [ic_length])⟩ gx Mx) ?_
    clear T
    rintro e wc ⟨Aur12_8, nur12_8, cur12_8, iur12_8, Iur12_8, rfl, hksur12_8, N⟩
    intro ac T
    replace M := Mem.joinX (X := (ge.kb, .cells [.slice A3 n3 c3, .bool i3]) :: (ga12_6, .row 3 1 (l.length + 1) (ic l ++ [.int .i64 (-1)]) ca12_6) :: I3) (F := Il) Mq N (fun b h => h)
    clear N Mq My Mx gx
    replace M : Mem w exq wc ((ge.kb, .cells [.slice Aur12_8 nur12_8 cur12_8, .bool iur12_8]) :: (Iur12_8 ++ Il)) := M
    refine sh_out hK _ _ (M.perm [] rfl rfl) ?_; clear hK K
    refine gq (v := (.bool false)) T 9 1023 rfl (fun _ _ _ _ _ => (rn_neqof (rn_not rfl (T.ev 0 rfl)) (by simp))) ?_; clear T ac; intro ac T
    refine g_done (by kernel_rfl) ?_
    replace T := T.pick [0, 12, 13, 14, 15, 16, 17, 18, 19] rfl
    refine nm_then ?_
    refine wp_cond_false (T.ev 0 rfl) ?_
    refine wp_skip ?_
    refine nm_blk ?_
    refine nm_then ?_
    refine wp_region_lit ?_
    refine lq T (rn_add rfl (T.ev 8 rfl) evc (by omega)) ?_; clear T ac; intro ac T
    refine l_q (v := (.int .i64 ((h : Int) + 1))) (T.pick [0, 1, 2, 3, 4, 5, 6, 7, 8] rfl) rfl rfl rfl rfl (rn_move rfl (T.ev 0 rfl)) ?_; clear T ac; intro ac T
    refine wpList_nil ?_
    replace T := T.pick [0, 3, 4, 5, 6, 7, 8, 9] rfl
    refine nm_then ?_
    exact ⟨_, by omega, h + 1, Aur12_8, nur12_8, cur12_8, iur12_8, Iur12_8, rfl, (by omega), (by rw [stG_last' (by omega)]; exact hksur12_8), T.pick [1, 2, 3, 4, 5, 6, 7, 0] rfl, M⟩
   refine gi 181 ?_; intro K hK
   refine ow_bs (e := 3) [.int .i64 (-1)] M T rfl rfl rfl rfl (.cons (T.ev 1 rfl) .nil) (fun _ => by kernel_rfl) ?_; clear M T; intro gr12_5 wc ac M T
   refine sh_out hK _ _ (M.perm [] rfl rfl) ?_; clear hK K
   refine gw 1 183 ?_; intro K hK
   refine ow_bs0 (e := 3) M T rfl rfl rfl rfl (fun _ => by kernel_rfl) ?_; clear M T; intro gr12_1 wc ac M T
   refine sh_out hK _ _ (M.perm [] rfl rfl) ?_; clear hK K
   refine gw 3 191 ?_; intro K hK
   refine ow_appS Try.info3 M T rfl rfl rfl rfl (fun g w => Try.append0i _ _ g _ w) Try.underlying22 rfl rfl rfl (by omega) (T.ev 0 rfl) (T.ev 4 rfl) (Sl0.rd M (.cons _ (.cons _ (.cons _ (List.sublist_append_right _ _))))) (ic_one _) ?_; clear M T; intro Au12_3 cu12_3 Iu12_3 wc ac hSm12_3 M T
   replace M : Mem w exq wc ((gr12_5, .cells [.int .i64 (-1)]) :: (ge.kb, .cells [.slice A3 n3 c3, .bool i3]) :: (I3 ++ Il ++ Iu12_3)) := M.swapI
   refine sh_out hK _ _ (M.perm [] rfl rfl) ?_; clear hK K
   refine gw 6 255 ?_; intro K hK
   refine ow_appM (((gr12_5, .cells [.int .i64 (-1)]) :: (ge.kb, .cells [.slice A3 n3 c3, .bool i3]) :: (I3 ++ Il))) Try.info3 hSm12_3 M (by first | rfl | simp) T rfl rfl rfl rfl Try.underlying22 rfl rfl rfl (by omega) (T.ev 0 rfl) (T.ev 2 rfl) (nthE_mem (i := 0) rfl) rfl rfl ?_; clear M T; intro ga12_6 ca12_6 wc ac M T
   refine sh_out hK _ _ (M.perm [] rfl rfl) ?_; clear hK K
   refine gw 8 511 ?_; intro K hK
   have Mq : Mem w exq wc ((ge.kb, .cells [.slice A3 n3 c3, .bool i3]) :: (ga12_6, .row 3 1 (l.length + 1) (ic l ++ [.int .i64 (-1)]) ca12_6) :: (I3 ++ Il)) := M.permT [2, 0] 3 rfl rfl rfl rfl
   have My : Mem w exq wc ((ge.kb, .cells [.slice A3 n3 c3, .bool i3]) :: (ga12_6, .row 3 1 (l.length + 1) (ic l ++ [.int .i64 (-1)]) ca12_6) :: I3) := Mq.sub ((List.sublist_append_left I3 Il).cons_cons _ |>.cons_cons _)
   have Mx : Mem wc (inL ((ge.kb, .cells [.slice A3 n3 c3, .bool i3]) :: (ga12_6, .row 3 1 (l.length + 1) (ic l ++ [.int .i64 (-1)]) ca12_6) :: I3)) wc ((ge.kb, .cells [.slice A3 n3 c3, .bool i3]) :: (I3 ++ [(ga12_6, .row 3 1 (l.length + 1) (ic l ++ [.int .i64 (-1)]) ca12_6)])) := Mem.spin [(ge.kb, .cells [.slice A3 n3 c3, .bool i3])] [(ga12_6, .row 3 1 (l.length + 1) (ic l ++ [.int .i64 (-1)]) ca12_6)] I3 My.rebase
   have gx := genv.move (ex' := inL ((ge.kb, .cells [.slice A3 n3 c3, .bool i3]) :: (ga12_6, .row 3 1 (l.length + 1) (ic l ++ [.int .i64 (-1)]) ca12_6) :: I3)) Mq (fun b hb => by unfold inL at hb ⊢; exact (((List.sublist_append_left I3 Il).cons_cons _).cons_cons _ |>.map _).subset hb)
   refine ow_call (first := []) (cap := [.pointer (some ⟨ge.lo, 0, none⟩), .pointer (some ⟨ge.me, 0, none⟩), .pointer (some ⟨ge.hi, 0, none⟩), .pointer (some ⟨ge.ma, 0, none⟩), .pointer (some ⟨ge.gr, 0, none⟩)]) T rfl rfl rfl rfl (T.ev 7 rfl) (.cons (T.ev 0 rfl) (.cons (T.ev 4 rfl) .nil)) Try.func122 rfl rfl ?_
   refine Calls.mono (ih1 wc _ (l ++ [-1]) _ _ _ _ _ _ _ _ _ [(ga12_6, .row 3 1 (l.length + 1) (ic l ++ [.int .i64 (-1)]) ca12_6)] I3 (by simp) (by simp only [List.length_append, List.length_cons, List.length_nil]; omega) hu.skip hKs ⟨_, _, fun w ex => by rw [← ic_snoc]; exact Sp.row (by simp [ic_length])⟩ gx Mx) ?_
   clear T
   rintro e wc ⟨Aur12_8, nur12_8, cur12_8, iur12_8, Iur12_8, rfl, hksur12_8, N⟩
   intro ac T
   replace M := Mem.joinX (X := (ge.kb, .cells [.slice A3 n3 c3, .bool i3]) :: (ga12_6, .row 3 1 (l.length + 1) (ic l ++ [.int .i64 (-1)]) ca12_6) :: I3) (F := Il) Mq N (fun b h => h)
   clear N Mq My Mx gx
   replace M : Mem w exq wc ((ge.kb, .cells [.slice Aur12_8 nur12_8 cur12_8, .bool iur12_8]) :: (Iur12_8 ++ Il)) := M
   refine sh_out hK _ _ (M.perm [] rfl rfl) ?_; clear hK K
   refine gq (v := (.bool false)) T 9 1023 rfl (fun _ _ _ _ _ => (rn_neqof (rn_not rfl (T.ev 0 rfl)) (by simp))) ?_; clear T ac; intro ac T
   refine g_done (by kernel_rfl) ?_
   replace T := T.pick [0, 12, 13, 14, 15, 16, 17, 18, 19] rfl
   refine nm_then ?_
   refine wp_cond_false (T.ev 0 rfl) ?_
   refine wp_skip ?_
   refine nm_blk ?_
   refine nm_then ?_
   refine wp_region_lit ?_
   refine lq T (rn_add rfl (T.ev 8 rfl) evc (by omega)) ?_; clear T ac; intro ac T
   refine l_q (v := (.int .i64 ((h : Int) + 1))) (T.pick [0, 1, 2, 3, 4, 5, 6, 7, 8] rfl) rfl rfl rfl rfl (rn_move rfl (T.ev 0 rfl)) ?_; clear T ac; intro ac T
   refine wpList_nil ?_
   replace T := T.pick [0, 3, 4, 5, 6, 7, 8, 9] rfl
   refine nm_then ?_
   exact ⟨_, by omega, h + 1, Aur12_8, nur12_8, cur12_8, iur12_8, Iur12_8, rfl, (by omega), (by rw [stG_last' (by omega)]; exact hksur12_8), T.pick [1, 2, 3, 4, 5, 6, 7, 0] rfl, M⟩
  intro h3
  refine cut_seq (fun ac wc => Tm ac 60 [(0, .slice A l.length c), (1, .int .i64 used), (4, .pointer (some ⟨ge.hi, 0, none⟩)), (5, .pointer (some ⟨ge.ma, 0, none⟩)), (6, .pointer (some ⟨ge.gr, 0, none⟩)), (10, .func (.func 123) #[.int .i64 used] #[]), (11, .int .i64 (h : Int)), (12, .int .i64 (h : Int)), (24, .int .i64 (((ge.highs : Nat) : Int) + 1)), (25, .int .i64 (h : Int)), (37, .bool ((hasI used (h : Int)) || (!(may l.length h))))] ∧ Mem w exq wc ((ge.kb, .cells [.slice A3 n3 c3, .bool i3]) :: (I3 ++ Il))) ?_ ?_
  ·refine wp_region_lit ?_
   refine lq T (rn_move rfl (T.ev 9 rfl)) ?_; clear T ac; intro ac T
   refine lq T (rn_move rfl (T.ev 4 rfl)) ?_; clear T ac; intro ac T
   refine l_w rfl ?_; intro K hK
   refine ow_call (first := [.int .i64 used]) (cap := []) T rfl rfl rfl rfl (T.ev 1 rfl) (.cons (T.ev 0 rfl) .nil) Try.func123 rfl rfl ?_
   refine Calls.mono (hasT_any used (h : Int) _ (by omega)) ?_
   clear T
   rintro e wc ⟨rfl, hb⟩
   intro ac T
   replace M := M.call hb; clear hb
   refine sh_out hK _ _ ?_; clear hK K
   refine lq T (rn_move rfl (T.ev 0 rfl)) ?_; clear T ac; intro ac T
   rcases Bool.eq_false_or_eq_true (hasI used (h : Int)) with h4 | h4
   ·refine lp T (wanted_no rfl rfl (T.ev 0 rfl) h4) ?_; clear T ac; intro ac T
    refine lp T (wanted_no rfl rfl (T.ev 1 rfl) h4) ?_; clear T ac; intro ac T
    refine lp T (wanted_no rfl rfl (T.ev 2 rfl) h4) ?_; clear T ac; intro ac T
    refine lp T (wanted_no rfl rfl (T.ev 3 rfl) h4) ?_; clear T ac; intro ac T
    refine lp T (wanted_no rfl rfl (T.ev 4 rfl) h4) ?_; clear T ac; intro ac T
    refine lp T (wanted_no rfl rfl (T.ev 5 rfl) h4) ?_; clear T ac; intro ac T
    refine lq T (rn_pick1 rfl (T.ev 6 rfl) h4 evc) ?_; clear T ac; intro ac T
    refine lq T (rn_assign rfl (T.ev 0 rfl)) ?_; clear T ac; intro ac T
    refine wpList_nil ?_
    replace T := T.pick [0, 2, 3, 4, 5, 6, 7, 14, 15, 16, 17, 18, 19, 20, 21, 22, 23] rfl
    exact ⟨(T.pick (E' := [(0, .slice A l.length c), (1, .int .i64 used), (4, .pointer (some ⟨ge.hi, 0, none⟩)), (5, .pointer (some ⟨ge.ma, 0, none⟩)), (6, .pointer (some ⟨ge.gr, 0, none⟩)), (10, .func (.func 123) #[.int .i64 used] #[]), (11, .int .i64 (h : Int)), (12, .int .i64 (h : Int)), (24, .int .i64 (((ge.highs : Nat) : Int) + 1)), (25, .int .i64 (h : Int)), (37, .bool true)]) [9, 10, 11, 12, 13, 14, 8, 7, 15, 16, 0] rfl).as (by (try rw [show (hasI used (h : Int)) = true from h4]); (try rfl)), M.mask [true] rfl⟩
   refine lw T (wanted_yes rfl rfl (T.ev 0 rfl) h4) (rn_one (Mem.old M genv.ma.1 genv.ma.2) rfl (T.ev 11 rfl) rfl) ?_; clear T ac; intro ac T
   refine lw T (wanted_yes rfl rfl (T.ev 1 rfl) h4) (rn_move rfl (T.ev 9 rfl)) ?_; clear T ac; intro ac T
   refine lw T (wanted_yes rfl rfl (T.ev 2 rfl) h4) (rn_lenS rfl Try.underlying22 (T.ev 0 rfl)) ?_; clear T ac; intro ac T
   refine lw T (wanted_yes rfl rfl (T.ev 3 rfl) h4) (rn_move rfl (T.ev 10 rfl)) ?_; clear T ac; intro ac T
   refine l_w (wanted_yes rfl rfl (T.ev 4 rfl) h4) ?_; intro K hK
   refine ow_call (first := []) (cap := [.pointer (some ⟨ge.mb, 0, none⟩), .pointer (some ⟨ge.tb, 0, none⟩)]) T rfl rfl rfl rfl (T.ev 3 rfl) (.cons (T.ev 1 rfl) (.cons (T.ev 0 rfl) .nil)) Try.func101 rfl rfl ?_
   refine Calls.mono (hmay _ l.length h (genv.move M (fun _ h => h.elim)) (by omega) (by omega)) ?_
   clear T
   rintro e wc ⟨rfl, hb⟩
   intro ac T
   replace M := M.call hb; clear hb
   refine sh_out hK _ _ ?_; clear hK K
   refine lw T (wanted_yes rfl rfl (T.ev 5 rfl) h4) (rn_not rfl (T.ev 0 rfl)) ?_; clear T ac; intro ac T
   refine lq T (rn_pick0 rfl (T.ev 6 rfl) h4 (T.ev 0 rfl)) ?_; clear T ac; intro ac T
   refine lq T (rn_assign rfl (T.ev 0 rfl)) ?_; clear T ac; intro ac T
   refine wpList_nil ?_
   replace T := T.pick [0, 2, 3, 4, 5, 6, 7, 14, 15, 16, 17, 18, 19, 20, 21, 22, 23] rfl
   exact ⟨(T.pick (E' := [(0, .slice A l.length c), (1, .int .i64 used), (4, .pointer (some ⟨ge.hi, 0, none⟩)), (5, .pointer (some ⟨ge.ma, 0, none⟩)), (6, .pointer (some ⟨ge.gr, 0, none⟩)), (10, .func (.func 123) #[.int .i64 used] #[]), (11, .int .i64 (h : Int)), (12, .int .i64 (h : Int)), (24, .int .i64 (((ge.highs : Nat) : Int) + 1)), (25, .int .i64 (h : Int)), (37, .bool (!(may l.length h)))]) [9, 10, 11, 12, 13, 14, 8, 7, 15, 16, 0] rfl).as (by (try rw [show (hasI used (h : Int)) = false from h4]); (try rfl)), M.mask [true] rfl⟩
  clear T M
  rintro ac wc ⟨T, M⟩
  refine wp_cond_split (T.ev 10 rfl) ?_ ?_
  ·intro h5
   (try have h5' := h5; try simp only [Bool.and_eq_true, Bool.or_eq_true, Bool.not_eq_true', Bool.and_eq_false_imp, Bool.or_eq_false_iff, decide_eq_true_eq, decide_eq_false_iff_not] at h5')
   refine wp_exit ?_
   refine ex_miss rfl ?_
   refine ex_then ?_
   refine ex_hit ?_
   refine nm_then ?_
   refine wp_region_lit ?_
   refine lq T (rn_add rfl (T.ev 9 rfl) evc (by omega)) ?_; clear T ac; intro ac T
   refine l_q (v := (.int .i64 ((h : Int) + 1))) (T.pick [0, 1, 2, 3, 4, 5, 6, 7, 8, 9, 11] rfl) rfl rfl rfl rfl (rn_move rfl (T.ev 0 rfl)) ?_; clear T ac; intro ac T
   refine wpList_nil ?_
   replace T := T.pick [0, 2, 3, 4, 5, 6, 7, 10] rfl
   refine nm_then ?_
   exact ⟨_, by omega, h + 1, A3, n3, c3, i3, I3, rfl, (by omega), (by rw [stG_skip (by omega) (goP_of hu (by omega) h5)]; exact hKs), T.pick [1, 2, 3, 4, 5, 6, 7, 0] rfl, M⟩
  intro h5
  (try have h5' := h5; try simp only [Bool.and_eq_true, Bool.or_eq_true, Bool.not_eq_true', Bool.and_eq_false_imp, Bool.or_eq_false_iff, decide_eq_true_eq, decide_eq_false_iff_not] at h5')
  refine wp_region_lit ?_
  refine lq T (rn_move rfl (T.ev 1 rfl)) ?_; clear T ac; intro ac T
  refine lq T (rn_move rfl (T.ev 7 rfl)) ?_; clear T ac; intro ac T
  refine l_w rfl ?_; intro K hK
  refine ow_call (first := []) (cap := []) T rfl rfl rfl rfl evf (.cons (T.ev 1 rfl) (.cons (T.ev 0 rfl) .nil)) Try.func74 rfl rfl ?_
  refine Calls.mono (with_any used (h : Int) _ (by omega)) ?_
  clear T
  rintro e wc ⟨rfl, hb⟩
  intro ac T
  replace M := M.call hb; clear hb
  refine sh_out hK _ _ ?_; clear hK K
  refine lq T (rn_assign rfl (T.ev 0 rfl)) ?_; clear T ac; intro ac T
  refine wpList_nil ?_
  replace T := T.pick [0, 4, 5, 6, 7, 8, 9, 11, 12, 13] rfl
  refine nm_blk ?_
  refine nm_then ?_
  refine wp_seq ?_
  refine g_start2 M (M.perm [] rfl rfl) 10 (by kernel_rfl) rfl (by kernel_rfl) ?_
  clear M; intro wc M
  refine gq T 0 1 rfl (fun B w' hD hl hS => (rn_one (Mem.old (show Mem w exq w' _ from hS) genv.gr.1 genv.gr.2) rfl (T.ev 5 rfl) rfl)) ?_; clear T ac; intro ac T
  refine gq T 2 5 rfl (fun _ _ _ _ _ => (rn_move rfl (T.ev 2 rfl))) ?_; clear T ac; intro ac T
  refine gq T 4 21 rfl (fun _ _ _ _ _ => (rn_move rfl (T.ev 9 rfl))) ?_; clear T ac; intro ac T
  refine gq T 7 149 rfl (fun _ _ _ _ _ => (rn_move rfl (T.ev 3 rfl))) ?_; clear T ac; intro ac T
  refine g_m2 (i := 1) (j := 5) (by kernel_rfl) ?_ ?_
  ·refine gi 151 ?_; intro K hK
   refine ow_bs0 (e := 3) M T rfl rfl rfl rfl (fun _ => by kernel_rfl) ?_; clear M T; intro gr12_1 wc ac M T
   refine sh_out hK _ _ (M.perm [] rfl rfl) ?_; clear hK K
   refine g_m2 (i := 3) (j := 5) (by kernel_rfl) ?_ ?_
   ·refine gi 159 ?_; intro K hK
    refine ow_appS Try.info3 M T rfl rfl rfl rfl (fun g w => Try.append0i _ _ g _ w) Try.underlying22 rfl rfl rfl (by omega) (T.ev 0 rfl) (T.ev 3 rfl) (Sl0.rd M (.cons _ (.cons _ (List.sublist_append_right _ _)))) (ic_one _) ?_; clear M T; intro Au12_3 cu12_3 Iu12_3 wc ac hSm12_3 M T
    replace M : Mem w exq wc ((ge.kb, .cells [.slice A3 n3 c3, .bool i3]) :: (I3 ++ Il ++ Iu12_3)) := M.swapI
    refine sh_out hK _ _ (M.perm [] rfl rfl) ?_; clear hK K
    refine gw 5 191 ?_; intro K hK
    refine ow_bs (e := 3) [.int .i64 (h : Int)] M T rfl rfl rfl rfl (.cons (T.ev 3 rfl) .nil) (fun _ => by kernel_rfl) ?_; clear M T; intro gr12_5 wc ac M T
    refine sh_out hK _ _ (M.perm [] rfl rfl) ?_; clear hK K
    refine gw 6 255 ?_; intro K hK
    refine ow_appM (((gr12_5, .cells [.int .i64 (h : Int)]) :: (ge.kb, .cells [.slice A3 n3 c3, .bool i3]) :: (I3 ++ Il))) Try.info3 hSm12_3 M (by first | rfl | simp) T rfl rfl rfl rfl Try.underlying22 rfl rfl rfl (by omega) (T.ev 1 rfl) (T.ev 0 rfl) (nthE_mem (i := 0) rfl) rfl rfl ?_; clear M T; intro ga12_6 ca12_6 wc ac M T
    refine sh_out hK _ _ (M.perm [] rfl rfl) ?_; clear hK K
    refine gw 8 511 ?_; intro K hK
    have Mq : Mem w exq wc ((ge.kb, .cells [.slice A3 n3 c3, .bool i3]) :: (ga12_6, .row 3 1 (l.length + 1) (ic l ++ [.int .i64 (h : Int)]) ca12_6) :: (I3 ++ Il)) := M.permT [2, 0] 3 rfl rfl rfl rfl
    have My : Mem w exq wc ((ge.kb, .cells [.slice A3 n3 c3, .bool i3]) :: (ga12_6, .row 3 1 (l.length + 1) (ic l ++ [.int .i64 (h : Int)]) ca12_6) :: I3) := Mq.sub ((List.sublist_append_left I3 Il).cons_cons _ |>.cons_cons _)
    have Mx : Mem wc (inL ((ge.kb, .cells [.slice A3 n3 c3, .bool i3]) :: (ga12_6, .row 3 1 (l.length + 1) (ic l ++ [.int .i64 (h : Int)]) ca12_6) :: I3)) wc ((ge.kb, .cells [.slice A3 n3 c3, .bool i3]) :: (I3 ++ [(ga12_6, .row 3 1 (l.length + 1) (ic l ++ [.int .i64 (h : Int)]) ca12_6)])) := Mem.spin [(ge.kb, .cells [.slice A3 n3 c3, .bool i3])] [(ga12_6, .row 3 1 (l.length + 1) (ic l ++ [.int .i64 (h : Int)]) ca12_6)] I3 My.rebase
    have gx := genv.move (ex' := inL ((ge.kb, .cells [.slice A3 n3 c3, .bool i3]) :: (ga12_6, .row 3 1 (l.length + 1) (ic l ++ [.int .i64 (h : Int)]) ca12_6) :: I3)) Mq (fun b hb => by unfold inL at hb ⊢; exact (((List.sublist_append_left I3 Il).cons_cons _).cons_cons _ |>.map _).subset hb)
    refine ow_call (first := []) (cap := [.pointer (some ⟨ge.lo, 0, none⟩), .pointer (some ⟨ge.me, 0, none⟩), .pointer (some ⟨ge.hi, 0, none⟩), .pointer (some ⟨ge.ma, 0, none⟩), .pointer (some ⟨ge.gr, 0, none⟩)]) T rfl rfl rfl rfl (T.ev 7 rfl) (.cons (T.ev 0 rfl) (.cons (T.ev 4 rfl) .nil)) Try.func122 rfl rfl ?_
    refine Calls.mono (ih1 wc _ (l ++ [(h : Int)]) _ _ _ _ _ _ _ _ _ [(ga12_6, .row 3 1 (l.length + 1) (ic l ++ [.int .i64 (h : Int)]) ca12_6)] I3 (by simp) (by simp only [List.length_append, List.length_cons, List.length_nil]; omega) (hu.with (by omega)) hKs ⟨_, _, fun w ex => by rw [← ic_snoc]; exact Sp.row (by simp [ic_length])⟩ gx Mx) ?_
    clear T
    rintro e wc ⟨Aur12_8, nur12_8, cur12_8, iur12_8, Iur12_8, rfl, hksur12_8, N⟩
    intro ac T
    replace M := Mem.joinX (X := (ge.kb, .cells [.slice A3 n3 c3, .bool i3]) :: (ga12_6, .row 3 1 (l.length + 1) (ic l ++ [.int .i64 (h : Int)]) ca12_6) :: I3) (F := Il) Mq N (fun b h => h)
    clear N Mq My Mx gx
    replace M : Mem w exq wc ((ge.kb, .cells [.slice Aur12_8 nur12_8 cur12_8, .bool iur12_8]) :: (Iur12_8 ++ Il)) := M
    refine sh_out hK _ _ (M.perm [] rfl rfl) ?_; clear hK K
    refine gq (v := (.bool false)) T 9 1023 rfl (fun _ _ _ _ _ => (rn_neqof (rn_not rfl (T.ev 0 rfl)) (by simp))) ?_; clear T ac; intro ac T
    refine g_done (by kernel_rfl) ?_
    replace T := T.pick [0, 11, 12, 13, 14, 15, 16, 18, 19] rfl
    refine nm_then ?_
    refine wp_cond_false (T.ev 0 rfl) ?_
    refine wp_skip ?_
    refine nm_blk ?_
    refine nm_then ?_
    refine wp_region_lit ?_
    refine lq T (rn_add rfl (T.ev 8 rfl) evc (by omega)) ?_; clear T ac; intro ac T
    refine l_q (v := (.int .i64 ((h : Int) + 1))) (T.pick [0, 1, 2, 3, 4, 5, 6, 7, 8] rfl) rfl rfl rfl rfl (rn_move rfl (T.ev 0 rfl)) ?_; clear T ac; intro ac T
    refine wpList_nil ?_
    replace T := T.pick [0, 3, 4, 5, 6, 7, 8, 9] rfl
    refine nm_then ?_
    exact ⟨_, by omega, h + 1, Aur12_8, nur12_8, cur12_8, iur12_8, Iur12_8, rfl, (by omega), (by rw [stG_go (by omega) (goP_of hu (by omega) h5)]; exact hksur12_8), T.pick [1, 2, 3, 4, 5, 6, 7, 0] rfl, M⟩
   refine gi 183 ?_; intro K hK
   refine ow_bs (e := 3) [.int .i64 (h : Int)] M T rfl rfl rfl rfl (.cons (T.ev 2 rfl) .nil) (fun _ => by kernel_rfl) ?_; clear M T; intro gr12_5 wc ac M T
   refine sh_out hK _ _ (M.perm [] rfl rfl) ?_; clear hK K
   refine gw 3 191 ?_; intro K hK
   replace M := M.permT [1, 0, 2] 3 rfl rfl rfl rfl
   refine ow_appS Try.info3 M T rfl rfl rfl rfl (fun g w => Try.append0i _ _ g _ w) Try.underlying22 rfl rfl rfl (by omega) (T.ev 1 rfl) (T.ev 4 rfl) (Sl0.rd M (.cons _ (.cons _ (.cons _ (List.sublist_append_right _ _))))) (ic_one _) ?_; clear M T; intro Au12_3 cu12_3 Iu12_3 wc ac hSm12_3 M T
   replace M : Mem w exq wc ((gr12_5, .cells [.int .i64 (h : Int)]) :: (ge.kb, .cells [.slice A3 n3 c3, .bool i3]) :: (I3 ++ Il ++ Iu12_3)) := M.swapI
   refine sh_out hK _ _ (M.perm [] rfl rfl) ?_; clear hK K
   refine gw 6 255 ?_; intro K hK
   refine ow_appM (((gr12_5, .cells [.int .i64 (h : Int)]) :: (ge.kb, .cells [.slice A3 n3 c3, .bool i3]) :: (I3 ++ Il))) Try.info3 hSm12_3 M (by first | rfl | simp) T rfl rfl rfl rfl Try.underlying22 rfl rfl rfl (by omega) (T.ev 0 rfl) (T.ev 1 rfl) (nthE_mem (i := 0) rfl) rfl rfl ?_; clear M T; intro ga12_6 ca12_6 wc ac M T
   refine sh_out hK _ _ (M.perm [] rfl rfl) ?_; clear hK K
   refine gw 8 511 ?_; intro K hK
   have Mq : Mem w exq wc ((ge.kb, .cells [.slice A3 n3 c3, .bool i3]) :: (ga12_6, .row 3 1 (l.length + 1) (ic l ++ [.int .i64 (h : Int)]) ca12_6) :: (I3 ++ Il)) := M.permT [2, 0] 3 rfl rfl rfl rfl
   have My : Mem w exq wc ((ge.kb, .cells [.slice A3 n3 c3, .bool i3]) :: (ga12_6, .row 3 1 (l.length + 1) (ic l ++ [.int .i64 (h : Int)]) ca12_6) :: I3) := Mq.sub ((List.sublist_append_left I3 Il).cons_cons _ |>.cons_cons _)
   have Mx : Mem wc (inL ((ge.kb, .cells [.slice A3 n3 c3, .bool i3]) :: (ga12_6, .row 3 1 (l.length + 1) (ic l ++ [.int .i64 (h : Int)]) ca12_6) :: I3)) wc ((ge.kb, .cells [.slice A3 n3 c3, .bool i3]) :: (I3 ++ [(ga12_6, .row 3 1 (l.length + 1) (ic l ++ [.int .i64 (h : Int)]) ca12_6)])) := Mem.spin [(ge.kb, .cells [.slice A3 n3 c3, .bool i3])] [(ga12_6, .row 3 1 (l.length + 1) (ic l ++ [.int .i64 (h : Int)]) ca12_6)] I3 My.rebase
   have gx := genv.move (ex' := inL ((ge.kb, .cells [.slice A3 n3 c3, .bool i3]) :: (ga12_6, .row 3 1 (l.length + 1) (ic l ++ [.int .i64 (h : Int)]) ca12_6) :: I3)) Mq (fun b hb => by unfold inL at hb ⊢; exact (((List.sublist_append_left I3 Il).cons_cons _).cons_cons _ |>.map _).subset hb)
   refine ow_call (first := []) (cap := [.pointer (some ⟨ge.lo, 0, none⟩), .pointer (some ⟨ge.me, 0, none⟩), .pointer (some ⟨ge.hi, 0, none⟩), .pointer (some ⟨ge.ma, 0, none⟩), .pointer (some ⟨ge.gr, 0, none⟩)]) T rfl rfl rfl rfl (T.ev 7 rfl) (.cons (T.ev 0 rfl) (.cons (T.ev 4 rfl) .nil)) Try.func122 rfl rfl ?_
   refine Calls.mono (ih1 wc _ (l ++ [(h : Int)]) _ _ _ _ _ _ _ _ _ [(ga12_6, .row 3 1 (l.length + 1) (ic l ++ [.int .i64 (h : Int)]) ca12_6)] I3 (by simp) (by simp only [List.length_append, List.length_cons, List.length_nil]; omega) (hu.with (by omega)) hKs ⟨_, _, fun w ex => by rw [← ic_snoc]; exact Sp.row (by simp [ic_length])⟩ gx Mx) ?_
   clear T
   rintro e wc ⟨Aur12_8, nur12_8, cur12_8, iur12_8, Iur12_8, rfl, hksur12_8, N⟩
   intro ac T
   replace M := Mem.joinX (X := (ge.kb, .cells [.slice A3 n3 c3, .bool i3]) :: (ga12_6, .row 3 1 (l.length + 1) (ic l ++ [.int .i64 (h : Int)]) ca12_6) :: I3) (F := Il) Mq N (fun b h => h)
   clear N Mq My Mx gx
   replace M : Mem w exq wc ((ge.kb, .cells [.slice Aur12_8 nur12_8 cur12_8, .bool iur12_8]) :: (Iur12_8 ++ Il)) := M
   refine sh_out hK _ _ (M.perm [] rfl rfl) ?_; clear hK K
   refine gq (v := (.bool false)) T 9 1023 rfl (fun _ _ _ _ _ => (rn_neqof (rn_not rfl (T.ev 0 rfl)) (by simp))) ?_; clear T ac; intro ac T
   refine g_done (by kernel_rfl) ?_
   replace T := T.pick [0, 11, 12, 13, 14, 15, 16, 18, 19] rfl
   refine nm_then ?_
   refine wp_cond_false (T.ev 0 rfl) ?_
   refine wp_skip ?_
   refine nm_blk ?_
   refine nm_then ?_
   refine wp_region_lit ?_
   refine lq T (rn_add rfl (T.ev 8 rfl) evc (by omega)) ?_; clear T ac; intro ac T
   refine l_q (v := (.int .i64 ((h : Int) + 1))) (T.pick [0, 1, 2, 3, 4, 5, 6, 7, 8] rfl) rfl rfl rfl rfl (rn_move rfl (T.ev 0 rfl)) ?_; clear T ac; intro ac T
   refine wpList_nil ?_
   replace T := T.pick [0, 3, 4, 5, 6, 7, 8, 9] rfl
   refine nm_then ?_
   exact ⟨_, by omega, h + 1, Aur12_8, nur12_8, cur12_8, iur12_8, Iur12_8, rfl, (by omega), (by rw [stG_go (by omega) (goP_of hu (by omega) h5)]; exact hksur12_8), T.pick [1, 2, 3, 4, 5, 6, 7, 0] rfl, M⟩
  refine gi 181 ?_; intro K hK
  refine ow_bs (e := 3) [.int .i64 (h : Int)] M T rfl rfl rfl rfl (.cons (T.ev 1 rfl) .nil) (fun _ => by kernel_rfl) ?_; clear M T; intro gr12_5 wc ac M T
  refine sh_out hK _ _ (M.perm [] rfl rfl) ?_; clear hK K
  refine gw 1 183 ?_; intro K hK
  refine ow_bs0 (e := 3) M T rfl rfl rfl rfl (fun _ => by kernel_rfl) ?_; clear M T; intro gr12_1 wc ac M T
  refine sh_out hK _ _ (M.perm [] rfl rfl) ?_; clear hK K
  refine gw 3 191 ?_; intro K hK
  refine ow_appS Try.info3 M T rfl rfl rfl rfl (fun g w => Try.append0i _ _ g _ w) Try.underlying22 rfl rfl rfl (by omega) (T.ev 0 rfl) (T.ev 4 rfl) (Sl0.rd M (.cons _ (.cons _ (.cons _ (List.sublist_append_right _ _))))) (ic_one _) ?_; clear M T; intro Au12_3 cu12_3 Iu12_3 wc ac hSm12_3 M T
  replace M : Mem w exq wc ((gr12_5, .cells [.int .i64 (h : Int)]) :: (ge.kb, .cells [.slice A3 n3 c3, .bool i3]) :: (I3 ++ Il ++ Iu12_3)) := M.swapI
  refine sh_out hK _ _ (M.perm [] rfl rfl) ?_; clear hK K
  refine gw 6 255 ?_; intro K hK
  refine ow_appM (((gr12_5, .cells [.int .i64 (h : Int)]) :: (ge.kb, .cells [.slice A3 n3 c3, .bool i3]) :: (I3 ++ Il))) Try.info3 hSm12_3 M (by first | rfl | simp) T rfl rfl rfl rfl Try.underlying22 rfl rfl rfl (by omega) (T.ev 0 rfl) (T.ev 2 rfl) (nthE_mem (i := 0) rfl) rfl rfl ?_; clear M T; intro ga12_6 ca12_6 wc ac M T
  refine sh_out hK _ _ (M.perm [] rfl rfl) ?_; clear hK K
  refine gw 8 511 ?_; intro K hK
  have Mq : Mem w exq wc ((ge.kb, .cells [.slice A3 n3 c3, .bool i3]) :: (ga12_6, .row 3 1 (l.length + 1) (ic l ++ [.int .i64 (h : Int)]) ca12_6) :: (I3 ++ Il)) := M.permT [2, 0] 3 rfl rfl rfl rfl
  have My : Mem w exq wc ((ge.kb, .cells [.slice A3 n3 c3, .bool i3]) :: (ga12_6, .row 3 1 (l.length + 1) (ic l ++ [.int .i64 (h : Int)]) ca12_6) :: I3) := Mq.sub ((List.sublist_append_left I3 Il).cons_cons _ |>.cons_cons _)
  have Mx : Mem wc (inL ((ge.kb, .cells [.slice A3 n3 c3, .bool i3]) :: (ga12_6, .row 3 1 (l.length + 1) (ic l ++ [.int .i64 (h : Int)]) ca12_6) :: I3)) wc ((ge.kb, .cells [.slice A3 n3 c3, .bool i3]) :: (I3 ++ [(ga12_6, .row 3 1 (l.length + 1) (ic l ++ [.int .i64 (h : Int)]) ca12_6)])) := Mem.spin [(ge.kb, .cells [.slice A3 n3 c3, .bool i3])] [(ga12_6, .row 3 1 (l.length + 1) (ic l ++ [.int .i64 (h : Int)]) ca12_6)] I3 My.rebase
  have gx := genv.move (ex' := inL ((ge.kb, .cells [.slice A3 n3 c3, .bool i3]) :: (ga12_6, .row 3 1 (l.length + 1) (ic l ++ [.int .i64 (h : Int)]) ca12_6) :: I3)) Mq (fun b hb => by unfold inL at hb ⊢; exact (((List.sublist_append_left I3 Il).cons_cons _).cons_cons _ |>.map _).subset hb)
  refine ow_call (first := []) (cap := [.pointer (some ⟨ge.lo, 0, none⟩), .pointer (some ⟨ge.me, 0, none⟩), .pointer (some ⟨ge.hi, 0, none⟩), .pointer (some ⟨ge.ma, 0, none⟩), .pointer (some ⟨ge.gr, 0, none⟩)]) T rfl rfl rfl rfl (T.ev 7 rfl) (.cons (T.ev 0 rfl) (.cons (T.ev 4 rfl) .nil)) Try.func122 rfl rfl ?_
  refine Calls.mono (ih1 wc _ (l ++ [(h : Int)]) _ _ _ _ _ _ _ _ _ [(ga12_6, .row 3 1 (l.length + 1) (ic l ++ [.int .i64 (h : Int)]) ca12_6)] I3 (by simp) (by simp only [List.length_append, List.length_cons, List.length_nil]; omega) (hu.with (by omega)) hKs ⟨_, _, fun w ex => by rw [← ic_snoc]; exact Sp.row (by simp [ic_length])⟩ gx Mx) ?_
  clear T
  rintro e wc ⟨Aur12_8, nur12_8, cur12_8, iur12_8, Iur12_8, rfl, hksur12_8, N⟩
  intro ac T
  replace M := Mem.joinX (X := (ge.kb, .cells [.slice A3 n3 c3, .bool i3]) :: (ga12_6, .row 3 1 (l.length + 1) (ic l ++ [.int .i64 (h : Int)]) ca12_6) :: I3) (F := Il) Mq N (fun b h => h)
  clear N Mq My Mx gx
  replace M : Mem w exq wc ((ge.kb, .cells [.slice Aur12_8 nur12_8 cur12_8, .bool iur12_8]) :: (Iur12_8 ++ Il)) := M
  refine sh_out hK _ _ (M.perm [] rfl rfl) ?_; clear hK K
  refine gq (v := (.bool false)) T 9 1023 rfl (fun _ _ _ _ _ => (rn_neqof (rn_not rfl (T.ev 0 rfl)) (by simp))) ?_; clear T ac; intro ac T
  refine g_done (by kernel_rfl) ?_
  replace T := T.pick [0, 11, 12, 13, 14, 15, 16, 18, 19] rfl
  refine nm_then ?_
  refine wp_cond_false (T.ev 0 rfl) ?_
  refine wp_skip ?_
  refine nm_blk ?_
  refine nm_then ?_
  refine wp_region_lit ?_
  refine lq T (rn_add rfl (T.ev 8 rfl) evc (by omega)) ?_; clear T ac; intro ac T
  refine l_q (v := (.int .i64 ((h : Int) + 1))) (T.pick [0, 1, 2, 3, 4, 5, 6, 7, 8] rfl) rfl rfl rfl rfl (rn_move rfl (T.ev 0 rfl)) ?_; clear T ac; intro ac T
  refine wpList_nil ?_
  replace T := T.pick [0, 3, 4, 5, 6, 7, 8, 9] rfl
  refine nm_then ?_
  exact ⟨_, by omega, h + 1, Aur12_8, nur12_8, cur12_8, iur12_8, Iur12_8, rfl, (by omega), (by rw [stG_go (by omega) (goP_of hu (by omega) h5)]; exact hksur12_8), T.pick [1, 2, 3, 4, 5, 6, 7, 0] rfl, M⟩
 intro h2
 rw [stG_end (by omega)] at hKs
 refine wp_exit ?_
 refine ex_then ?_
 refine ex_then ?_
 refine ex_hit ?_
 refine nm_then ?_
 refine wp_seq ?_
 refine wp_region_lit ?_
 refine lq T (rn_assign rfl evc) ?_; clear T ac; intro ac T
 refine wpList_nil ?_
 replace T := T.pick [0] rfl
 refine nm_then ?_
 refine wp_ret ?_
 refine rt_ng ?_
 refine rt_1 T rfl (T.ev 0 rfl) ?_
 exact ⟨A3, n3, c3, i3, I3, rfl, hKs, M.sub (.cons_cons _ (List.sublist_append_left _ _))⟩
theorem grow_any (ge : GE) (may : Nat → Nat → Bool) (hlo : ge.lows ≤ 4) (hhi : ge.highs ≤ 5) (hmay : MayOk ge may) : ∀ r : Nat, GrowSpec ge may r
 | 0 => fun w exq l A m c used bo Ab nb cb is Il Ib hm hlr hu hks hl genv M0 => by
   subst hm
   exact grow_step ge may 0 exq l A c used bo Ab nb cb is Il Ib w hlo hhi hmay (fun _ h => by cases h) hlr hu hks hl genv M0
 | r + 1 => fun w exq l A m c used bo Ab nb cb is Il Ib hm hlr hu hks hl genv M0 => by
   subst hm
   exact grow_step ge may (r + 1) exq l A c used bo Ab nb cb is Il Ib w hlo hhi hmay (fun r' h => by injection h with h; subst h; exact grow_any ge may hlo hhi hmay _) hlr hu hks hl genv M0
end Go.Proofs.Ytlahdenlmmlplaa
end

section
/-
 voice: the pairing with the most pairs.
-/
namespace Go.Proofs.Ytlahdenlmmlplaa
set_option linter.unusedSimpArgs false
set_option linter.unusedVariables false
open Go.RowKit
def PairPost (kb : Nat) (best : Option (List Int)) (w : World) (e : Ending) (w' : World) : Prop :=
 ∃ A n c is I, e = .returned (.tuple #[]) ∧ KS best A n is I ∧ Mem w (fun b => b = kb) w' ((kb, .cells [.slice A n c, .bool is]) :: I)
def MostPost (l : List Int) (w : World) (e : Ending) (w' : World) : Prop := ∃ A c I, e = .returned (.slice A l.length c) ∧ l.length ≤ 5 ∧ (∃ b o, ∀ (w : World) (ex : Nat → Prop), Sp w ex I A l.length 1 b o (ic l)) ∧ Mem w noEx w' I
theorem pairings_any (lows highs kb mb tb fo : Nat) (A : Option Addr) (c : Nat) (LL : List LE) (may : Nat → Nat → Bool) (w : World) (hlo : lows ≤ 4) (hhi : highs ≤ 5) (hmay : ∀ lo me hi ma gr, MayOk ⟨lo, me, hi, ma, gr, kb, mb, tb, fo, lows, highs, A, c, LL⟩ may) (hmb : Old w (fun b => b = kb) mb [.func (.func fo) #[] #[]]) (htb : Old w (fun b => b = kb) tb [.slice A LL.length c]) (hA : ∃ b o, Sp w (fun b => b = kb) [] A LL.length 1 b o (lc LL)) (hE : ∀ x ∈ LL, ∃ b o, Sp w (fun b => b = kb) [] x.2.1 x.1.length 1 b o (ic x.1)) (hk : Bk w kb #[.slice none 0 0, .bool false]) :
   Calls Try.prog 100 #[.int .i64 ((lows : Nat) : Int), .int .i64 ((highs : Nat) : Int), .func (.func 101) #[] #[.pointer (some ⟨mb, 0, none⟩), .pointer (some ⟨tb, 0, none⟩)], .func (.func 102) #[] #[.pointer (some ⟨kb, 0, none⟩)]] w (PairPost kb (growP may highs lows [] none) w) := by
 refine px_enter (fun b => b = kb) Try.func100 rfl 12 rfl [.int .i64 ((lows : Nat) : Int), .int .i64 ((highs : Nat) : Int), .func (.func 101) #[] #[.pointer (some ⟨mb, 0, none⟩), .pointer (some ⟨tb, 0, none⟩)], .func (.func 102) #[] #[.pointer (some ⟨kb, 0, none⟩)]] rfl rfl (Mem.initEx (p := .cells [.slice none 0 0, .bool false]) hk) ?_
 intro ac wc T M
 refine wp_seq ?_
 refine wp_region_lit ?_
 refine l_w rfl ?_; intro K hK
 refine ow_bx M T rfl rfl rfl rfl (T.ev 0 rfl) rfl ?_; clear M T; intro g1 wc ac M T
 refine sh_out hK _ _ ?_; clear hK K
 refine l_w rfl ?_; intro K hK
 refine ow_bx M T rfl rfl rfl rfl (T.ev 2 rfl) rfl ?_; clear M T; intro g2 wc ac M T
 refine sh_out hK _ _ ?_; clear hK K
 refine l_w rfl ?_; intro K hK
 refine ow_bx M T rfl rfl rfl rfl (T.ev 4 rfl) rfl ?_; clear M T; intro g3 wc ac M T
 refine sh_out hK _ _ ?_; clear hK K
 refine l_w rfl ?_; intro K hK
 refine ow_bx M T rfl rfl rfl rfl (T.ev 6 rfl) rfl ?_; clear M T; intro g4 wc ac M T
 refine sh_out hK _ _ ?_; clear hK K
 refine wpList_nil ?_
 replace T := T.pick [0, 1, 2, 3] rfl
 refine nm_then ?_
 refine wp_seq ?_
 refine wp_region_lit ?_
 refine l_w rfl ?_; intro K hK
 refine ow_al M T rfl rfl rfl rfl ?_; clear M T; intro g5 wc ac M T
 refine sh_out hK _ _ ?_; clear hK K
 refine wpList_nil ?_
 refine nm_then ?_
 refine wp_seq ?_
 refine wp_region_lit ?_
 refine lq (v := (.func (.func 122) #[] #[.pointer (some ⟨g1, 0, none⟩), .pointer (some ⟨g4, 0, none⟩), .pointer (some ⟨g2, 0, none⟩), .pointer (some ⟨g3, 0, none⟩), .pointer (some ⟨g5, 0, none⟩)])) T (rn_makeFunc rfl .nil (.cons (T.ev 4 rfl) (.cons (T.ev 1 rfl) (.cons (T.ev 3 rfl) (.cons (T.ev 2 rfl) (.cons (T.ev 0 rfl) .nil)))))) ?_; clear T ac; intro ac T
 refine l_w rfl ?_; intro K hK
 refine ow_stO M T rfl rfl (T.ev 1 rfl) (T.ev 0 rfl) rfl .head rfl (by simp) rfl (by kernel_rfl) ?_; clear M T; intro wc ac M T
 refine sh_out hK _ _ ?_; clear hK K
 refine wpList_nil ?_
 replace T := T.pick [1] rfl
 refine nm_then ?_
 refine wp_region_lit ?_
 refine lq T (rn_one (Mem.nth M 0 rfl) rfl (T.ev 0 rfl) rfl) ?_; clear T ac; intro ac T
 refine l_w rfl ?_; intro K hK
 have Mq : Mem w (fun b => b = kb) wc ([(kb, .cells [.slice none 0 0, .bool false])] ++ [(g1, .cells [.int .i64 ((lows : Nat) : Int)]), (g4, .cells [.func (.func 102) #[] #[.pointer (some ⟨kb, 0, none⟩)]]), (g2, .cells [.int .i64 ((highs : Nat) : Int)]), (g3, .cells [.func (.func 101) #[] #[.pointer (some ⟨mb, 0, none⟩), .pointer (some ⟨tb, 0, none⟩)]]), (g5, .cells [.func (.func 122) #[] #[.pointer (some ⟨g1, 0, none⟩), .pointer (some ⟨g4, 0, none⟩), .pointer (some ⟨g2, 0, none⟩), .pointer (some ⟨g3, 0, none⟩), .pointer (some ⟨g5, 0, none⟩)]])]) := M.perm [5, 4, 1, 3, 2, 0] rfl rfl
 have hi0 : ∀ b, inL [(kb, .cells [.slice none 0 0, .bool false])] b → inL ([(kb, .cells [.slice none 0 0, .bool false])] ++ [(g1, .cells [.int .i64 ((lows : Nat) : Int)]), (g4, .cells [.func (.func 102) #[] #[.pointer (some ⟨kb, 0, none⟩)]]), (g2, .cells [.int .i64 ((highs : Nat) : Int)]), (g3, .cells [.func (.func 101) #[] #[.pointer (some ⟨mb, 0, none⟩), .pointer (some ⟨tb, 0, none⟩)]]), (g5, .cells [.func (.func 122) #[] #[.pointer (some ⟨g1, 0, none⟩), .pointer (some ⟨g4, 0, none⟩), .pointer (some ⟨g2, 0, none⟩), .pointer (some ⟨g3, 0, none⟩), .pointer (some ⟨g5, 0, none⟩)]])]) b := fun b hb => by unfold inL at hb ⊢; exact ((List.sublist_append_left _ _).map _).subset hb
 have gx : GEnv (⟨g1, g4, g2, g3, g5, kb, mb, tb, fo, lows, highs, A, c, LL⟩ : GE) wc (inL [(kb, .cells [.slice none 0 0, .bool false])]) := ⟨Old.of Mq (fun _ h => h) (nthE_mem (i := 0) rfl), Old.of Mq (fun _ h => h) (nthE_mem (i := 1) rfl), Old.of Mq (fun _ h => h) (nthE_mem (i := 2) rfl), Old.of Mq (fun _ h => h) (nthE_mem (i := 3) rfl), Old.of Mq (fun _ h => h) (nthE_mem (i := 4) rfl), hmb.move Mq hi0, htb.move Mq hi0, (by obtain ⟨b9, o9, h9⟩ := hA; exact ⟨b9, o9, h9.move Mq hi0⟩), fun x hx => (by obtain ⟨b9, o9, h9⟩ := hE x hx; exact ⟨b9, o9, h9.move Mq hi0⟩)⟩
 have My : Mem w (fun b => b = kb) wc [(kb, .cells [.slice none 0 0, .bool false])] := Mq.sub (List.sublist_append_left _ _)
 refine ow_call (first := []) (cap := [.pointer (some ⟨g1, 0, none⟩), .pointer (some ⟨g4, 0, none⟩), .pointer (some ⟨g2, 0, none⟩), .pointer (some ⟨g3, 0, none⟩), .pointer (some ⟨g5, 0, none⟩)]) T rfl rfl rfl rfl (T.ev 0 rfl) (.cons evc (.cons evc .nil)) Try.func122 rfl rfl ?_
 refine Calls.mono (grow_any (⟨g1, g4, g2, g3, g5, kb, mb, tb, fo, lows, highs, A, c, LL⟩ : GE) may hlo hhi (hmay _ _ _ _ _) lows wc _ [] none 0 0 0 none none 0 0 false [] [] rfl (by simp) UsedOk.nil (KS.nil _) ⟨0, 0, fun _ _ => Sp.nil⟩ gx My.rebase) ?_
 clear T
 rintro e wc ⟨Au1, nu1, cu1, iu1, Iu1, rfl, hksu1, N⟩
 intro ac T
 replace M := Mem.joinX (X := [(kb, .cells [.slice none 0 0, .bool false])]) (F := []) My N (fun b h => h)
 clear N Mq My gx
 rw [List.append_nil] at M
 replace M : Mem w (fun b => b = kb) wc ((kb, .cells [.slice Au1 nu1 cu1, .bool iu1]) :: Iu1) := M
 refine sh_out hK _ _ ?_; clear hK K
 refine wpList_nil ?_
 replace T := T.pick [] rfl
 refine nm_0 T rfl ?_
 exact ⟨Au1, nu1, cu1, iu1, Iu1, rfl, hksu1, M⟩
theorem lc_at {LL : List LE} {T : List (List Int)} (h : LL.map (·.1) = T) {i : Nat} (hi : i < T.length) : ∃ B d, LL[i]? = some (T.getD i [], B, d) := by
 subst h
 have hi' : i < LL.length := by simpa using hi
 refine ⟨LL[i].2.1, LL[i].2.2, ?_⟩
 rw [List.getElem?_eq_getElem hi']
 congr 1
 have : (LL.map (·.1)).getD i [] = LL[i].1 := by rw [List.getD_eq_getElem?_getD, List.getElem?_map, List.getElem?_eq_getElem hi']; rfl
 rw [this]
theorem tableP_len (b : Bx) : (tableP b).length = b.lows.length ∧ ∀ x ∈ tableP b, x.length = b.highs.length := by
 refine ⟨by simp [tableP], fun x hx => ?_⟩
 obtain ⟨y, _, rfl⟩ := List.mem_map.1 hx
 exact rowP_length b y
def okA (v : Int) : Bool := decide (v = 1)
def okM (v : Int) : Bool := !decide (v = 2)
theorem mayok_always {T : List (List Int)} {lows highs : Nat} {LL : List LE} (h : LL.map (·.1) = T) (hl : T.length = lows) (hh : ∀ x ∈ T, x.length = highs) (lo me hi ma gr kb mb tb : Nat) (A : Option Addr) (c : Nat) :
   MayOk ⟨lo, me, hi, ma, gr, kb, mb, tb, 69, lows, highs, A, c, LL⟩ (tabP T okA) := fun w i k g hi' hk' => by
 have hi2 : i < T.length := by rw [hl]; exact hi'
 obtain ⟨B, d, hx⟩ := lc_at h hi2
 have hxT : T.getD i [] ∈ T := by rw [List.getD_eq_getElem?_getD, List.getElem?_eq_getElem hi2]; exact List.getElem_mem _
 have hk2 : k < (T.getD i []).length := by rw [hh _ hxT]; exact hk'
 have hy : (T.getD i [])[k]? = some ((T.getD i []).getD k 0) := by rw [List.getD_eq_getElem?_getD (l := T.getD i []), List.getElem?_eq_getElem hk2]; rfl
 obtain ⟨b1, o1, S1⟩ := g.sp
 obtain ⟨b2, o2, S2⟩ := g.els _ (List.mem_of_getElem? hx)
 exact may_always mb tb A c LL i k (T.getD i []) B d ((T.getD i []).getD k 0) w g.mb.1 g.tb.1 (S1.rd (Mem.init w _) (List.Sublist.refl _)) hx (S2.rd (Mem.init w _) (List.Sublist.refl _)) hy
theorem mayok_maybe {T : List (List Int)} {lows highs : Nat} {LL : List LE} (h : LL.map (·.1) = T) (hl : T.length = lows) (hh : ∀ x ∈ T, x.length = highs) (lo me hi ma gr kb mb tb : Nat) (A : Option Addr) (c : Nat) :
   MayOk ⟨lo, me, hi, ma, gr, kb, mb, tb, 75, lows, highs, A, c, LL⟩ (tabP T okM) := fun w i k g hi' hk' => by
 have hi2 : i < T.length := by rw [hl]; exact hi'
 obtain ⟨B, d, hx⟩ := lc_at h hi2
 have hxT : T.getD i [] ∈ T := by rw [List.getD_eq_getElem?_getD, List.getElem?_eq_getElem hi2]; exact List.getElem_mem _
 have hk2 : k < (T.getD i []).length := by rw [hh _ hxT]; exact hk'
 have hy : (T.getD i [])[k]? = some ((T.getD i []).getD k 0) := by rw [List.getD_eq_getElem?_getD (l := T.getD i []), List.getElem?_eq_getElem hk2]; rfl
 obtain ⟨b1, o1, S1⟩ := g.sp
 obtain ⟨b2, o2, S2⟩ := g.els _ (List.mem_of_getElem? hx)
 exact may_maybe mb tb A c LL i k (T.getD i []) B d ((T.getD i []).getD k 0) w g.mb.1 g.tb.1 (S1.rd (Mem.init w _) (List.Sublist.refl _)) hx (S2.rd (Mem.init w _) (List.Sublist.refl _)) hy
theorem most_always (b : Bx) (A : Option Addr) (c : Nat) (B : Option Addr) (d : Nat) (w : World) (hA : Rd w w.heap.size 4 A b.lows.length (sc b.lows)) (hB : Rd w w.heap.size 4 B b.highs.length (sc b.highs)) (gb : b.good) :
   Calls Try.prog 68 #[bxV b A c B d, .func (.func 69) #[] #[]] w (MostPost (mostP (tableP b) okA b.lows.length b.highs.length) w) := by
 have hlA := hA.len4
 have hlB := hB.len4
 obtain ⟨bA, oA, SA⟩ := Sp.old hA
 obtain ⟨bB, oB, SB⟩ := Sp.old hB
 refine px_enter noEx Try.func68 rfl 20 rfl [.agg #[.int .i64 b.first, .int .i64 b.step, .int .i64 b.span, .int .i64 b.press, .int .i64 b.note, .slice A b.lows.length c, .slice B b.highs.length d, .int .i64 b.t0, .int .i64 b.t1, .int .i64 b.r0, .int .i64 b.r1, .int .i64 b.u0, .int .i64 b.u1, .int .i64 b.d0, .int .i64 b.d1, .int .i64 b.a0, .int .i64 b.a1, .int .i64 b.b0, .int .i64 b.b1, .int .i64 b.le, .int .i64 b.me], .func (.func 69) #[] #[]] rfl rfl (Mem.init w _) ?_
 intro ac wc T M
 refine wp_seq ?_
 refine wp_region_lit ?_
 refine l_w rfl ?_; intro K hK
 refine ow_bx M T rfl rfl rfl rfl (T.ev 0 rfl) rfl ?_; clear M T; intro g1 wc ac M T
 refine sh_out hK _ _ ?_; clear hK K
 refine l_w rfl ?_; intro K hK
 refine ow_bx M T rfl rfl rfl rfl (T.ev 2 rfl) rfl ?_; clear M T; intro g2 wc ac M T
 refine sh_out hK _ _ ?_; clear hK K
 refine lq T (rn_assign rfl evc) ?_; clear T ac; intro ac T
 refine wpList_nil ?_
 replace T := T.pick [1, 2] rfl
 refine nm_then ?_
 refine wp_seq ?_
 refine wp_region_lit ?_
 refine lq T (rn_rowO (Mem.nth M 1 rfl) rfl (T.ev 1 rfl) rfl) ?_; clear T ac; intro ac T
 refine l_w rfl ?_; intro K hK
 refine ow_call (first := []) (cap := []) T rfl rfl rfl rfl evf (.cons (T.ev 0 rfl) .nil) Try.func71 rfl rfl ?_
 refine Calls.mono (table_any b A c B d _ (SA.rd M (List.nil_sublist _)) (SB.rd M (List.nil_sublist _)) gb) ?_
 clear T
 rintro e wc ⟨Au1, cu1, LLu1, Iu1, rfl, hLu1, hSu1, hEu1, N⟩
 intro ac T
 replace M := (M.join N).swapI
 replace M : Mem w noEx wc ((g2, .cells [.func (.func 69) #[] #[]]) :: (g1, .cells [.int .i64 b.first, .int .i64 b.step, .int .i64 b.span, .int .i64 b.press, .int .i64 b.note, .slice A b.lows.length c, .slice B b.highs.length d, .int .i64 b.t0, .int .i64 b.t1, .int .i64 b.r0, .int .i64 b.r1, .int .i64 b.u0, .int .i64 b.u1, .int .i64 b.d0, .int .i64 b.d1, .int .i64 b.a0, .int .i64 b.a1, .int .i64 b.b0, .int .i64 b.b1, .int .i64 b.le, .int .i64 b.me]) :: Iu1) := M
 clear N
 refine sh_out hK _ _ ?_; clear hK K
 refine l_w rfl ?_; intro K hK
 refine ow_al M T rfl rfl rfl rfl ?_; clear M T; intro g3 wc ac M T
 refine sh_out hK _ _ ?_; clear hK K
 refine l_w rfl ?_; intro K hK
 refine ow_stO M T rfl rfl (T.ev 0 rfl) (T.ev 1 rfl) rfl .head rfl (by simp) rfl (by kernel_rfl) ?_; clear M T; intro wc ac M T
 refine sh_out hK _ _ ?_; clear hK K
 refine wpList_nil ?_
 replace T := T.pick [0, 3, 4] rfl
 refine nm_then ?_
 refine wp_seq ?_
 refine wp_region_lit ?_
 refine l_w rfl ?_; intro K hK
 refine ow_al M T rfl rfl rfl rfl ?_; clear M T; intro g4 wc ac M T
 refine sh_out hK _ _ ?_; clear hK K
 refine wpList_nil ?_
 refine nm_then ?_
 refine wp_seq ?_
 refine wp_region_lit ?_
 refine lq (v := (.pointer (some ⟨g1, 5, none⟩))) T (rn_fieldAddr (off := 5) rfl (T.ev 3 rfl) (fun _ _ _ => by kernel_rfl)) ?_; clear T ac; intro ac T
 refine lq T (rn_one (Mem.nth M 3 rfl) rfl (T.ev 0 rfl) rfl) ?_; clear T ac; intro ac T
 refine lq T (rn_lenS rfl Try.underlying38 (T.ev 0 rfl)) ?_; clear T ac; intro ac T
 refine lq (v := (.pointer (some ⟨g1, 6, none⟩))) T (rn_fieldAddr (off := 6) rfl (T.ev 6 rfl) (fun _ _ _ => by kernel_rfl)) ?_; clear T ac; intro ac T
 refine lq T (rn_one (Mem.nth M 3 rfl) rfl (T.ev 0 rfl) rfl) ?_; clear T ac; intro ac T
 refine lq T (rn_lenS rfl Try.underlying38 (T.ev 0 rfl)) ?_; clear T ac; intro ac T
 refine lq (v := (.func (.func 101) #[] #[.pointer (some ⟨g2, 0, none⟩), .pointer (some ⟨g3, 0, none⟩)])) T (rn_makeFunc rfl .nil (.cons (T.ev 8 rfl) (.cons (T.ev 7 rfl) .nil))) ?_; clear T ac; intro ac T
 refine lq (v := (.func (.func 102) #[] #[.pointer (some ⟨g4, 0, none⟩)])) T (rn_makeFunc rfl .nil (.cons (T.ev 7 rfl) .nil)) ?_; clear T ac; intro ac T
 refine l_w rfl ?_; intro K hK
 have Mq : Mem w noEx wc ([(g4, .cells [.slice none 0 0, .bool false])] ++ ((g3, .cells [.slice Au1 LLu1.length cu1]) :: (g2, .cells [.func (.func 69) #[] #[]]) :: (g1, .cells [.int .i64 b.first, .int .i64 b.step, .int .i64 b.span, .int .i64 b.press, .int .i64 b.note, .slice A b.lows.length c, .slice B b.highs.length d, .int .i64 b.t0, .int .i64 b.t1, .int .i64 b.r0, .int .i64 b.r1, .int .i64 b.u0, .int .i64 b.u1, .int .i64 b.d0, .int .i64 b.d1, .int .i64 b.a0, .int .i64 b.a1, .int .i64 b.b0, .int .i64 b.b1, .int .i64 b.le, .int .i64 b.me]) :: Iu1)) := M.permT [0, 1, 2, 3] 4 rfl rfl rfl rfl
 have hi0 : ∀ b, (fun b => b = g4) b → inL [(g4, .cells [.slice none 0 0, .bool false])] b := fun b hb => by subst hb; exact List.mem_cons_self
 refine ow_call (first := []) (cap := []) T rfl rfl rfl rfl evf (.cons (T.ev 5 rfl) (.cons (T.ev 2 rfl) (.cons (T.ev 1 rfl) (.cons (T.ev 0 rfl) .nil)))) Try.func100 rfl rfl ?_
 refine Calls.mono (pairings_any b.lows.length b.highs.length g4 g2 g3 69 Au1 cu1 LLu1 (tabP (tableP b) okA) _ gb.lows.1 gb.highs.1 (fun _ _ _ _ _ => mayok_always hLu1 (tableP_len b).1 (tableP_len b).2 _ _ _ _ _ _ _ _ _ _) (Old.of Mq hi0 (nthE_mem (i := 1) rfl)) (Old.of Mq hi0 (nthE_mem (i := 0) rfl)) (by obtain ⟨b9, o9, h9⟩ := hSu1; exact ⟨b9, o9, Sp.of Mq hi0 (h9 w noEx) (.cons _ (.cons _ (.cons _ (List.Sublist.refl _))))⟩) (fun x hx => by obtain ⟨b9, o9, h9⟩ := hEu1 x hx; exact ⟨b9, o9, Sp.of Mq hi0 (h9 w noEx) (.cons _ (.cons _ (.cons _ (List.Sublist.refl _))))⟩) (M.nth 0 rfl)) ?_
 clear T
 rintro e wc ⟨Au2, nu2, cu2, iu2, Iu2, rfl, hksu2, N⟩
 intro ac T
 replace M := (Mem.joinX (X := [(g4, .cells [.slice none 0 0, .bool false])]) (F := ((g3, .cells [.slice Au1 LLu1.length cu1]) :: (g2, .cells [.func (.func 69) #[] #[]]) :: (g1, .cells [.int .i64 b.first, .int .i64 b.step, .int .i64 b.span, .int .i64 b.press, .int .i64 b.note, .slice A b.lows.length c, .slice B b.highs.length d, .int .i64 b.t0, .int .i64 b.t1, .int .i64 b.r0, .int .i64 b.r1, .int .i64 b.u0, .int .i64 b.u1, .int .i64 b.d0, .int .i64 b.d1, .int .i64 b.a0, .int .i64 b.a1, .int .i64 b.b0, .int .i64 b.b1, .int .i64 b.le, .int .i64 b.me]) :: Iu1)) Mq N hi0).sub (List.sublist_append_left _ _)
 clear N Mq
 replace M : Mem w noEx wc ((g4, .cells [.slice Au2 nu2 cu2, .bool iu2]) :: Iu2) := M
 refine sh_out hK _ _ ?_; clear hK K
 refine wpList_nil ?_
 replace T := T.pick [9] rfl
 refine nm_then ?_
 refine wp_seq ?_
 refine wp_region_lit ?_
 refine lq (v := (.pointer (some ⟨g4, 0, none⟩))) T (rn_fieldAddr (off := 0) rfl (T.ev 0 rfl) (fun _ _ _ => by kernel_rfl)) ?_; clear T ac; intro ac T
 refine lq T (rn_one (Mem.nth M 0 rfl) rfl (T.ev 0 rfl) rfl) ?_; clear T ac; intro ac T
 refine lq T (rn_assign rfl (T.ev 0 rfl)) ?_; clear T ac; intro ac T
 refine wpList_nil ?_
 replace T := T.pick [0] rfl
 replace M := M.mask [false] rfl
 refine nm_then ?_
 refine wp_ret ?_
 refine rt_1 T rfl (T.ev 0 rfl) ?_
 obtain ⟨hn1, hn2, hn3, hn4⟩ := hksu2
 subst hn1
 refine ⟨Au2, cu2, Iu2, rfl, hn2, hn4, M⟩
theorem most_maybe (b : Bx) (A : Option Addr) (c : Nat) (B : Option Addr) (d : Nat) (w : World) (hA : Rd w w.heap.size 4 A b.lows.length (sc b.lows)) (hB : Rd w w.heap.size 4 B b.highs.length (sc b.highs)) (gb : b.good) :
   Calls Try.prog 68 #[bxV b A c B d, .func (.func 75) #[] #[]] w (MostPost (mostP (tableP b) okM b.lows.length b.highs.length) w) := by
 have hlA := hA.len4
 have hlB := hB.len4
 obtain ⟨bA, oA, SA⟩ := Sp.old hA
 obtain ⟨bB, oB, SB⟩ := Sp.old hB
 refine px_enter noEx Try.func68 rfl 20 rfl [.agg #[.int .i64 b.first, .int .i64 b.step, .int .i64 b.span, .int .i64 b.press, .int .i64 b.note, .slice A b.lows.length c, .slice B b.highs.length d, .int .i64 b.t0, .int .i64 b.t1, .int .i64 b.r0, .int .i64 b.r1, .int .i64 b.u0, .int .i64 b.u1, .int .i64 b.d0, .int .i64 b.d1, .int .i64 b.a0, .int .i64 b.a1, .int .i64 b.b0, .int .i64 b.b1, .int .i64 b.le, .int .i64 b.me], .func (.func 75) #[] #[]] rfl rfl (Mem.init w _) ?_
 intro ac wc T M
 refine wp_seq ?_
 refine wp_region_lit ?_
 refine l_w rfl ?_; intro K hK
 refine ow_bx M T rfl rfl rfl rfl (T.ev 0 rfl) rfl ?_; clear M T; intro g1 wc ac M T
 refine sh_out hK _ _ ?_; clear hK K
 refine l_w rfl ?_; intro K hK
 refine ow_bx M T rfl rfl rfl rfl (T.ev 2 rfl) rfl ?_; clear M T; intro g2 wc ac M T
 refine sh_out hK _ _ ?_; clear hK K
 refine lq T (rn_assign rfl evc) ?_; clear T ac; intro ac T
 refine wpList_nil ?_
 replace T := T.pick [1, 2] rfl
 refine nm_then ?_
 refine wp_seq ?_
 refine wp_region_lit ?_
 refine lq T (rn_rowO (Mem.nth M 1 rfl) rfl (T.ev 1 rfl) rfl) ?_; clear T ac; intro ac T
 refine l_w rfl ?_; intro K hK
 refine ow_call (first := []) (cap := []) T rfl rfl rfl rfl evf (.cons (T.ev 0 rfl) .nil) Try.func71 rfl rfl ?_
 refine Calls.mono (table_any b A c B d _ (SA.rd M (List.nil_sublist _)) (SB.rd M (List.nil_sublist _)) gb) ?_
 clear T
 rintro e wc ⟨Au1, cu1, LLu1, Iu1, rfl, hLu1, hSu1, hEu1, N⟩
 intro ac T
 replace M := (M.join N).swapI
 replace M : Mem w noEx wc ((g2, .cells [.func (.func 75) #[] #[]]) :: (g1, .cells [.int .i64 b.first, .int .i64 b.step, .int .i64 b.span, .int .i64 b.press, .int .i64 b.note, .slice A b.lows.length c, .slice B b.highs.length d, .int .i64 b.t0, .int .i64 b.t1, .int .i64 b.r0, .int .i64 b.r1, .int .i64 b.u0, .int .i64 b.u1, .int .i64 b.d0, .int .i64 b.d1, .int .i64 b.a0, .int .i64 b.a1, .int .i64 b.b0, .int .i64 b.b1, .int .i64 b.le, .int .i64 b.me]) :: Iu1) := M
 clear N
 refine sh_out hK _ _ ?_; clear hK K
 refine l_w rfl ?_; intro K hK
 refine ow_al M T rfl rfl rfl rfl ?_; clear M T; intro g3 wc ac M T
 refine sh_out hK _ _ ?_; clear hK K
 refine l_w rfl ?_; intro K hK
 refine ow_stO M T rfl rfl (T.ev 0 rfl) (T.ev 1 rfl) rfl .head rfl (by simp) rfl (by kernel_rfl) ?_; clear M T; intro wc ac M T
 refine sh_out hK _ _ ?_; clear hK K
 refine wpList_nil ?_
 replace T := T.pick [0, 3, 4] rfl
 refine nm_then ?_
 refine wp_seq ?_
 refine wp_region_lit ?_
 refine l_w rfl ?_; intro K hK
 refine ow_al M T rfl rfl rfl rfl ?_; clear M T; intro g4 wc ac M T
 refine sh_out hK _ _ ?_; clear hK K
 refine wpList_nil ?_
 refine nm_then ?_
 refine wp_seq ?_
 refine wp_region_lit ?_
 refine lq (v := (.pointer (some ⟨g1, 5, none⟩))) T (rn_fieldAddr (off := 5) rfl (T.ev 3 rfl) (fun _ _ _ => by kernel_rfl)) ?_; clear T ac; intro ac T
 refine lq T (rn_one (Mem.nth M 3 rfl) rfl (T.ev 0 rfl) rfl) ?_; clear T ac; intro ac T
 refine lq T (rn_lenS rfl Try.underlying38 (T.ev 0 rfl)) ?_; clear T ac; intro ac T
 refine lq (v := (.pointer (some ⟨g1, 6, none⟩))) T (rn_fieldAddr (off := 6) rfl (T.ev 6 rfl) (fun _ _ _ => by kernel_rfl)) ?_; clear T ac; intro ac T
 refine lq T (rn_one (Mem.nth M 3 rfl) rfl (T.ev 0 rfl) rfl) ?_; clear T ac; intro ac T
 refine lq T (rn_lenS rfl Try.underlying38 (T.ev 0 rfl)) ?_; clear T ac; intro ac T
 refine lq (v := (.func (.func 101) #[] #[.pointer (some ⟨g2, 0, none⟩), .pointer (some ⟨g3, 0, none⟩)])) T (rn_makeFunc rfl .nil (.cons (T.ev 8 rfl) (.cons (T.ev 7 rfl) .nil))) ?_; clear T ac; intro ac T
 refine lq (v := (.func (.func 102) #[] #[.pointer (some ⟨g4, 0, none⟩)])) T (rn_makeFunc rfl .nil (.cons (T.ev 7 rfl) .nil)) ?_; clear T ac; intro ac T
 refine l_w rfl ?_; intro K hK
 have Mq : Mem w noEx wc ([(g4, .cells [.slice none 0 0, .bool false])] ++ ((g3, .cells [.slice Au1 LLu1.length cu1]) :: (g2, .cells [.func (.func 75) #[] #[]]) :: (g1, .cells [.int .i64 b.first, .int .i64 b.step, .int .i64 b.span, .int .i64 b.press, .int .i64 b.note, .slice A b.lows.length c, .slice B b.highs.length d, .int .i64 b.t0, .int .i64 b.t1, .int .i64 b.r0, .int .i64 b.r1, .int .i64 b.u0, .int .i64 b.u1, .int .i64 b.d0, .int .i64 b.d1, .int .i64 b.a0, .int .i64 b.a1, .int .i64 b.b0, .int .i64 b.b1, .int .i64 b.le, .int .i64 b.me]) :: Iu1)) := M.permT [0, 1, 2, 3] 4 rfl rfl rfl rfl
 have hi0 : ∀ b, (fun b => b = g4) b → inL [(g4, .cells [.slice none 0 0, .bool false])] b := fun b hb => by subst hb; exact List.mem_cons_self
 refine ow_call (first := []) (cap := []) T rfl rfl rfl rfl evf (.cons (T.ev 5 rfl) (.cons (T.ev 2 rfl) (.cons (T.ev 1 rfl) (.cons (T.ev 0 rfl) .nil)))) Try.func100 rfl rfl ?_
 refine Calls.mono (pairings_any b.lows.length b.highs.length g4 g2 g3 75 Au1 cu1 LLu1 (tabP (tableP b) okM) _ gb.lows.1 gb.highs.1 (fun _ _ _ _ _ => mayok_maybe hLu1 (tableP_len b).1 (tableP_len b).2 _ _ _ _ _ _ _ _ _ _) (Old.of Mq hi0 (nthE_mem (i := 1) rfl)) (Old.of Mq hi0 (nthE_mem (i := 0) rfl)) (by obtain ⟨b9, o9, h9⟩ := hSu1; exact ⟨b9, o9, Sp.of Mq hi0 (h9 w noEx) (.cons _ (.cons _ (.cons _ (List.Sublist.refl _))))⟩) (fun x hx => by obtain ⟨b9, o9, h9⟩ := hEu1 x hx; exact ⟨b9, o9, Sp.of Mq hi0 (h9 w noEx) (.cons _ (.cons _ (.cons _ (List.Sublist.refl _))))⟩) (M.nth 0 rfl)) ?_
 clear T
 rintro e wc ⟨Au2, nu2, cu2, iu2, Iu2, rfl, hksu2, N⟩
 intro ac T
 replace M := (Mem.joinX (X := [(g4, .cells [.slice none 0 0, .bool false])]) (F := ((g3, .cells [.slice Au1 LLu1.length cu1]) :: (g2, .cells [.func (.func 75) #[] #[]]) :: (g1, .cells [.int .i64 b.first, .int .i64 b.step, .int .i64 b.span, .int .i64 b.press, .int .i64 b.note, .slice A b.lows.length c, .slice B b.highs.length d, .int .i64 b.t0, .int .i64 b.t1, .int .i64 b.r0, .int .i64 b.r1, .int .i64 b.u0, .int .i64 b.u1, .int .i64 b.d0, .int .i64 b.d1, .int .i64 b.a0, .int .i64 b.a1, .int .i64 b.b0, .int .i64 b.b1, .int .i64 b.le, .int .i64 b.me]) :: Iu1)) Mq N hi0).sub (List.sublist_append_left _ _)
 clear N Mq
 replace M : Mem w noEx wc ((g4, .cells [.slice Au2 nu2 cu2, .bool iu2]) :: Iu2) := M
 refine sh_out hK _ _ ?_; clear hK K
 refine wpList_nil ?_
 replace T := T.pick [9] rfl
 refine nm_then ?_
 refine wp_seq ?_
 refine wp_region_lit ?_
 refine lq (v := (.pointer (some ⟨g4, 0, none⟩))) T (rn_fieldAddr (off := 0) rfl (T.ev 0 rfl) (fun _ _ _ => by kernel_rfl)) ?_; clear T ac; intro ac T
 refine lq T (rn_one (Mem.nth M 0 rfl) rfl (T.ev 0 rfl) rfl) ?_; clear T ac; intro ac T
 refine lq T (rn_assign rfl (T.ev 0 rfl)) ?_; clear T ac; intro ac T
 refine wpList_nil ?_
 replace T := T.pick [0] rfl
 replace M := M.mask [false] rfl
 refine nm_then ?_
 refine wp_ret ?_
 refine rt_1 T rfl (T.ev 0 rfl) ?_
 obtain ⟨hn1, hn2, hn3, hn4⟩ := hksu2
 subst hn1
 refine ⟨Au2, cu2, Iu2, rfl, hn2, hn4, M⟩
end Go.Proofs.Ytlahdenlmmlplaa
end

section
/-
 Lower tongues that cannot all have an upper one, in plain words; what the walk of their search leans on.
-/
namespace Go.Proofs.Ytlahdenlmmlplaa
set_option linter.unusedSimpArgs false
set_option linter.unusedVariables false
open Go.RowKit
def moreP (up : Int) : List Int → Nat → Int
 | [], _ => up
 | v :: r, h => moreP (if v = 1 then withI up h else up) r (h + 1)
def shortP (T : List (List Int)) (n : Nat) : Nat → List Int → Nat → Int → Option (List Int)
 | 0, l, _, up => if sizeI up < l.length then some l else none
 | k + 1, l, first, up => (List.range' first (n - first)).findSome? fun (i : Nat) => shortP T n k (l ++ [(i : Int)]) (i + 1) (moreP up (T.getD i []) 0)
def sFrom (T : List (List Int)) (n k : Nat) (l : List Int) (up : Int) (i : Nat) : Option (List Int) := (List.range' i (n - i)).findSome? fun (i : Nat) => shortP T n k (l ++ [(i : Int)]) (i + 1) (moreP up (T.getD i []) 0)
theorem shortP_succ (T : List (List Int)) (n k : Nat) (l : List Int) (first : Nat) (up : Int) : shortP T n (k + 1) l first up = sFrom T n k l up first := rfl
theorem sFrom_some {T : List (List Int)} {n k : Nat} {l : List Int} {up : Int} {i : Nat} (hi : i < n) (h : (shortP T n k (l ++ [(i : Int)]) (i + 1) (moreP up (T.getD i []) 0)).isSome = true) : sFrom T n k l up i = shortP T n k (l ++ [(i : Int)]) (i + 1) (moreP up (T.getD i []) 0) := by
 unfold sFrom
 obtain ⟨d, hd⟩ : ∃ d, n - i = d + 1 := ⟨n - i - 1, by omega⟩
 rw [hd, List.range'_succ, List.findSome?_cons]
 obtain ⟨q, hq⟩ := Option.isSome_iff_exists.1 h
 rw [hq]
theorem sFrom_none {T : List (List Int)} {n k : Nat} {l : List Int} {up : Int} {i : Nat} (hi : i < n) (h : (shortP T n k (l ++ [(i : Int)]) (i + 1) (moreP up (T.getD i []) 0)).isSome = false) : sFrom T n k l up i = sFrom T n k l up (i + 1) := by
 unfold sFrom
 obtain ⟨d, hd⟩ : ∃ d, n - i = d + 1 := ⟨n - i - 1, by omega⟩
 rw [hd, List.range'_succ, List.findSome?_cons]
 have : shortP T n k (l ++ [(i : Int)]) (i + 1) (moreP up (T.getD i []) 0) = none := by simpa using h
 rw [this, show n - (i + 1) = d by omega]
theorem sFrom_end {T : List (List Int)} {n k : Nat} {l : List Int} {up : Int} {i : Nat} (hi : n ≤ i) : sFrom T n k l up i = none := by
 unfold sFrom
 rw [show n - i = 0 by omega]
 rfl
def sizeF (T : List (List Int)) (n s : Nat) : Option (List Int) := (List.range' s (n + 1 - s)).findSome? fun (s : Nat) => if s = 0 then none else shortP T n s [] 0 0
theorem sizeF_zero (T : List (List Int)) (n : Nat) : sizeF T n 0 = sizeF T n 1 := by
 unfold sizeF
 rw [show n + 1 - 0 = n + 1 by omega, List.range'_succ, List.findSome?_cons]
 simp
theorem sizeF_some {T : List (List Int)} {n s : Nat} (hs : s ≤ n) (h0 : 0 < s) (h : (shortP T n s [] 0 0).isSome = true) : sizeF T n s = shortP T n s [] 0 0 := by
 unfold sizeF
 obtain ⟨d, hd⟩ : ∃ d, n + 1 - s = d + 1 := ⟨n - s, by omega⟩
 rw [hd, List.range'_succ, List.findSome?_cons, if_neg (by omega)]
 obtain ⟨q, hq⟩ := Option.isSome_iff_exists.1 h
 rw [hq]
theorem sizeF_none {T : List (List Int)} {n s : Nat} (hs : s ≤ n) (h0 : 0 < s) (h : (shortP T n s [] 0 0).isSome = false) : sizeF T n s = sizeF T n (s + 1) := by
 unfold sizeF
 obtain ⟨d, hd⟩ : ∃ d, n + 1 - s = d + 1 := ⟨n - s, by omega⟩
 have : shortP T n s [] 0 0 = none := by simpa using h
 rw [hd, List.range'_succ, List.findSome?_cons, if_neg (by omega), this, show n + 1 - (s + 1) = d by omega]
theorem sizeF_end {T : List (List Int)} {n s : Nat} (hs : n < s) : sizeF T n s = none := by
 unfold sizeF
 rw [show n + 1 - s = 0 by omega]
 rfl
def FS (res : Option (List Int)) (A : Option Addr) (n c : Nat) (I : List (Nat × BA)) : Prop :=
 (res = none ∧ A = none ∧ n = 0 ∧ c = 0 ∧ I = []) ∨ ∃ l, res = some l ∧ n = l.length ∧ n ≤ 5 ∧ A.isSome = true ∧ ∃ b o, ∀ (w : World) (ex : Nat → Prop), Sp w ex I A n 1 b o (ic l)
theorem FS.none {res : Option (List Int)} {A : Option Addr} {n c : Nat} {I : List (Nat × BA)} (h : FS res A n c I) (h0 : res.isSome = false) : A = .none ∧ n = 0 ∧ c = 0 ∧ I = [] := by
 rcases h with ⟨_, h⟩ | ⟨l, rfl, _⟩
 · exact h
 · cases h0
theorem FS.isSome {res : Option (List Int)} {A : Option Addr} {n c : Nat} {I : List (Nat × BA)} (h : FS res A n c I) : A.isSome = res.isSome := by
 rcases h with ⟨rfl, rfl, _⟩ | ⟨l, rfl, _, _, h, _⟩
 · rfl
 · rw [h]; rfl
theorem FS.len {res : Option (List Int)} {A : Option Addr} {n c : Nat} {I : List (Nat × BA)} (h : FS res A n c I) : n = (res.getD []).length ∧ n ≤ 5 := by
 rcases h with ⟨rfl, _, rfl, _⟩ | ⟨l, rfl, h1, h2, _⟩
 · exact ⟨rfl, by omega⟩
 · exact ⟨h1, h2⟩
theorem FS.sp {res : Option (List Int)} {A : Option Addr} {n c : Nat} {I : List (Nat × BA)} (h : FS res A n c I) : ∃ b o, ∀ (w : World) (ex : Nat → Prop), Sp w ex I A n 1 b o (ic (res.getD [])) := by
 rcases h with ⟨rfl, _, rfl, _⟩ | ⟨l, rfl, _, _, _, h⟩
 · exact ⟨0, 0, fun _ _ => ⟨fun h => absurd h (by omega), by simp [ic], fun _ _ _ _ h => absurd h (by omega), fun _ _ _ _ j u hu => by simp [ic] at hu⟩⟩
 · exact h
structure SE where
 fo : Nat
 bb : Nat
 tb : Nat
 gr : Nat
 b : Bx
 A0 : Option Addr
 c0 : Nat
 B0 : Option Addr
 d0 : Nat
 A : Option Addr
 c : Nat
 LL : List LE
abbrev bxC (b : Bx) (A : Option Addr) (c : Nat) (B : Option Addr) (d : Nat) : List Value := [.int .i64 b.first, .int .i64 b.step, .int .i64 b.span, .int .i64 b.press, .int .i64 b.note, .slice A b.lows.length c, .slice B b.highs.length d, .int .i64 b.t0, .int .i64 b.t1, .int .i64 b.r0, .int .i64 b.r1, .int .i64 b.u0, .int .i64 b.u1, .int .i64 b.d0, .int .i64 b.d1, .int .i64 b.a0, .int .i64 b.a1, .int .i64 b.b0, .int .i64 b.b1, .int .i64 b.le, .int .i64 b.me]
structure SEnv (e : SE) (w : World) (ex : Nat → Prop) : Prop where
 bb : Old w ex e.bb (bxC e.b e.A0 e.c0 e.B0 e.d0)
 tb : Old w ex e.tb [.slice e.A e.LL.length e.c]
 gr : Old w ex e.gr [.func (.func 72) #[] #[pV e.fo, pV e.bb, pV e.tb, pV e.gr]]
 sp : ∃ b o, Sp w ex [] e.A e.LL.length 1 b o (lc e.LL)
 els : ∀ x ∈ e.LL, ∃ b o, Sp w ex [] x.2.1 x.1.length 1 b o (ic x.1)
theorem SEnv.move {e : SE} {w0 w : World} {ex ex' : Nat → Prop} {L : List (Nat × BA)} (M : Mem w0 ex w L) (hx : ∀ b, ex' b → inL L b) (h : SEnv e w0 ex) : SEnv e w ex' :=
 ⟨h.bb.move M hx, h.tb.move M hx, h.gr.move M hx, (by obtain ⟨b, o, h1⟩ := h.sp; exact ⟨b, o, h1.move M hx⟩), fun x hx' => (by obtain ⟨b, o, h1⟩ := h.els x hx'; exact ⟨b, o, h1.move M hx⟩)⟩
def FoundPost (fo : Nat) (res : Option (List Int)) (w : World) (ex : Nat → Prop) (e : Ending) (w' : World) : Prop :=
 ∃ A n c I, e = .returned (.bool res.isSome) ∧ FS res A n c I ∧ Mem w ex w' ((fo, .cells [.slice A n c]) :: I)
def ShortSpec (e : SE) (T : List (List Int)) (k : Nat) : Prop :=
 ∀ (w : World) (exq : Nat → Prop) (l : List Int) (A : Option Addr) (m c : Nat) (fi lf : Int) (first : Nat) (up : Int) (Il : List (Nat × BA)),
   m = l.length → l.length + k ≤ 5 → fi = (first : Nat) → lf = (k : Nat) → first ≤ 5 → 0 ≤ up ∧ up < 32 → (∃ b o, ∀ (w : World) (ex : Nat → Prop), Sp w ex Il A m 1 b o (ic l)) → SEnv e w exq → Mem w exq w ((e.fo, .cells [.slice none 0 0]) :: Il) →
   Calls Try.prog 72 #[.slice A m c, .int .i64 fi, .int .i64 lf, .int .i64 up, pV e.fo, pV e.bb, pV e.tb, pV e.gr] w (FoundPost e.fo (shortP T e.b.lows.length k l first up) w exq)
end Go.Proofs.Ytlahdenlmmlplaa
end

section
/-
 voice: Short's own search.
-/
namespace Go.Proofs.Ytlahdenlmmlplaa
set_option linter.unusedSimpArgs false
set_option linter.unusedVariables false
open Go.RowKit
theorem neqS22 {x : Operand} (A : Option Addr) (m c : Nat) (w : World) : (do eqGuard .neq 22 x (.const (.slice none 0 0)) (.slice A m c) (.slice none 0 0); binOp .neq 22 (.slice A m c) (.slice none 0 0) : Sem Value).run Try.prog w = .ok (.bool A.isSome) w := by
 cases A <;> go_simp
theorem found_step (se : SE) (Tb : List (List Int)) (k : Nat) (exq : Nat → Prop) (l : List Int) (A : Option Addr) (c : Nat) (lf : Int) (first : Nat) (up : Int) (Il : List (Nat × BA)) (w : World) (hLL : se.LL.map (·.1) = Tb) (hT1 : Tb.length = se.b.lows.length) (hT2 : ∀ x ∈ Tb, x.length ≤ 5) (hlo : se.b.lows.length ≤ 4) (ih : ∀ k', k = k' + 1 → ShortSpec se Tb k') (hlk : l.length + k ≤ 5) (hlf : lf = (k : Nat)) (hf5 : first ≤ 5) (hup : 0 ≤ up ∧ up < 32) (hl : ∃ b o, ∀ (w : World) (ex : Nat → Prop), Sp w ex Il A l.length 1 b o (ic l)) (senv : SEnv se w exq) (M0 : Mem w exq w ((se.fo, .cells [.slice none 0 0]) :: Il)) :
   Calls Try.prog 72 #[.slice A l.length c, .int .i64 (first : Int), .int .i64 lf, .int .i64 up, .pointer (some ⟨se.fo, 0, none⟩), .pointer (some ⟨se.bb, 0, none⟩), .pointer (some ⟨se.tb, 0, none⟩), .pointer (some ⟨se.gr, 0, none⟩)] w (FoundPost se.fo (shortP Tb se.b.lows.length k l first up) w exq) := by
 have hls := hl
 obtain ⟨bl, ol, hSl⟩ := hls
 have Sl0 := hSl w exq
 obtain ⟨bt, ot, St⟩ := senv.sp
 refine px_enter exq Try.func72 rfl 65 rfl [.slice A l.length c, .int .i64 (first : Int), .int .i64 lf, .int .i64 up, .pointer (some ⟨se.fo, 0, none⟩), .pointer (some ⟨se.bb, 0, none⟩), .pointer (some ⟨se.tb, 0, none⟩), .pointer (some ⟨se.gr, 0, none⟩)] rfl rfl M0 ?_
 intro ac wc T M
 refine wp_seq ?_
 refine wp_region_lit ?_
 refine lq T (rn_assign rfl evc) ?_; clear T ac; intro ac T
 refine wpList_nil ?_
 replace T := T.pick [1, 2, 3, 4, 5, 6, 7, 8] rfl
 refine nm_then ?_
 refine wp_seq ?_
 refine wp_seq ?_
 refine wp_region_lit ?_
 refine lq T (rn_move rfl (T.ev 2 rfl)) ?_; clear T ac; intro ac T
 refine lq T (rn_eql rfl (T.ev 0 rfl) evc) ?_; clear T ac; intro ac T
 refine wpList_nil ?_
 replace T := T.pick [0, 2, 3, 4, 5, 6, 7, 8, 9] rfl
 refine nm_then ?_
 refine wp_if (T.ev 0 rfl) ?_ ?_
 ·intro h1
  obtain rfl : k = 0 := by omega
  refine wp_seq ?_
  refine wp_seq ?_
  refine wp_region_lit ?_
  refine lq T (rn_move rfl (T.ev 4 rfl)) ?_; clear T ac; intro ac T
  refine l_w rfl ?_; intro K hK
  refine ow_call (first := []) (cap := []) T rfl rfl rfl rfl evf (.cons (T.ev 0 rfl) .nil) Try.func73 rfl rfl ?_
  refine Calls.mono (size_any up _ (by omega)) ?_
  clear T
  rintro e wc ⟨rfl, hb⟩
  intro ac T
  replace M := M.call hb; clear hb
  refine sh_out hK _ _ ?_; clear hK K
  refine lq T (rn_move rfl (T.ev 3 rfl)) ?_; clear T ac; intro ac T
  refine lq T (rn_lenS rfl Try.underlying22 (T.ev 0 rfl)) ?_; clear T ac; intro ac T
  refine lq T (rn_lss rfl (T.ev 2 rfl) (T.ev 0 rfl)) ?_; clear T ac; intro ac T
  refine wpList_nil ?_
  replace T := T.pick [0, 6, 10] rfl
  refine nm_then ?_
  refine wp_if (T.ev 0 rfl) ?_ ?_
  ·intro h2
   refine wp_region_lit ?_
   refine lq T (rn_move rfl (T.ev 1 rfl)) ?_; clear T ac; intro ac T
   refine l_w rfl ?_; intro K hK
   refine ow_stO M T rfl rfl (T.ev 3 rfl) (T.ev 0 rfl) rfl .head rfl (by simp) rfl (by kernel_rfl) ?_; clear M T; intro wc ac M T
   refine sh_out hK _ _ ?_; clear hK K
   refine wpList_nil ?_
   replace T := T.pick [3] rfl
   refine nm_then ?_
   refine wp_seq ?_
   refine wp_region_lit ?_
   refine lq T (rn_one (Mem.nth M 0 rfl) rfl (T.ev 0 rfl) rfl) ?_; clear T ac; intro ac T
   refine lq (v := (.bool A.isSome)) T (rn_bin rfl (T.ev 0 rfl) evc (neqS22 _ _ _ _)) ?_; clear T ac; intro ac T
   refine lq T (rn_assign rfl (T.ev 0 rfl)) ?_; clear T ac; intro ac T
   refine wpList_nil ?_
   replace T := T.pick [0] rfl
   refine nm_then ?_
   refine wp_ret ?_
   refine rt_then ?_
   refine rt_1 T rfl (T.ev 0 rfl) ?_
   have hAs : A.isSome = true := by rw [Sl0.at0 (by omega)]; rfl
   have hsh : shortP Tb se.b.lows.length 0 l first up = some l := by simp only [shortP]; rw [if_pos (by omega)]
   exact ⟨A, l.length, c, Il, by rw [hsh, hAs]; rfl, .inr ⟨l, hsh, rfl, by omega, hAs, hl⟩, M⟩
  intro h2
  refine wp_skip ?_
  refine nm_then ?_
  refine wp_seq ?_
  refine wp_region_lit ?_
  refine lq T (rn_one (Mem.nth M 0 rfl) rfl (T.ev 2 rfl) rfl) ?_; clear T ac; intro ac T
  refine lq (v := (.bool false)) T (rn_bin rfl (T.ev 0 rfl) evc (by kernel_rfl)) ?_; clear T ac; intro ac T
  refine lq T (rn_assign rfl (T.ev 0 rfl)) ?_; clear T ac; intro ac T
  refine wpList_nil ?_
  replace T := T.pick [0] rfl
  refine nm_then ?_
  refine wp_ret ?_
  refine rt_then ?_
  refine rt_1 T rfl (T.ev 0 rfl) ?_
  exact ⟨none, 0, 0, [], by simp only [shortP]; rw [if_neg (by omega)]; rfl, .inl ⟨by simp only [shortP]; rw [if_neg (by omega)], rfl, rfl, rfl, rfl⟩, M.sub (.cons_cons _ (List.nil_sublist _))⟩
 intro h1
 obtain ⟨k1, rfl⟩ : ∃ k', k = k' + 1 := ⟨k - 1, by omega⟩
 have ih1 := ih k1 rfl
 refine wp_skip ?_
 refine nm_then ?_
 refine wp_seq ?_
 refine wp_seq ?_
 refine wp_region_lit ?_
 refine lq T (rn_move rfl (T.ev 2 rfl)) ?_; clear T ac; intro ac T
 refine lq T (rn_assign rfl (T.ev 0 rfl)) ?_; clear T ac; intro ac T
 refine wpList_nil ?_
 replace T := T.pick [0, 3, 5, 6, 8, 9, 10] rfl
 refine nm_then ?_
 refine wp_block ?_
 refine wp_loop_n (fun mz ac wc => ∃ (i : Nat), mz = 5 - i ∧ (first ≤ i) ∧ (i ≤ 5) ∧ (shortP Tb se.b.lows.length (k1 + 1) l first up = sFrom Tb se.b.lows.length k1 l up i) ∧ Tm ac 65 [(0, .slice A l.length c), (2, .int .i64 lf), (3, .int .i64 up), (5, .pointer (some ⟨se.bb, 0, none⟩)), (6, .pointer (some ⟨se.tb, 0, none⟩)), (7, .pointer (some ⟨se.gr, 0, none⟩)), (13, .int .i64 (i : Int))] ∧ Mem w exq wc ((se.fo, .cells [.slice none 0 0]) :: Il)) ?_ ?_
 ·exact ⟨_, first, rfl, (Nat.le_refl _), hf5, (shortP_succ _ _ _ _ _ _), T.pick [1, 2, 3, 4, 5, 6, 0] rfl, M.mask [true] rfl⟩
 clear T M
 rintro mz ac wc ⟨i, hmm1, hi, hi5, H, T, M⟩
 refine wp_seq ?_
 refine wp_seq ?_
 refine wp_region_lit ?_
 refine lq T (rn_move rfl (T.ev 6 rfl)) ?_; clear T ac; intro ac T
 refine lq (v := (.pointer (some ⟨se.bb, 5, none⟩))) T (rn_fieldAddr (off := 5) rfl (T.ev 4 rfl) (fun _ _ _ => by kernel_rfl)) ?_; clear T ac; intro ac T
 refine lq T (rn_one (Mem.old M senv.bb.1 senv.bb.2) rfl (T.ev 0 rfl) rfl) ?_; clear T ac; intro ac T
 refine lq T (rn_lenS rfl Try.underlying38 (T.ev 0 rfl)) ?_; clear T ac; intro ac T
 refine lq T (rn_lss rfl (T.ev 3 rfl) (T.ev 0 rfl)) ?_; clear T ac; intro ac T
 refine wpList_nil ?_
 replace T := T.pick [0, 5, 6, 7, 8, 9, 10, 11] rfl
 refine nm_then ?_
 refine wp_if (T.ev 0 rfl) ?_ ?_
 ·intro h3
  have hiT : i < Tb.length := by omega
  obtain ⟨Br, dr, hkx⟩ := lc_at hLL hiT
  have hrow : (Tb.getD i []).length ≤ 5 := by rw [List.getD_eq_getElem?_getD, List.getElem?_eq_getElem hiT]; exact hT2 _ (List.getElem_mem _)
  obtain ⟨br, orr, Sr⟩ := senv.els _ (List.mem_of_getElem? hkx)
  obtain ⟨xr, hxr⟩ : ∃ q, q = Tb.getD i [] := ⟨_, rfl⟩
  rw [← hxr] at hkx hrow Sr
  have hir := (List.getElem?_eq_some_iff.1 hkx).1
  dsimp only at Sr
  refine wp_skip ?_
  refine nm_then ?_
  refine wp_seq ?_
  refine wp_block ?_
  refine wp_seq ?_
  refine wp_region_lit ?_
  refine lq T (rn_move rfl (T.ev 3 rfl)) ?_; clear T ac; intro ac T
  refine lq T (rn_assign rfl (T.ev 0 rfl)) ?_; clear T ac; intro ac T
  refine wpList_nil ?_
  replace T := T.pick [0, 3, 4, 5, 6, 7, 8, 9] rfl
  refine nm_then ?_
  refine wp_seq ?_
  refine wp_seq ?_
  refine wp_region_lit ?_
  refine lq T (rn_one (Mem.old M senv.tb.1 senv.tb.2) rfl (T.ev 5 rfl) rfl) ?_; clear T ac; intro ac T
  refine lq T (rn_move rfl (T.ev 8 rfl)) ?_; clear T ac; intro ac T
  refine lq T (rn_indexAddr (size := 1) i rfl (T.ev 1 rfl) (T.ev 0 rfl) ⟨_, Try.underlying62, by kernel_rfl⟩ rfl (by omega) (St.at0 (by omega))) ?_; clear T ac; intro ac T
  refine lq (v := (.slice Br xr.length dr)) T (rn_cell (Sp.lc0 St M (List.nil_sublist _) hkx) rfl (T.ev 0 rfl)) ?_; clear T ac; intro ac T
  refine lq T (rn_lenS rfl Try.underlying22 (T.ev 0 rfl)) ?_; clear T ac; intro ac T
  refine lq T (rn_move rfl evc) ?_; clear T ac; intro ac T
  refine wpList_nil ?_
  replace T := T.pick [0, 1, 2, 6, 7, 8, 9, 10, 11, 12, 13] rfl
  refine nm_then ?_
  refine wp_block ?_
  refine wp_loop_n (fun mz ac wc => ∃ (h : Nat) (mo : Int), mz = xr.length - h ∧ (h ≤ xr.length) ∧ (0 ≤ mo ∧ mo < 32) ∧ (moreP up xr 0 = moreP mo (xr.drop h) h) ∧ Tm ac 65 [(0, .slice A l.length c), (2, .int .i64 lf), (3, .int .i64 up), (5, .pointer (some ⟨se.bb, 0, none⟩)), (6, .pointer (some ⟨se.tb, 0, none⟩)), (7, .pointer (some ⟨se.gr, 0, none⟩)), (13, .int .i64 (i : Int)), (14, .int .i64 mo), (39, .slice Br xr.length dr), (40, .int .i64 ((xr.length : Nat) : Int)), (41, .int .i64 (h : Int))] ∧ Mem w exq wc ((se.fo, .cells [.slice none 0 0]) :: Il)) ?_ ?_
  ·exact ⟨_, 0, up, rfl, (Nat.zero_le _), hup, rfl, T.pick [4, 5, 6, 7, 8, 9, 10, 3, 2, 1, 0] rfl, M.mask [true] rfl⟩
  clear T M
  rintro mz ac wc ⟨h, mo, hmm2, hh, hmo, Hm, T, M⟩
  refine wp_seq ?_
  refine wp_region_lit ?_
  refine lq T (rn_lss rfl (T.ev 10 rfl) (T.ev 9 rfl)) ?_; clear T ac; intro ac T
  refine wpList_nil ?_
  refine nm_then ?_
  refine wp_seq ?_
  refine wp_if (T.ev 0 rfl) ?_ ?_
  ·intro h4
   obtain ⟨yv, hky, hdy⟩ := ic_next (l := xr) (k := h) (by omega)
   rw [hdy, moreP] at Hm
   refine wp_skip ?_
   refine nm_then ?_
   refine wp_seq ?_
   refine wp_block ?_
   refine wp_seq ?_
   refine wp_region_lit ?_
   refine lq T (rn_move rfl (T.ev 11 rfl)) ?_; clear T ac; intro ac T
   refine lq T (rn_indexAddr (size := 1) h rfl (T.ev 10 rfl) (T.ev 12 rfl) ⟨_, Try.underlying22, by kernel_rfl⟩ rfl (by omega) (Sr.at0 (by omega))) ?_; clear T ac; intro ac T
   refine lq T (rn_cell (Sp.ic0 Sr M (List.nil_sublist _) hky) rfl (T.ev 0 rfl)) ?_; clear T ac; intro ac T
   refine lq T (rn_assign rfl (T.ev 2 rfl)) ?_; clear T ac; intro ac T
   refine lq T (rn_assign rfl (T.ev 1 rfl)) ?_; clear T ac; intro ac T
   refine wpList_nil ?_
   replace T := T.pick [0, 1, 6, 7, 8, 9, 10, 11, 12, 13, 14, 15, 16] rfl
   refine nm_then ?_
   refine wp_seq ?_
   refine wp_region_lit ?_
   refine lq T (rn_move rfl (T.ev 0 rfl)) ?_; clear T ac; intro ac T
   refine lq T (rn_eql rfl (T.ev 0 rfl) evc) ?_; clear T ac; intro ac T
   refine wpList_nil ?_
   replace T := T.pick [0, 3, 4, 5, 6, 7, 8, 9, 10, 11, 12, 13, 14] rfl
   refine nm_then ?_
   refine wp_if (T.ev 0 rfl) ?_ ?_
   ·intro h5
    refine wp_region_lit ?_
    refine lq T (rn_move rfl (T.ev 9 rfl)) ?_; clear T ac; intro ac T
    refine lq T (rn_move rfl (T.ev 2 rfl)) ?_; clear T ac; intro ac T
    refine l_w rfl ?_; intro K hK
    refine ow_call (first := []) (cap := []) T rfl rfl rfl rfl evf (.cons (T.ev 1 rfl) (.cons (T.ev 0 rfl) .nil)) Try.func74 rfl rfl ?_
    refine Calls.mono (with_any mo (h : Int) _ (by omega)) ?_
    clear T
    rintro e wc ⟨rfl, hb⟩
    intro ac T
    replace M := M.call hb; clear hb
    refine sh_out hK _ _ ?_; clear hK K
    refine l_q (v := (.int .i64 (withI mo (h : Int)))) (T.pick [0, 1, 2, 3, 4, 5, 6, 7, 8, 9, 10, 11, 13, 14, 15] rfl) rfl rfl rfl rfl (rn_assign rfl (T.ev 0 rfl)) ?_; clear T ac; intro ac T
    refine wpList_nil ?_
    replace T := T.pick [0, 6, 7, 8, 9, 10, 11, 12, 13, 14, 15] rfl
    refine nm_blk ?_
    refine nm_then ?_
    refine wp_region_lit ?_
    refine lq T (rn_add rfl (T.ev 10 rfl) evc (by omega)) ?_; clear T ac; intro ac T
    refine l_q (v := (.int .i64 ((h : Int) + 1))) (T.pick [0, 1, 2, 3, 4, 5, 6, 7, 8, 9, 10] rfl) rfl rfl rfl rfl (rn_move rfl (T.ev 0 rfl)) ?_; clear T ac; intro ac T
    refine wpList_nil ?_
    replace T := T.pick [0, 2, 3, 4, 5, 6, 7, 8, 9, 10, 11] rfl
    refine nm_then ?_
    exact ⟨_, by omega, h + 1, (withI mo (h : Int)), rfl, (by omega), (by first | exact hmo | exact with_bd hmo (by omega)), (by simpa only [if_pos h5] using Hm), T.pick [2, 3, 4, 5, 6, 7, 8, 1, 9, 10, 0] rfl, M.mask [true] rfl⟩
   intro h5
   refine wp_skip ?_
   refine nm_blk ?_
   refine nm_then ?_
   refine wp_region_lit ?_
   refine lq T (rn_add rfl (T.ev 12 rfl) evc (by omega)) ?_; clear T ac; intro ac T
   refine l_q (v := (.int .i64 ((h : Int) + 1))) (T.pick [0, 1, 2, 3, 4, 5, 6, 7, 8, 9, 10, 11, 12] rfl) rfl rfl rfl rfl (rn_move rfl (T.ev 0 rfl)) ?_; clear T ac; intro ac T
   refine wpList_nil ?_
   replace T := T.pick [0, 4, 5, 6, 7, 8, 9, 10, 11, 12, 13] rfl
   refine nm_then ?_
   exact ⟨_, by omega, h + 1, mo, rfl, (by omega), (by first | exact hmo | exact with_bd hmo (by omega)), (by simpa only [if_neg h5] using Hm), T.pick [1, 2, 3, 4, 5, 6, 7, 8, 9, 10, 0] rfl, M.mask [true] rfl⟩
  intro h4
  rw [List.drop_of_length_le (by omega), moreP] at Hm
  refine wp_exit ?_
  refine ex_then ?_
  refine ex_then ?_
  refine ex_hit ?_
  refine nm_then ?_
  refine wp_seq ?_
  refine g_start2 M (M.perm [] rfl rfl) 13 (by kernel_rfl) rfl (by kernel_rfl) ?_
  clear M; intro wc M
  refine gq T 0 1 rfl (fun B w' hD hl hS => (rn_one (Mem.old (show Mem w exq w' _ from hS) senv.gr.1 senv.gr.2) rfl (T.ev 6 rfl) rfl)) ?_; clear T ac; intro ac T
  refine gq T 2 5 rfl (fun _ _ _ _ _ => (rn_move rfl (T.ev 2 rfl))) ?_; clear T ac; intro ac T
  refine gq T 4 21 rfl (fun _ _ _ _ _ => (rn_move rfl (T.ev 9 rfl))) ?_; clear T ac; intro ac T
  refine gq T 7 149 rfl (fun _ _ _ _ _ => (rn_move rfl (T.ev 10 rfl))) ?_; clear T ac; intro ac T
  refine gq T 8 405 rfl (fun _ _ _ _ _ => (rn_add rfl (T.ev 0 rfl) evc (by omega))) ?_; clear T ac; intro ac T
  refine gq T 9 917 rfl (fun _ _ _ _ _ => (rn_move rfl (T.ev 7 rfl))) ?_; clear T ac; intro ac T
  refine gq T 10 1941 rfl (fun _ _ _ _ _ => (rn_sub rfl (T.ev 0 rfl) evc (by omega))) ?_; clear T ac; intro ac T
  refine gq T 11 3989 rfl (fun _ _ _ _ _ => (rn_move rfl (T.ev 15 rfl))) ?_; clear T ac; intro ac T
  refine g_m2 (i := 1) (j := 5) (by kernel_rfl) ?_ ?_
  ·refine gi 3991 ?_; intro K hK
   refine ow_bs0 (e := 3) M T rfl rfl rfl rfl (fun _ => by kernel_rfl) ?_; clear M T; intro gr15_1 wc ac M T
   refine sh_out hK _ _ (M.perm [] rfl rfl) ?_; clear hK K
   refine g_m2 (i := 3) (j := 5) (by kernel_rfl) ?_ ?_
   ·refine gi 3999 ?_; intro K hK
    refine ow_appS Try.info3 M T rfl rfl rfl rfl (fun g w => Try.append0i _ _ g _ w) Try.underlying22 rfl rfl rfl (by omega) (T.ev 0 rfl) (T.ev 7 rfl) (Sl0.rd M (.cons _ (.cons _ (List.Sublist.refl _)))) (ic_one _) ?_; clear M T; intro Au15_3 cu15_3 Iu15_3 wc ac hSm15_3 M T
    replace M : Mem w exq wc ((se.fo, .cells [.slice none 0 0]) :: (Il ++ Iu15_3)) := M.swapI
    refine sh_out hK _ _ (M.perm [] rfl rfl) ?_; clear hK K
    refine gw 5 4031 ?_; intro K hK
    refine ow_bs (e := 3) [.int .i64 (i : Int)] M T rfl rfl rfl rfl (.cons (T.ev 7 rfl) .nil) (fun _ => by kernel_rfl) ?_; clear M T; intro gr15_5 wc ac M T
    refine sh_out hK _ _ (M.perm [] rfl rfl) ?_; clear hK K
    refine gw 6 4095 ?_; intro K hK
    refine ow_appM (((gr15_5, .cells [.int .i64 (i : Int)]) :: (se.fo, .cells [.slice none 0 0]) :: Il)) Try.info3 hSm15_3 M (by first | rfl | simp) T rfl rfl rfl rfl Try.underlying22 rfl rfl rfl (by omega) (T.ev 1 rfl) (T.ev 0 rfl) (nthE_mem (i := 0) rfl) rfl rfl ?_; clear M T; intro ga15_6 ca15_6 wc ac M T
    refine sh_out hK _ _ (M.perm [] rfl rfl) ?_; clear hK K
    refine gw 12 8191 ?_; intro K hK
    have Mq : Mem w exq wc ((se.fo, .cells [.slice none 0 0]) :: (ga15_6, .row 3 1 (l.length + 1) (ic l ++ [.int .i64 (i : Int)]) ca15_6) :: Il) := M.permT [2, 0] 3 rfl rfl rfl rfl
    have My : Mem w exq wc [(se.fo, .cells [.slice none 0 0]), (ga15_6, .row 3 1 (l.length + 1) (ic l ++ [.int .i64 (i : Int)]) ca15_6)] := Mq.sub (List.Sublist.cons_cons _ (.cons_cons _ (List.nil_sublist _)))
    have gx := senv.move (ex' := inL [(se.fo, .cells [.slice none 0 0]), (ga15_6, .row 3 1 (l.length + 1) (ic l ++ [.int .i64 (i : Int)]) ca15_6)]) Mq (fun b hb => by unfold inL at hb ⊢; exact ((List.Sublist.cons_cons _ (.cons_cons _ (List.nil_sublist Il))).map _).subset hb)
    refine ow_call (first := []) (cap := [.pointer (some ⟨se.fo, 0, none⟩), .pointer (some ⟨se.bb, 0, none⟩), .pointer (some ⟨se.tb, 0, none⟩), .pointer (some ⟨se.gr, 0, none⟩)]) T rfl rfl rfl rfl (T.ev 11 rfl) (.cons (T.ev 0 rfl) (.cons (T.ev 7 rfl) (.cons (T.ev 5 rfl) (.cons (T.ev 4 rfl) .nil)))) Try.func72 rfl rfl ?_
    refine Calls.mono (ih1 wc _ (l ++ [(i : Int)]) _ _ _ _ _ (i + 1) _ [(ga15_6, .row 3 1 (l.length + 1) (ic l ++ [.int .i64 (i : Int)]) ca15_6)] (by simp) (by simp only [List.length_append, List.length_cons, List.length_nil]; omega) (by omega) (by omega) (by omega) hmo ⟨_, _, fun w ex => by rw [← ic_snoc]; exact Sp.row (by simp [ic_length])⟩ gx My.rebase) ?_
    clear T
    rintro e wc ⟨Aur15_12, nur15_12, cur15_12, Iur15_12, rfl, hfsur15_12, N⟩
    intro ac T
    replace M := Mem.joinX (X := [(se.fo, .cells [.slice none 0 0]), (ga15_6, .row 3 1 (l.length + 1) (ic l ++ [.int .i64 (i : Int)]) ca15_6)]) (F := Il) Mq N (fun b h => h)
    clear N Mq My gx
    replace M : Mem w exq wc ((se.fo, .cells [.slice Aur15_12 nur15_12 cur15_12]) :: (Iur15_12 ++ Il)) := M
    refine sh_out hK _ _ (M.perm [] rfl rfl) ?_; clear hK K
    refine g_done (by kernel_rfl) ?_
    replace T := T.pick [0, 14, 15, 16, 17, 18, 19, 20] rfl
    refine nm_then ?_
    refine wp_cond_split (T.ev 0 rfl) ?_ ?_
    ·intro h6
     refine wp_seq ?_
     refine wp_region_lit ?_
     refine lq T (rn_assign rfl evc) ?_; clear T ac; intro ac T
     refine wpList_nil ?_
     replace T := T.pick [0] rfl
     refine nm_then ?_
     refine wp_ret ?_
     refine rt_blk ?_
     refine rt_then ?_
     refine rt_then ?_
     refine rt_blk ?_
     refine rt_then ?_
     refine rt_1 T rfl (T.ev 0 rfl) ?_
     have hsf := H.trans (sFrom_some (by omega) (by rw [← hxr, Hm]; exact h6))
     rw [← hxr, Hm] at hsf
     rw [hsf]
     exact ⟨Aur15_12, nur15_12, cur15_12, Iur15_12, by rw [h6], hfsur15_12, M.sub (.cons_cons _ (List.sublist_append_left _ _))⟩
    intro h6
    refine wp_skip ?_
    refine nm_blk ?_
    refine nm_then ?_
    refine wp_region_lit ?_
    refine lq T (rn_move rfl (T.ev 7 rfl)) ?_; clear T ac; intro ac T
    refine lq T (rn_add rfl (T.ev 0 rfl) evc (by omega)) ?_; clear T ac; intro ac T
    refine l_q (v := (.int .i64 ((i : Int) + 1))) (T.pick [0, 1, 2, 3, 4, 5, 6, 7, 8] rfl) rfl rfl rfl rfl (rn_assign rfl (T.ev 0 rfl)) ?_; clear T ac; intro ac T
    refine wpList_nil ?_
    replace T := T.pick [0, 4, 5, 6, 7, 8, 9] rfl
    refine nm_then ?_
    have hno := hfsur15_12.none h6
    obtain ⟨rfl, rfl, rfl, rfl⟩ := hno
    replace M : Mem w exq wc ((se.fo, .cells [.slice none 0 0]) :: Il) := M
    exact ⟨_, by omega, i + 1, rfl, (by omega), (by omega), (by rw [H]; exact sFrom_none (by omega) (by rw [← hxr, Hm]; exact h6)), T.pick [1, 2, 3, 4, 5, 6, 0] rfl, M⟩
   refine gi 4023 ?_; intro K hK
   refine ow_bs (e := 3) [.int .i64 (i : Int)] M T rfl rfl rfl rfl (.cons (T.ev 6 rfl) .nil) (fun _ => by kernel_rfl) ?_; clear M T; intro gr15_5 wc ac M T
   refine sh_out hK _ _ (M.perm [] rfl rfl) ?_; clear hK K
   refine gw 3 4031 ?_; intro K hK
   replace M := M.permT [1, 0, 2] 3 rfl rfl rfl rfl
   refine ow_appS Try.info3 M T rfl rfl rfl rfl (fun g w => Try.append0i _ _ g _ w) Try.underlying22 rfl rfl rfl (by omega) (T.ev 1 rfl) (T.ev 8 rfl) (Sl0.rd M (.cons _ (.cons _ (.cons _ (List.Sublist.refl _))))) (ic_one _) ?_; clear M T; intro Au15_3 cu15_3 Iu15_3 wc ac hSm15_3 M T
   replace M : Mem w exq wc ((gr15_5, .cells [.int .i64 (i : Int)]) :: (se.fo, .cells [.slice none 0 0]) :: (Il ++ Iu15_3)) := M.swapI
   refine sh_out hK _ _ (M.perm [] rfl rfl) ?_; clear hK K
   refine gw 6 4095 ?_; intro K hK
   refine ow_appM (((gr15_5, .cells [.int .i64 (i : Int)]) :: (se.fo, .cells [.slice none 0 0]) :: Il)) Try.info3 hSm15_3 M (by first | rfl | simp) T rfl rfl rfl rfl Try.underlying22 rfl rfl rfl (by omega) (T.ev 0 rfl) (T.ev 1 rfl) (nthE_mem (i := 0) rfl) rfl rfl ?_; clear M T; intro ga15_6 ca15_6 wc ac M T
   refine sh_out hK _ _ (M.perm [] rfl rfl) ?_; clear hK K
   refine gw 12 8191 ?_; intro K hK
   have Mq : Mem w exq wc ((se.fo, .cells [.slice none 0 0]) :: (ga15_6, .row 3 1 (l.length + 1) (ic l ++ [.int .i64 (i : Int)]) ca15_6) :: Il) := M.permT [2, 0] 3 rfl rfl rfl rfl
   have My : Mem w exq wc [(se.fo, .cells [.slice none 0 0]), (ga15_6, .row 3 1 (l.length + 1) (ic l ++ [.int .i64 (i : Int)]) ca15_6)] := Mq.sub (List.Sublist.cons_cons _ (.cons_cons _ (List.nil_sublist _)))
   have gx := senv.move (ex' := inL [(se.fo, .cells [.slice none 0 0]), (ga15_6, .row 3 1 (l.length + 1) (ic l ++ [.int .i64 (i : Int)]) ca15_6)]) Mq (fun b hb => by unfold inL at hb ⊢; exact ((List.Sublist.cons_cons _ (.cons_cons _ (List.nil_sublist Il))).map _).subset hb)
   refine ow_call (first := []) (cap := [.pointer (some ⟨se.fo, 0, none⟩), .pointer (some ⟨se.bb, 0, none⟩), .pointer (some ⟨se.tb, 0, none⟩), .pointer (some ⟨se.gr, 0, none⟩)]) T rfl rfl rfl rfl (T.ev 11 rfl) (.cons (T.ev 0 rfl) (.cons (T.ev 7 rfl) (.cons (T.ev 5 rfl) (.cons (T.ev 4 rfl) .nil)))) Try.func72 rfl rfl ?_
   refine Calls.mono (ih1 wc _ (l ++ [(i : Int)]) _ _ _ _ _ (i + 1) _ [(ga15_6, .row 3 1 (l.length + 1) (ic l ++ [.int .i64 (i : Int)]) ca15_6)] (by simp) (by simp only [List.length_append, List.length_cons, List.length_nil]; omega) (by omega) (by omega) (by omega) hmo ⟨_, _, fun w ex => by rw [← ic_snoc]; exact Sp.row (by simp [ic_length])⟩ gx My.rebase) ?_
   clear T
   rintro e wc ⟨Aur15_12, nur15_12, cur15_12, Iur15_12, rfl, hfsur15_12, N⟩
   intro ac T
   replace M := Mem.joinX (X := [(se.fo, .cells [.slice none 0 0]), (ga15_6, .row 3 1 (l.length + 1) (ic l ++ [.int .i64 (i : Int)]) ca15_6)]) (F := Il) Mq N (fun b h => h)
   clear N Mq My gx
   replace M : Mem w exq wc ((se.fo, .cells [.slice Aur15_12 nur15_12 cur15_12]) :: (Iur15_12 ++ Il)) := M
   refine sh_out hK _ _ (M.perm [] rfl rfl) ?_; clear hK K
   refine g_done (by kernel_rfl) ?_
   replace T := T.pick [0, 14, 15, 16, 17, 18, 19, 20] rfl
   refine nm_then ?_
   refine wp_cond_split (T.ev 0 rfl) ?_ ?_
   ·intro h7
    refine wp_seq ?_
    refine wp_region_lit ?_
    refine lq T (rn_assign rfl evc) ?_; clear T ac; intro ac T
    refine wpList_nil ?_
    replace T := T.pick [0] rfl
    refine nm_then ?_
    refine wp_ret ?_
    refine rt_blk ?_
    refine rt_then ?_
    refine rt_then ?_
    refine rt_blk ?_
    refine rt_then ?_
    refine rt_1 T rfl (T.ev 0 rfl) ?_
    have hsf := H.trans (sFrom_some (by omega) (by rw [← hxr, Hm]; exact h7))
    rw [← hxr, Hm] at hsf
    rw [hsf]
    exact ⟨Aur15_12, nur15_12, cur15_12, Iur15_12, by rw [h7], hfsur15_12, M.sub (.cons_cons _ (List.sublist_append_left _ _))⟩
   intro h7
   refine wp_skip ?_
   refine nm_blk ?_
   refine nm_then ?_
   refine wp_region_lit ?_
   refine lq T (rn_move rfl (T.ev 7 rfl)) ?_; clear T ac; intro ac T
   refine lq T (rn_add rfl (T.ev 0 rfl) evc (by omega)) ?_; clear T ac; intro ac T
   refine l_q (v := (.int .i64 ((i : Int) + 1))) (T.pick [0, 1, 2, 3, 4, 5, 6, 7, 8] rfl) rfl rfl rfl rfl (rn_assign rfl (T.ev 0 rfl)) ?_; clear T ac; intro ac T
   refine wpList_nil ?_
   replace T := T.pick [0, 4, 5, 6, 7, 8, 9] rfl
   refine nm_then ?_
   have hno := hfsur15_12.none h7
   obtain ⟨rfl, rfl, rfl, rfl⟩ := hno
   replace M : Mem w exq wc ((se.fo, .cells [.slice none 0 0]) :: Il) := M
   exact ⟨_, by omega, i + 1, rfl, (by omega), (by omega), (by rw [H]; exact sFrom_none (by omega) (by rw [← hxr, Hm]; exact h7)), T.pick [1, 2, 3, 4, 5, 6, 0] rfl, M⟩
  refine gi 4021 ?_; intro K hK
  refine ow_bs (e := 3) [.int .i64 (i : Int)] M T rfl rfl rfl rfl (.cons (T.ev 5 rfl) .nil) (fun _ => by kernel_rfl) ?_; clear M T; intro gr15_5 wc ac M T
  refine sh_out hK _ _ (M.perm [] rfl rfl) ?_; clear hK K
  refine gw 1 4023 ?_; intro K hK
  refine ow_bs0 (e := 3) M T rfl rfl rfl rfl (fun _ => by kernel_rfl) ?_; clear M T; intro gr15_1 wc ac M T
  refine sh_out hK _ _ (M.perm [] rfl rfl) ?_; clear hK K
  refine gw 3 4031 ?_; intro K hK
  refine ow_appS Try.info3 M T rfl rfl rfl rfl (fun g w => Try.append0i _ _ g _ w) Try.underlying22 rfl rfl rfl (by omega) (T.ev 0 rfl) (T.ev 8 rfl) (Sl0.rd M (.cons _ (.cons _ (.cons _ (List.Sublist.refl _))))) (ic_one _) ?_; clear M T; intro Au15_3 cu15_3 Iu15_3 wc ac hSm15_3 M T
  replace M : Mem w exq wc ((gr15_5, .cells [.int .i64 (i : Int)]) :: (se.fo, .cells [.slice none 0 0]) :: (Il ++ Iu15_3)) := M.swapI
  refine sh_out hK _ _ (M.perm [] rfl rfl) ?_; clear hK K
  refine gw 6 4095 ?_; intro K hK
  refine ow_appM (((gr15_5, .cells [.int .i64 (i : Int)]) :: (se.fo, .cells [.slice none 0 0]) :: Il)) Try.info3 hSm15_3 M (by first | rfl | simp) T rfl rfl rfl rfl Try.underlying22 rfl rfl rfl (by omega) (T.ev 0 rfl) (T.ev 2 rfl) (nthE_mem (i := 0) rfl) rfl rfl ?_; clear M T; intro ga15_6 ca15_6 wc ac M T
  refine sh_out hK _ _ (M.perm [] rfl rfl) ?_; clear hK K
  refine gw 12 8191 ?_; intro K hK
  have Mq : Mem w exq wc ((se.fo, .cells [.slice none 0 0]) :: (ga15_6, .row 3 1 (l.length + 1) (ic l ++ [.int .i64 (i : Int)]) ca15_6) :: Il) := M.permT [2, 0] 3 rfl rfl rfl rfl
  have My : Mem w exq wc [(se.fo, .cells [.slice none 0 0]), (ga15_6, .row 3 1 (l.length + 1) (ic l ++ [.int .i64 (i : Int)]) ca15_6)] := Mq.sub (List.Sublist.cons_cons _ (.cons_cons _ (List.nil_sublist _)))
  have gx := senv.move (ex' := inL [(se.fo, .cells [.slice none 0 0]), (ga15_6, .row 3 1 (l.length + 1) (ic l ++ [.int .i64 (i : Int)]) ca15_6)]) Mq (fun b hb => by unfold inL at hb ⊢; exact ((List.Sublist.cons_cons _ (.cons_cons _ (List.nil_sublist Il))).map _).subset hb)
  refine ow_call (first := []) (cap := [.pointer (some ⟨se.fo, 0, none⟩), .pointer (some ⟨se.bb, 0, none⟩), .pointer (some ⟨se.tb, 0, none⟩), .pointer (some ⟨se.gr, 0, none⟩)]) T rfl rfl rfl rfl (T.ev 11 rfl) (.cons (T.ev 0 rfl) (.cons (T.ev 7 rfl) (.cons (T.ev 5 rfl) (.cons (T.ev 4 rfl) .nil)))) Try.func72 rfl rfl ?_
  refine Calls.mono (ih1 wc _ (l ++ [(i : Int)]) _ _ _ _ _ (i + 1) _ [(ga15_6, .row 3 1 (l.length + 1) (ic l ++ [.int .i64 (i : Int)]) ca15_6)] (by simp) (by simp only [List.length_append, List.length_cons, List.length_nil]; omega) (by omega) (by omega) (by omega) hmo ⟨_, _, fun w ex => by rw [← ic_snoc]; exact Sp.row (by simp [ic_length])⟩ gx My.rebase) ?_
  clear T
  rintro e wc ⟨Aur15_12, nur15_12, cur15_12, Iur15_12, rfl, hfsur15_12, N⟩
  intro ac T
  replace M := Mem.joinX (X := [(se.fo, .cells [.slice none 0 0]), (ga15_6, .row 3 1 (l.length + 1) (ic l ++ [.int .i64 (i : Int)]) ca15_6)]) (F := Il) Mq N (fun b h => h)
  clear N Mq My gx
  replace M : Mem w exq wc ((se.fo, .cells [.slice Aur15_12 nur15_12 cur15_12]) :: (Iur15_12 ++ Il)) := M
  refine sh_out hK _ _ (M.perm [] rfl rfl) ?_; clear hK K
  refine g_done (by kernel_rfl) ?_
  replace T := T.pick [0, 14, 15, 16, 17, 18, 19, 20] rfl
  refine nm_then ?_
  refine wp_cond_split (T.ev 0 rfl) ?_ ?_
  ·intro h8
   refine wp_seq ?_
   refine wp_region_lit ?_
   refine lq T (rn_assign rfl evc) ?_; clear T ac; intro ac T
   refine wpList_nil ?_
   replace T := T.pick [0] rfl
   refine nm_then ?_
   refine wp_ret ?_
   refine rt_blk ?_
   refine rt_then ?_
   refine rt_then ?_
   refine rt_blk ?_
   refine rt_then ?_
   refine rt_1 T rfl (T.ev 0 rfl) ?_
   have hsf := H.trans (sFrom_some (by omega) (by rw [← hxr, Hm]; exact h8))
   rw [← hxr, Hm] at hsf
   rw [hsf]
   exact ⟨Aur15_12, nur15_12, cur15_12, Iur15_12, by rw [h8], hfsur15_12, M.sub (.cons_cons _ (List.sublist_append_left _ _))⟩
  intro h8
  refine wp_skip ?_
  refine nm_blk ?_
  refine nm_then ?_
  refine wp_region_lit ?_
  refine lq T (rn_move rfl (T.ev 7 rfl)) ?_; clear T ac; intro ac T
  refine lq T (rn_add rfl (T.ev 0 rfl) evc (by omega)) ?_; clear T ac; intro ac T
  refine l_q (v := (.int .i64 ((i : Int) + 1))) (T.pick [0, 1, 2, 3, 4, 5, 6, 7, 8] rfl) rfl rfl rfl rfl (rn_assign rfl (T.ev 0 rfl)) ?_; clear T ac; intro ac T
  refine wpList_nil ?_
  replace T := T.pick [0, 4, 5, 6, 7, 8, 9] rfl
  refine nm_then ?_
  have hno := hfsur15_12.none h8
  obtain ⟨rfl, rfl, rfl, rfl⟩ := hno
  replace M : Mem w exq wc ((se.fo, .cells [.slice none 0 0]) :: Il) := M
  exact ⟨_, by omega, i + 1, rfl, (by omega), (by omega), (by rw [H]; exact sFrom_none (by omega) (by rw [← hxr, Hm]; exact h8)), T.pick [1, 2, 3, 4, 5, 6, 0] rfl, M⟩
 intro h3
 refine wp_exit ?_
 refine ex_then ?_
 refine ex_then ?_
 refine ex_hit ?_
 refine nm_then ?_
 refine wp_seq ?_
 refine wp_region_lit ?_
 refine lq T (rn_assign rfl evc) ?_; clear T ac; intro ac T
 refine wpList_nil ?_
 replace T := T.pick [0] rfl
 refine nm_then ?_
 refine wp_ret ?_
 refine rt_1 T rfl (T.ev 0 rfl) ?_
 rw [H, sFrom_end (by omega)]
 exact ⟨none, 0, 0, [], rfl, .inl ⟨rfl, rfl, rfl, rfl, rfl⟩, M.sub (.cons_cons _ (List.nil_sublist _))⟩
end Go.Proofs.Ytlahdenlmmlplaa
end

section
/-
 voice: Match, Short, Most.
-/
namespace Go.Proofs.Ytlahdenlmmlplaa
set_option linter.unusedSimpArgs false
set_option linter.unusedVariables false
open Go.RowKit
theorem found_any (se : SE) (Tb : List (List Int)) (hLL : se.LL.map (·.1) = Tb) (hT1 : Tb.length = se.b.lows.length) (hT2 : ∀ x ∈ Tb, x.length ≤ 5) (hlo : se.b.lows.length ≤ 4) : ∀ k : Nat, ShortSpec se Tb k
 | 0 => fun w exq l A m c fi lf first up Il hm hlk hfi hlf hf5 hup hl senv M0 => by
   subst hm hfi
   exact found_step se Tb 0 exq l A c lf first up Il w hLL hT1 hT2 hlo (fun _ h => by cases h) hlk hlf hf5 hup hl senv M0
 | k + 1 => fun w exq l A m c fi lf first up Il hm hlk hfi hlf hf5 hup hl senv M0 => by
   subst hm hfi
   exact found_step se Tb (k + 1) exq l A c lf first up Il w hLL hT1 hT2 hlo (fun k' h => by injection h with h; subst h; exact found_any se Tb hLL hT1 hT2 hlo _) hlk hlf hf5 hup hl senv M0
def LEPost (l : List Int) (er : Int) (w : World) (e : Ending) (w' : World) : Prop := ∃ A c I, e = .returned (.tuple #[.slice A l.length c, .int .i64 er]) ∧ l.length ≤ 6 ∧ (∃ b o, ∀ (w : World) (ex : Nat → Prop), Sp w ex I A l.length 1 b o (ic l)) ∧ Mem w noEx w' I
def mostL (b : Bx) (ok : Int → Bool) : List Int := mostP (tableP b) ok b.lows.length b.highs.length
def matchE (b : Bx) : List Int × Int := if checkB b = 0 then (mostL b okA, 0) else ([], checkB b)
def mostE (b : Bx) : (Int × Int) × Int := if checkB b = 0 then ((pairsP (mostL b okA), pairsP (mostL b okM)), 0) else ((0, 0), checkB b)
def shortE (b : Bx) : List Int × Int := if checkB b = 0 then (if pairsP (mostL b okA) = b.lows.length then ([], 11) else ((sizeF (tableP b) b.lows.length 0).getD [], 0)) else ([], checkB b)
theorem LEPost.nil {er : Int} {w w' : World} {L : List (Nat × BA)} {e : Ending} (he : e = .returned (.tuple #[.slice none 0 0, .int .i64 er])) (M : Mem w noEx w' L) : LEPost [] er w e w' := ⟨none, 0, [], he, by simp, ⟨0, 0, fun _ _ => Sp.nil⟩, M.sub (List.nil_sublist _)⟩
theorem Match_any (b : Bx) (A : Option Addr) (c : Nat) (B : Option Addr) (d : Nat) (w : World) (hA : Rd w w.heap.size 4 A b.lows.length (sc b.lows)) (hB : Rd w w.heap.size 4 B b.highs.length (sc b.highs)) (nA : b.lows.length ≤ 1000000) (nB : b.highs.length ≤ 1000000)  :
   Calls Try.prog 27 #[bxV b A c B d] w (LEPost (matchE b).1 (matchE b).2 w) := by
 have hlA := hA.len4
 have hlB := hB.len4
 obtain ⟨bA, oA, SA⟩ := Sp.old hA
 obtain ⟨bB, oB, SB⟩ := Sp.old hB
 refine px_enter noEx Try.func27 rfl 12 rfl [.agg #[.int .i64 b.first, .int .i64 b.step, .int .i64 b.span, .int .i64 b.press, .int .i64 b.note, .slice A b.lows.length c, .slice B b.highs.length d, .int .i64 b.t0, .int .i64 b.t1, .int .i64 b.r0, .int .i64 b.r1, .int .i64 b.u0, .int .i64 b.u1, .int .i64 b.d0, .int .i64 b.d1, .int .i64 b.a0, .int .i64 b.a1, .int .i64 b.b0, .int .i64 b.b1, .int .i64 b.le, .int .i64 b.me]] rfl rfl (Mem.init w _) ?_
 intro ac wc T M
 refine wp_seq ?_
 refine wp_region_lit ?_
 refine l_w rfl ?_; intro K hK
 refine ow_bx M T rfl rfl rfl rfl (T.ev 0 rfl) rfl ?_; clear M T; intro g1 wc ac M T
 refine sh_out hK _ _ ?_; clear hK K
 refine lq T (rn_assign rfl evc) ?_; clear T ac; intro ac T
 refine lq T (rn_assign rfl evc) ?_; clear T ac; intro ac T
 refine wpList_nil ?_
 replace T := T.pick [2] rfl
 refine nm_then ?_
 refine wp_seq ?_
 refine wp_seq ?_
 refine wp_region_lit ?_
 refine lq T (rn_rowO (Mem.nth M 0 rfl) rfl (T.ev 0 rfl) rfl) ?_; clear T ac; intro ac T
 refine l_w rfl ?_; intro K hK
 refine ow_call (first := []) (cap := []) T rfl rfl rfl rfl evf (.cons (T.ev 0 rfl) .nil) Try.func67 rfl rfl ?_
 refine Calls.mono (vCheck_any b _ _ _ _ _ (SA.rd M (List.nil_sublist _)) (SB.rd M (List.nil_sublist _)) (by omega) (by omega)) ?_
 clear T
 rintro e wc ⟨rfl, hb⟩
 intro ac T
 replace M := M.call hb; clear hb
 refine sh_out hK _ _ ?_; clear hK K
 refine lq T (rn_assign rfl (T.ev 0 rfl)) ?_; clear T ac; intro ac T
 refine wpList_nil ?_
 replace T := T.pick [0, 3] rfl
 refine nm_then ?_
 refine wp_seq ?_
 refine wp_region_lit ?_
 refine lq T (rn_move rfl (T.ev 0 rfl)) ?_; clear T ac; intro ac T
 refine lq T (rn_neq rfl (T.ev 0 rfl) evc) ?_; clear T ac; intro ac T
 refine wpList_nil ?_
 replace T := T.pick [0, 2, 3] rfl
 refine nm_then ?_
 refine wp_ifn (T.ev 0 rfl) ?_ ?_
 ·intro h1
  refine wp_seq ?_
  refine wp_region_lit ?_
  refine lq T (rn_move rfl (T.ev 1 rfl)) ?_; clear T ac; intro ac T
  refine lq T (rn_assign rfl evc) ?_; clear T ac; intro ac T
  refine lq T (rn_assign rfl (T.ev 1 rfl)) ?_; clear T ac; intro ac T
  refine wpList_nil ?_
  replace T := T.pick [0, 1] rfl
  replace M := M.mask [false] rfl
  refine nm_then ?_
  refine wp_ret ?_
  refine rt_then ?_
  refine rt_2 T rfl (T.ev 1 rfl) (T.ev 0 rfl) ?_
  have e9 : matchE b = ([], checkB b) := by unfold matchE; rw [if_neg (by simpa using h1)]
  rw [e9]
  exact LEPost.nil rfl M
 intro h1
 have gb := checkB_good.1 (show checkB b = 0 by simpa using h1)
 have nA5 := gb.lows.1
 have nB5 := gb.highs.1
 refine wp_skip ?_
 refine nm_then ?_
 refine wp_seq ?_
 refine wp_region_lit ?_
 refine lq T (rn_rowO (Mem.nth M 0 rfl) rfl (T.ev 2 rfl) rfl) ?_; clear T ac; intro ac T
 refine l_w rfl ?_; intro K hK
 refine ow_call (first := []) (cap := []) T rfl rfl rfl rfl evf (.cons (T.ev 0 rfl) (.cons evf .nil)) Try.func68 rfl rfl ?_
 refine Calls.mono (most_always b A c B d _ (SA.rd M (List.nil_sublist _)) (SB.rd M (List.nil_sublist _)) gb) ?_
 clear T
 rintro e wc ⟨Au2, cu2, Iu2, rfl, h5u2, SVu2, N⟩
 intro ac T
 obtain ⟨bu2, ou2, SVu2⟩ := SVu2
 obtain ⟨lmu2, hlmu2⟩ : ∃ q, q = mostP (tableP b) okA b.lows.length b.highs.length := ⟨_, rfl⟩
 rw [← hlmu2] at h5u2 SVu2
 have Su2 := SVu2 w noEx
 replace M := (M.join N).swapI
 replace M : Mem w noEx wc ((g1, .cells [.int .i64 b.first, .int .i64 b.step, .int .i64 b.span, .int .i64 b.press, .int .i64 b.note, .slice A b.lows.length c, .slice B b.highs.length d, .int .i64 b.t0, .int .i64 b.t1, .int .i64 b.r0, .int .i64 b.r1, .int .i64 b.u0, .int .i64 b.u1, .int .i64 b.d0, .int .i64 b.d1, .int .i64 b.a0, .int .i64 b.a1, .int .i64 b.b0, .int .i64 b.b1, .int .i64 b.le, .int .i64 b.me]) :: Iu2) := M
 clear N
 rw [← hlmu2] at T
 refine sh_out hK _ _ ?_; clear hK K
 refine lq T (rn_assign rfl (T.ev 0 rfl)) ?_; clear T ac; intro ac T
 refine lq T (rn_assign rfl evc) ?_; clear T ac; intro ac T
 refine wpList_nil ?_
 replace T := T.pick [0, 1] rfl
 replace M := M.mask [false] rfl
 refine nm_then ?_
 refine wp_ret ?_
 refine rt_2 T rfl (T.ev 1 rfl) (T.ev 0 rfl) ?_
 have e9 : matchE b = (lmu2, 0) := by unfold matchE mostL; rw [if_pos (by simpa using h1), hlmu2]
 rw [e9]
 exact ⟨Au2, cu2, Iu2, rfl, Nat.le_trans h5u2 (by omega), ⟨_, _, SVu2⟩, M.sub ((List.Sublist.refl _))⟩
theorem Most_any (b : Bx) (A : Option Addr) (c : Nat) (B : Option Addr) (d : Nat) (w : World) (hA : Rd w w.heap.size 4 A b.lows.length (sc b.lows)) (hB : Rd w w.heap.size 4 B b.highs.length (sc b.highs)) (nA : b.lows.length ≤ 1000000) (nB : b.highs.length ≤ 1000000)  :
   Calls Try.prog 32 #[bxV b A c B d] w fun e w' => e = .returned (.tuple #[.agg #[.int .i64 ((mostE b).1.1), .int .i64 ((mostE b).1.2)], .int .i64 ((mostE b).2)]) ∧ Below w.heap.size w w' := by
 have hlA := hA.len4
 have hlB := hB.len4
 obtain ⟨bA, oA, SA⟩ := Sp.old hA
 obtain ⟨bB, oB, SB⟩ := Sp.old hB
 refine px_enter noEx Try.func32 rfl 18 rfl [.agg #[.int .i64 b.first, .int .i64 b.step, .int .i64 b.span, .int .i64 b.press, .int .i64 b.note, .slice A b.lows.length c, .slice B b.highs.length d, .int .i64 b.t0, .int .i64 b.t1, .int .i64 b.r0, .int .i64 b.r1, .int .i64 b.u0, .int .i64 b.u1, .int .i64 b.d0, .int .i64 b.d1, .int .i64 b.a0, .int .i64 b.a1, .int .i64 b.b0, .int .i64 b.b1, .int .i64 b.le, .int .i64 b.me]] rfl rfl (Mem.init w _) ?_
 intro ac wc T M
 refine wp_seq ?_
 refine wp_region_lit ?_
 refine l_w rfl ?_; intro K hK
 refine ow_bx M T rfl rfl rfl rfl (T.ev 0 rfl) rfl ?_; clear M T; intro g1 wc ac M T
 refine sh_out hK _ _ ?_; clear hK K
 refine l_w rfl ?_; intro K hK
 refine ow_al M T rfl rfl rfl rfl ?_; clear M T; intro g2 wc ac M T
 refine sh_out hK _ _ ?_; clear hK K
 refine lq T (rn_assign rfl evc) ?_; clear T ac; intro ac T
 refine wpList_nil ?_
 replace T := T.pick [1, 2] rfl
 refine nm_then ?_
 refine wp_seq ?_
 refine wp_seq ?_
 refine wp_region_lit ?_
 refine lq T (rn_rowO (Mem.nth M 1 rfl) rfl (T.ev 1 rfl) rfl) ?_; clear T ac; intro ac T
 refine l_w rfl ?_; intro K hK
 refine ow_call (first := []) (cap := []) T rfl rfl rfl rfl evf (.cons (T.ev 0 rfl) .nil) Try.func67 rfl rfl ?_
 refine Calls.mono (vCheck_any b _ _ _ _ _ (SA.rd M (List.nil_sublist _)) (SB.rd M (List.nil_sublist _)) (by omega) (by omega)) ?_
 clear T
 rintro e wc ⟨rfl, hb⟩
 intro ac T
 replace M := M.call hb; clear hb
 refine sh_out hK _ _ ?_; clear hK K
 refine lq T (rn_assign rfl (T.ev 0 rfl)) ?_; clear T ac; intro ac T
 refine wpList_nil ?_
 replace T := T.pick [0, 3, 4] rfl
 refine nm_then ?_
 refine wp_seq ?_
 refine wp_region_lit ?_
 refine lq T (rn_move rfl (T.ev 0 rfl)) ?_; clear T ac; intro ac T
 refine lq T (rn_neq rfl (T.ev 0 rfl) evc) ?_; clear T ac; intro ac T
 refine wpList_nil ?_
 replace T := T.pick [0, 2, 3, 4] rfl
 refine nm_then ?_
 refine wp_ifn (T.ev 0 rfl) ?_ ?_
 ·intro h1
  refine wp_seq ?_
  refine wp_region_lit ?_
  refine lq (v := (.agg #[.int .i64 0, .int .i64 0])) T (rn_build rfl .nil (fun _ => by kernel_rfl)) ?_; clear T ac; intro ac T
  refine lq T (rn_move rfl (T.ev 2 rfl)) ?_; clear T ac; intro ac T
  refine l_w rfl ?_; intro K hK
  refine ow_stO M T rfl rfl (T.ev 4 rfl) (T.ev 1 rfl) rfl .head rfl (by simp) rfl (by kernel_rfl) ?_; clear M T; intro wc ac M T
  refine sh_out hK _ _ ?_; clear hK K
  refine lq T (rn_assign rfl (T.ev 0 rfl)) ?_; clear T ac; intro ac T
  refine wpList_nil ?_
  replace T := T.pick [0, 5] rfl
  replace M := M.mask [true, false] rfl
  refine nm_then ?_
  refine wp_ret ?_
  refine rt_then ?_
  refine rt_ct M T rfl (T.ev 1 rfl) (T.ev 0 rfl) (nthE_mem (i := 0) rfl) rfl ?_
  have e9 : mostE b = ((0, 0), checkB b) := by unfold mostE; rw [if_neg (by simpa using h1)]
  rw [e9]
  exact ⟨rfl, M.below⟩
 intro h1
 have gb := checkB_good.1 (show checkB b = 0 by simpa using h1)
 have nA5 := gb.lows.1
 have nB5 := gb.highs.1
 refine wp_skip ?_
 refine nm_then ?_
 refine wp_seq ?_
 refine g_start2 M (M.perm [1] rfl rfl) 9 (by kernel_rfl) rfl (by kernel_rfl) ?_
 clear M; intro wc M
 refine g_addG 7 M ?_
 refine gq T 0 1 rfl (fun B w' hD hl hS => (rn_rowO (Mem.nth (show Mem w noEx w' _ from ((MA.lft hS) (hD.wait (i := 0) (m := 7) (by kernel_rfl) hl))) 1 rfl) rfl (T.ev 3 rfl) rfl)) ?_; clear T ac; intro ac T
 refine gq T 3 9 rfl (fun B w' hD hl hS => (rn_rowO (Mem.nth (show Mem w noEx w' _ from ((MA.lft hS) (hD.wait (i := 3) (m := 7) (by kernel_rfl) hl))) 1 rfl) rfl (T.ev 4 rfl) rfl)) ?_; clear T ac; intro ac T
 refine gw 1 11 ?_; intro K hK
 refine ow_call (first := []) (cap := []) T rfl rfl rfl rfl evf (.cons (T.ev 1 rfl) (.cons evf .nil)) Try.func68 rfl rfl ?_
 refine Calls.mono (most_always b A c B d _ (SA.rd M (List.nil_sublist _)) (SB.rd M (List.nil_sublist _)) gb) ?_
 clear T
 rintro e wc ⟨Au2, cu2, Iu2, rfl, h5u2, SVu2, N⟩
 intro ac T
 obtain ⟨bu2, ou2, SVu2⟩ := SVu2
 obtain ⟨lmu2, hlmu2⟩ : ∃ q, q = mostP (tableP b) okA b.lows.length b.highs.length := ⟨_, rfl⟩
 rw [← hlmu2] at h5u2 SVu2
 have Su2 := SVu2 w noEx
 replace M := (M.join N).swapI
 replace M : Mem w noEx wc ((g2, .cells [.int .i64 0, .int .i64 0]) :: (g1, .cells [.int .i64 b.first, .int .i64 b.step, .int .i64 b.span, .int .i64 b.press, .int .i64 b.note, .slice A b.lows.length c, .slice B b.highs.length d, .int .i64 b.t0, .int .i64 b.t1, .int .i64 b.r0, .int .i64 b.r1, .int .i64 b.u0, .int .i64 b.u1, .int .i64 b.d0, .int .i64 b.d1, .int .i64 b.a0, .int .i64 b.a1, .int .i64 b.b0, .int .i64 b.b1, .int .i64 b.le, .int .i64 b.me]) :: Iu2) := M
 clear N
 rw [← hlmu2] at T
 refine sh_out hK _ _ (MA.mk (fun _ => M.perm [0, 1] rfl rfl) (M.perm [1] rfl rfl)) ?_; clear hK K
 refine gw 2 15 ?_; intro K hK
 refine ow_call (first := []) (cap := []) T rfl rfl rfl rfl evf (.cons (T.ev 0 rfl) .nil) Try.func70 rfl rfl ?_
 refine Calls.mono (pairs_any _ _ _ lmu2 _ (Su2.rd M (.cons _ (.cons _ (List.Sublist.refl _)))) (by omega)) ?_
 clear T
 rintro e wc ⟨rfl, hb⟩
 intro ac T
 replace M := M.call hb; clear hb
 refine sh_out hK _ _ (MA.mk (fun _ => M.perm [0, 1] rfl rfl) (M.perm [1] rfl rfl)) ?_; clear hK K
 refine gw 4 31 ?_; intro K hK
 refine ow_call (first := []) (cap := []) T rfl rfl rfl rfl evf (.cons (T.ev 2 rfl) (.cons evf .nil)) Try.func68 rfl rfl ?_
 refine Calls.mono (most_maybe b A c B d _ (SA.rd M (List.nil_sublist _)) (SB.rd M (List.nil_sublist _)) gb) ?_
 clear T
 rintro e wc ⟨Au4, cu4, Iu4, rfl, h5u4, SVu4, N⟩
 intro ac T
 obtain ⟨bu4, ou4, SVu4⟩ := SVu4
 obtain ⟨lmu4, hlmu4⟩ : ∃ q, q = mostP (tableP b) okM b.lows.length b.highs.length := ⟨_, rfl⟩
 rw [← hlmu4] at h5u4 SVu4
 have Su4 := SVu4 w noEx
 replace M := (M.join N).swapI
 replace M : Mem w noEx wc ((g2, .cells [.int .i64 0, .int .i64 0]) :: (g1, .cells [.int .i64 b.first, .int .i64 b.step, .int .i64 b.span, .int .i64 b.press, .int .i64 b.note, .slice A b.lows.length c, .slice B b.highs.length d, .int .i64 b.t0, .int .i64 b.t1, .int .i64 b.r0, .int .i64 b.r1, .int .i64 b.u0, .int .i64 b.u1, .int .i64 b.d0, .int .i64 b.d1, .int .i64 b.a0, .int .i64 b.a1, .int .i64 b.b0, .int .i64 b.b1, .int .i64 b.le, .int .i64 b.me]) :: (Iu2 ++ Iu4)) := M
 clear N
 rw [← hlmu4] at T
 refine sh_out hK _ _ (MA.mk (fun _ => M.perm [0, 1] rfl rfl) (M.perm [1] rfl rfl)) ?_; clear hK K
 refine gw 5 63 ?_; intro K hK
 refine ow_call (first := []) (cap := []) T rfl rfl rfl rfl evf (.cons (T.ev 0 rfl) .nil) Try.func70 rfl rfl ?_
 refine Calls.mono (pairs_any _ _ _ lmu4 _ (Su4.rd M (.cons _ (.cons _ (List.sublist_append_right _ _)))) (by omega)) ?_
 clear T
 rintro e wc ⟨rfl, hb⟩
 intro ac T
 replace M := M.call hb; clear hb
 refine sh_out hK _ _ (MA.mk (fun _ => M.perm [0, 1] rfl rfl) (M.perm [1] rfl rfl)) ?_; clear hK K
 refine gq (v := (.agg #[.int .i64 (pairsP lmu2), .int .i64 (pairsP lmu4)])) T 6 127 rfl (fun _ _ _ _ _ => (rn_build rfl (.cons (T.ev 2 rfl) (.cons (T.ev 0 rfl) .nil)) (fun _ => by kernel_rfl))) ?_; clear T ac; intro ac T
 refine gw 7 255 ?_; intro K hK
 refine ow_stO M T rfl rfl (T.ev 9 rfl) (T.ev 0 rfl) rfl .head rfl (by simp) rfl (by kernel_rfl) ?_; clear M T; intro wc ac M T
 refine sh_out hK _ _ (MA.mk (fun h => (no_of (by kernel_rfl) h).elim) (M.perm [1] rfl rfl)) ?_; clear hK K
 refine gq T 8 511 rfl (fun _ _ _ _ _ => (rn_assign rfl evc)) ?_; clear T ac; intro ac T
 refine g_done (by kernel_rfl) ?_
 replace T := T.pick [0, 10] rfl
 replace M := M.mask [true, false] rfl
 refine nm_then ?_
 refine wp_ret ?_
 refine rt_ct M T rfl (T.ev 1 rfl) (T.ev 0 rfl) (nthE_mem (i := 0) rfl) rfl ?_
 have e9 : mostE b = ((pairsP lmu2, pairsP lmu4), 0) := by unfold mostE mostL; rw [if_pos (by simpa using h1), hlmu2, hlmu4]
 rw [e9]
 exact ⟨rfl, M.below⟩
theorem Short_any (b : Bx) (A : Option Addr) (c : Nat) (B : Option Addr) (d : Nat) (w : World) (hA : Rd w w.heap.size 4 A b.lows.length (sc b.lows)) (hB : Rd w w.heap.size 4 B b.highs.length (sc b.highs)) (nA : b.lows.length ≤ 1000000) (nB : b.highs.length ≤ 1000000)  :
   Calls Try.prog 28 #[bxV b A c B d] w (LEPost (shortE b).1 (shortE b).2 w) := by
 have hlA := hA.len4
 have hlB := hB.len4
 obtain ⟨bA, oA, SA⟩ := Sp.old hA
 obtain ⟨bB, oB, SB⟩ := Sp.old hB
 refine px_enter noEx Try.func28 rfl 40 rfl [.agg #[.int .i64 b.first, .int .i64 b.step, .int .i64 b.span, .int .i64 b.press, .int .i64 b.note, .slice A b.lows.length c, .slice B b.highs.length d, .int .i64 b.t0, .int .i64 b.t1, .int .i64 b.r0, .int .i64 b.r1, .int .i64 b.u0, .int .i64 b.u1, .int .i64 b.d0, .int .i64 b.d1, .int .i64 b.a0, .int .i64 b.a1, .int .i64 b.b0, .int .i64 b.b1, .int .i64 b.le, .int .i64 b.me]] rfl rfl (Mem.init w _) ?_
 intro ac wc T M
 refine wp_seq ?_
 refine wp_region_lit ?_
 refine l_w rfl ?_; intro K hK
 refine ow_bx M T rfl rfl rfl rfl (T.ev 0 rfl) rfl ?_; clear M T; intro g1 wc ac M T
 refine sh_out hK _ _ ?_; clear hK K
 refine lq T (rn_assign rfl evc) ?_; clear T ac; intro ac T
 refine lq T (rn_assign rfl evc) ?_; clear T ac; intro ac T
 refine wpList_nil ?_
 replace T := T.pick [2] rfl
 refine nm_then ?_
 refine wp_seq ?_
 refine wp_seq ?_
 refine wp_region_lit ?_
 refine lq T (rn_rowO (Mem.nth M 0 rfl) rfl (T.ev 0 rfl) rfl) ?_; clear T ac; intro ac T
 refine l_w rfl ?_; intro K hK
 refine ow_call (first := []) (cap := []) T rfl rfl rfl rfl evf (.cons (T.ev 0 rfl) .nil) Try.func67 rfl rfl ?_
 refine Calls.mono (vCheck_any b _ _ _ _ _ (SA.rd M (List.nil_sublist _)) (SB.rd M (List.nil_sublist _)) (by omega) (by omega)) ?_
 clear T
 rintro e wc ⟨rfl, hb⟩
 intro ac T
 replace M := M.call hb; clear hb
 refine sh_out hK _ _ ?_; clear hK K
 refine lq T (rn_assign rfl (T.ev 0 rfl)) ?_; clear T ac; intro ac T
 refine wpList_nil ?_
 replace T := T.pick [0, 3] rfl
 refine nm_then ?_
 refine wp_seq ?_
 refine wp_region_lit ?_
 refine lq T (rn_move rfl (T.ev 0 rfl)) ?_; clear T ac; intro ac T
 refine lq T (rn_neq rfl (T.ev 0 rfl) evc) ?_; clear T ac; intro ac T
 refine wpList_nil ?_
 replace T := T.pick [0, 2, 3] rfl
 refine nm_then ?_
 refine wp_ifn (T.ev 0 rfl) ?_ ?_
 ·intro h1
  refine wp_seq ?_
  refine wp_region_lit ?_
  refine lq T (rn_move rfl (T.ev 1 rfl)) ?_; clear T ac; intro ac T
  refine lq T (rn_assign rfl evc) ?_; clear T ac; intro ac T
  refine lq T (rn_assign rfl (T.ev 1 rfl)) ?_; clear T ac; intro ac T
  refine wpList_nil ?_
  replace T := T.pick [0, 1] rfl
  replace M := M.mask [false] rfl
  refine nm_then ?_
  refine wp_ret ?_
  refine rt_then ?_
  refine rt_2 T rfl (T.ev 1 rfl) (T.ev 0 rfl) ?_
  have e9 : shortE b = ([], checkB b) := by unfold shortE; rw [if_neg (by simpa using h1)]
  rw [e9]
  exact LEPost.nil rfl M
 intro h1
 have gb := checkB_good.1 (show checkB b = 0 by simpa using h1)
 have nA5 := gb.lows.1
 have nB5 := gb.highs.1
 refine wp_skip ?_
 refine nm_then ?_
 refine wp_seq ?_
 refine wp_seq ?_
 refine g_start2 M (M.mask [true] rfl) 7 (by kernel_rfl) rfl (by kernel_rfl) ?_
 clear M; intro wc M
 refine gq T 0 1 rfl (fun B w' hD hl hS => (rn_rowO (Mem.nth (show Mem w noEx w' _ from hS) 0 rfl) rfl (T.ev 2 rfl) rfl)) ?_; clear T ac; intro ac T
 refine gq (v := (.pointer (some ⟨g1, 5, none⟩))) T 3 9 rfl (fun _ _ _ _ _ => (rn_fieldAddr (off := 5) rfl (T.ev 3 rfl) (fun _ _ _ => by kernel_rfl))) ?_; clear T ac; intro ac T
 refine gq T 4 25 rfl (fun B w' hD hl hS => (rn_one (Mem.nth (show Mem w noEx w' _ from hS) 0 rfl) rfl (T.ev 0 rfl) rfl)) ?_; clear T ac; intro ac T
 refine gq T 5 57 rfl (fun _ _ _ _ _ => (rn_lenS rfl Try.underlying38 (T.ev 0 rfl))) ?_; clear T ac; intro ac T
 refine gw 1 59 ?_; intro K hK
 refine ow_call (first := []) (cap := []) T rfl rfl rfl rfl evf (.cons (T.ev 3 rfl) (.cons evf .nil)) Try.func68 rfl rfl ?_
 refine Calls.mono (most_always b A c B d _ (SA.rd M (List.nil_sublist _)) (SB.rd M (List.nil_sublist _)) gb) ?_
 clear T
 rintro e wc ⟨Au2, cu2, Iu2, rfl, h5u2, SVu2, N⟩
 intro ac T
 obtain ⟨bu2, ou2, SVu2⟩ := SVu2
 obtain ⟨lmu2, hlmu2⟩ : ∃ q, q = mostP (tableP b) okA b.lows.length b.highs.length := ⟨_, rfl⟩
 rw [← hlmu2] at h5u2 SVu2
 have Su2 := SVu2 w noEx
 replace M := (M.join N).swapI
 replace M : Mem w noEx wc ((g1, .cells [.int .i64 b.first, .int .i64 b.step, .int .i64 b.span, .int .i64 b.press, .int .i64 b.note, .slice A b.lows.length c, .slice B b.highs.length d, .int .i64 b.t0, .int .i64 b.t1, .int .i64 b.r0, .int .i64 b.r1, .int .i64 b.u0, .int .i64 b.u1, .int .i64 b.d0, .int .i64 b.d1, .int .i64 b.a0, .int .i64 b.a1, .int .i64 b.b0, .int .i64 b.b1, .int .i64 b.le, .int .i64 b.me]) :: Iu2) := M
 clear N
 rw [← hlmu2] at T
 refine sh_out hK _ _ (M.perm [0] rfl rfl) ?_; clear hK K
 refine gw 2 63 ?_; intro K hK
 refine ow_call (first := []) (cap := []) T rfl rfl rfl rfl evf (.cons (T.ev 0 rfl) .nil) Try.func70 rfl rfl ?_
 refine Calls.mono (pairs_any _ _ _ lmu2 _ (Su2.rd M (.cons _ (List.Sublist.refl _))) (by omega)) ?_
 clear T
 rintro e wc ⟨rfl, hb⟩
 intro ac T
 replace M := M.call hb; clear hb
 refine sh_out hK _ _ (M.perm [0] rfl rfl) ?_; clear hK K
 refine gq T 6 127 rfl (fun _ _ _ _ _ => (rn_eql rfl (T.ev 0 rfl) (T.ev 2 rfl))) ?_; clear T ac; intro ac T
 refine g_done (by kernel_rfl) ?_
 replace T := T.pick [0, 9] rfl
 refine nm_then ?_
 refine wp_if (T.ev 0 rfl) ?_ ?_
 ·intro h2
  refine wp_seq ?_
  refine wp_region_lit ?_
  refine lq T (rn_assign rfl evc) ?_; clear T ac; intro ac T
  refine lq T (rn_assign rfl evc) ?_; clear T ac; intro ac T
  refine wpList_nil ?_
  replace T := T.pick [0, 1] rfl
  replace M := M.mask [false] rfl
  refine nm_then ?_
  refine wp_ret ?_
  refine rt_then ?_
  refine rt_2 T rfl (T.ev 1 rfl) (T.ev 0 rfl) ?_
  have e9 : shortE b = ([], 11) := by unfold shortE mostL; rw [if_pos (by simpa using h1), ← hlmu2, if_pos (by omega)]
  rw [e9]
  exact LEPost.nil rfl M
 intro h2
 refine wp_skip ?_
 refine nm_then ?_
 refine wp_seq ?_
 refine wp_region_lit ?_
 refine lq T (rn_rowO (Mem.nth M 0 rfl) rfl (T.ev 1 rfl) rfl) ?_; clear T ac; intro ac T
 refine l_w rfl ?_; intro K hK
 refine ow_call (first := []) (cap := []) T rfl rfl rfl rfl evf (.cons (T.ev 0 rfl) .nil) Try.func71 rfl rfl ?_
 refine Calls.mono (table_any b A c B d _ (SA.rd M (List.nil_sublist _)) (SB.rd M (List.nil_sublist _)) gb) ?_
 clear T
 rintro e wc ⟨Au4, cu4, LLu4, Iu4, rfl, hLu4, hSu4, hEu4, N⟩
 intro ac T
 replace M := (M.join N).swapI
 replace M : Mem w noEx wc ((g1, .cells [.int .i64 b.first, .int .i64 b.step, .int .i64 b.span, .int .i64 b.press, .int .i64 b.note, .slice A b.lows.length c, .slice B b.highs.length d, .int .i64 b.t0, .int .i64 b.t1, .int .i64 b.r0, .int .i64 b.r1, .int .i64 b.u0, .int .i64 b.u1, .int .i64 b.d0, .int .i64 b.d1, .int .i64 b.a0, .int .i64 b.a1, .int .i64 b.b0, .int .i64 b.b1, .int .i64 b.le, .int .i64 b.me]) :: (Iu2 ++ Iu4)) := M
 clear N
 refine sh_out hK _ _ ?_; clear hK K
 refine l_w rfl ?_; intro K hK
 refine ow_al M T rfl rfl rfl rfl ?_; clear M T; intro g2 wc ac M T
 refine sh_out hK _ _ ?_; clear hK K
 refine l_w rfl ?_; intro K hK
 refine ow_stO M T rfl rfl (T.ev 0 rfl) (T.ev 1 rfl) rfl .head rfl (by simp) rfl (by kernel_rfl) ?_; clear M T; intro wc ac M T
 refine sh_out hK _ _ ?_; clear hK K
 refine wpList_nil ?_
 replace T := T.pick [0, 4] rfl
 refine nm_then ?_
 refine wp_seq ?_
 refine wp_region_lit ?_
 refine l_w rfl ?_; intro K hK
 refine ow_al M T rfl rfl rfl rfl ?_; clear M T; intro g3 wc ac M T
 refine sh_out hK _ _ ?_; clear hK K
 refine wpList_nil ?_
 refine nm_then ?_
 refine wp_seq ?_
 refine wp_region_lit ?_
 refine l_w rfl ?_; intro K hK
 refine ow_al M T rfl rfl rfl rfl ?_; clear M T; intro g4 wc ac M T
 refine sh_out hK _ _ ?_; clear hK K
 refine wpList_nil ?_
 refine nm_then ?_
 refine wp_seq ?_
 refine wp_region_lit ?_
 refine lq (v := (.func (.func 72) #[] #[.pointer (some ⟨g3, 0, none⟩), .pointer (some ⟨g1, 0, none⟩), .pointer (some ⟨g2, 0, none⟩), .pointer (some ⟨g4, 0, none⟩)])) T (rn_makeFunc rfl .nil (.cons (T.ev 1 rfl) (.cons (T.ev 3 rfl) (.cons (T.ev 2 rfl) (.cons (T.ev 0 rfl) .nil))))) ?_; clear T ac; intro ac T
 refine l_w rfl ?_; intro K hK
 refine ow_stO M T rfl rfl (T.ev 1 rfl) (T.ev 0 rfl) rfl .head rfl (by simp) rfl (by kernel_rfl) ?_; clear M T; intro wc ac M T
 refine sh_out hK _ _ ?_; clear hK K
 refine wpList_nil ?_
 replace T := T.pick [1, 2, 4] rfl
 refine nm_then ?_
 refine wp_seq ?_
 refine wp_seq ?_
 refine wp_region_lit ?_
 refine lq (v := (.pointer (some ⟨g1, 5, none⟩))) T (rn_fieldAddr (off := 5) rfl (T.ev 2 rfl) (fun _ _ _ => by kernel_rfl)) ?_; clear T ac; intro ac T
 refine lq T (rn_one (Mem.nth M 3 rfl) rfl (T.ev 0 rfl) rfl) ?_; clear T ac; intro ac T
 refine lq T (rn_lenS rfl Try.underlying38 (T.ev 0 rfl)) ?_; clear T ac; intro ac T
 refine lq T (rn_add rfl (T.ev 0 rfl) evc (by omega)) ?_; clear T ac; intro ac T
 refine lq T (rn_move rfl evc) ?_; clear T ac; intro ac T
 refine wpList_nil ?_
 replace T := T.pick [0, 1, 5, 6] rfl
 refine nm_then ?_
 refine wp_block ?_
 refine wp_loop_n (fun mz ac wc => ∃ (s : Nat), mz = b.lows.length + 1 - s ∧ (s ≤ b.lows.length + 1) ∧ (sizeF (tableP b) b.lows.length 0 = sizeF (tableP b) b.lows.length s) ∧ Tm ac 40 [(6, .pointer (some ⟨g3, 0, none⟩)), (7, .pointer (some ⟨g4, 0, none⟩)), (27, .int .i64 (((b.lows.length : Nat) : Int) + 1)), (28, .int .i64 (s : Int))] ∧ Mem w noEx wc ((g4, .cells [.func (.func 72) #[] #[.pointer (some ⟨g3, 0, none⟩), .pointer (some ⟨g1, 0, none⟩), .pointer (some ⟨g2, 0, none⟩), .pointer (some ⟨g4, 0, none⟩)]]) :: (g3, .cells [.slice none 0 0]) :: (g2, .cells [.slice Au4 LLu4.length cu4]) :: (g1, .cells [.int .i64 b.first, .int .i64 b.step, .int .i64 b.span, .int .i64 b.press, .int .i64 b.note, .slice A b.lows.length c, .slice B b.highs.length d, .int .i64 b.t0, .int .i64 b.t1, .int .i64 b.r0, .int .i64 b.r1, .int .i64 b.u0, .int .i64 b.u1, .int .i64 b.d0, .int .i64 b.d1, .int .i64 b.a0, .int .i64 b.a1, .int .i64 b.b0, .int .i64 b.b1, .int .i64 b.le, .int .i64 b.me]) :: (Iu2 ++ Iu4))) ?_ ?_
 ·exact ⟨_, 0, rfl, (by omega), rfl, T.pick [3, 2, 1, 0] rfl, M.mask [true, true, true, true] rfl⟩
 clear T M
 rintro mz ac wc ⟨s, hmm1, hs, H, T, M⟩
 refine wp_seq ?_
 refine wp_region_lit ?_
 refine lq T (rn_lss rfl (T.ev 3 rfl) (T.ev 2 rfl)) ?_; clear T ac; intro ac T
 refine wpList_nil ?_
 refine nm_then ?_
 refine wp_seq ?_
 refine wp_if (T.ev 0 rfl) ?_ ?_
 ·intro h3
  refine wp_skip ?_
  refine nm_then ?_
  refine wp_seq ?_
  refine wp_block ?_
  refine wp_seq ?_
  refine wp_region_lit ?_
  refine lq T (rn_move rfl (T.ev 4 rfl)) ?_; clear T ac; intro ac T
  refine lq T (rn_assign rfl (T.ev 0 rfl)) ?_; clear T ac; intro ac T
  refine wpList_nil ?_
  replace T := T.pick [0, 3, 4, 5, 6] rfl
  refine nm_then ?_
  refine wp_seq ?_
  refine wp_region_lit ?_
  refine lq T (rn_move rfl (T.ev 0 rfl)) ?_; clear T ac; intro ac T
  refine lq T (rn_gtr rfl (T.ev 0 rfl) evc) ?_; clear T ac; intro ac T
  refine lq T (rn_move rfl (T.ev 0 rfl)) ?_; clear T ac; intro ac T
  rcases Bool.eq_false_or_eq_true (decide (0 < (s : Int))) with h4 | h4
  ·replace h4 := of_decide_eq_true h4
   refine lw T (wanted_yes rfl rfl (T.ev 0 rfl) (decide_eq_true h4)) (rn_one (Mem.nth M 0 rfl) rfl (T.ev 5 rfl) rfl) ?_; clear T ac; intro ac T
   refine lw T (wanted_yes rfl rfl (T.ev 1 rfl) (decide_eq_true h4)) (rn_move rfl (T.ev 4 rfl)) ?_; clear T ac; intro ac T
   refine l_w (wanted_yes rfl rfl (T.ev 2 rfl) (decide_eq_true h4)) ?_; intro K hK
   have Mq : Mem w noEx wc ([(g3, .cells [.slice none 0 0])] ++ ((g4, .cells [.func (.func 72) #[] #[.pointer (some ⟨g3, 0, none⟩), .pointer (some ⟨g1, 0, none⟩), .pointer (some ⟨g2, 0, none⟩), .pointer (some ⟨g4, 0, none⟩)]]) :: (g2, .cells [.slice Au4 LLu4.length cu4]) :: (g1, .cells [.int .i64 b.first, .int .i64 b.step, .int .i64 b.span, .int .i64 b.press, .int .i64 b.note, .slice A b.lows.length c, .slice B b.highs.length d, .int .i64 b.t0, .int .i64 b.t1, .int .i64 b.r0, .int .i64 b.r1, .int .i64 b.u0, .int .i64 b.u1, .int .i64 b.d0, .int .i64 b.d1, .int .i64 b.a0, .int .i64 b.a1, .int .i64 b.b0, .int .i64 b.b1, .int .i64 b.le, .int .i64 b.me]) :: (Iu2 ++ Iu4))) := M.permT [1, 0, 2, 3] 4 rfl rfl rfl rfl
   have gx : SEnv (⟨g3, g1, g2, g4, b, A, c, B, d, Au4, cu4, LLu4⟩ : SE) wc (inL [(g3, .cells [.slice none 0 0])]) := ⟨Old.of Mq (fun _ h => h) (nthE_mem (i := 2) rfl), Old.of Mq (fun _ h => h) (nthE_mem (i := 1) rfl), Old.of Mq (fun _ h => h) (nthE_mem (i := 0) rfl), (by obtain ⟨b9, o9, h9⟩ := hSu4; exact ⟨b9, o9, Sp.of Mq (fun _ h => h) (h9 w noEx) (.cons _ (.cons _ (.cons _ (List.sublist_append_right _ _))))⟩), fun x hx => (by obtain ⟨b9, o9, h9⟩ := hEu4 x hx; exact ⟨b9, o9, Sp.of Mq (fun _ h => h) (h9 w noEx) (.cons _ (.cons _ (.cons _ (List.sublist_append_right _ _))))⟩)⟩
   have My : Mem w noEx wc [(g3, .cells [.slice none 0 0])] := Mq.sub (List.sublist_append_left _ _)
   refine ow_call (first := []) (cap := [.pointer (some ⟨g3, 0, none⟩), .pointer (some ⟨g1, 0, none⟩), .pointer (some ⟨g2, 0, none⟩), .pointer (some ⟨g4, 0, none⟩)]) T rfl rfl rfl rfl (T.ev 1 rfl) (.cons evc (.cons evc (.cons (T.ev 0 rfl) (.cons evc .nil)))) Try.func72 rfl rfl ?_
   refine Calls.mono (found_any (⟨g3, g1, g2, g4, b, A, c, B, d, Au4, cu4, LLu4⟩ : SE) (tableP b) hLu4 (tableP_len b).1 (fun x hx => by rw [(tableP_len b).2 x hx]; exact nB5) nA5 s wc _ [] none 0 0 0 _ 0 0 [] rfl (by simp; omega) rfl rfl (by omega) (by omega) ⟨0, 0, fun _ _ => Sp.nil⟩ gx My.rebase) ?_
   clear T
   rintro e wc ⟨Au5, nu5, cu5, Iu5, rfl, hfsu5, N⟩
   intro ac T
   replace M := Mem.spin [(g3, .cells [.slice Au5 nu5 cu5])] Iu5 ((g4, .cells [.func (.func 72) #[] #[.pointer (some ⟨g3, 0, none⟩), .pointer (some ⟨g1, 0, none⟩), .pointer (some ⟨g2, 0, none⟩), .pointer (some ⟨g4, 0, none⟩)]]) :: (g2, .cells [.slice Au4 LLu4.length cu4]) :: (g1, .cells [.int .i64 b.first, .int .i64 b.step, .int .i64 b.span, .int .i64 b.press, .int .i64 b.note, .slice A b.lows.length c, .slice B b.highs.length d, .int .i64 b.t0, .int .i64 b.t1, .int .i64 b.r0, .int .i64 b.r1, .int .i64 b.u0, .int .i64 b.u1, .int .i64 b.d0, .int .i64 b.d1, .int .i64 b.a0, .int .i64 b.a1, .int .i64 b.b0, .int .i64 b.b1, .int .i64 b.le, .int .i64 b.me]) :: (Iu2 ++ Iu4)) (Mem.joinX (X := [(g3, .cells [.slice none 0 0])]) (F := ((g4, .cells [.func (.func 72) #[] #[.pointer (some ⟨g3, 0, none⟩), .pointer (some ⟨g1, 0, none⟩), .pointer (some ⟨g2, 0, none⟩), .pointer (some ⟨g4, 0, none⟩)]]) :: (g2, .cells [.slice Au4 LLu4.length cu4]) :: (g1, .cells [.int .i64 b.first, .int .i64 b.step, .int .i64 b.span, .int .i64 b.press, .int .i64 b.note, .slice A b.lows.length c, .slice B b.highs.length d, .int .i64 b.t0, .int .i64 b.t1, .int .i64 b.r0, .int .i64 b.r1, .int .i64 b.u0, .int .i64 b.u1, .int .i64 b.d0, .int .i64 b.d1, .int .i64 b.a0, .int .i64 b.a1, .int .i64 b.b0, .int .i64 b.b1, .int .i64 b.le, .int .i64 b.me]) :: (Iu2 ++ Iu4))) Mq N (fun b h => h))
   clear N Mq My gx
   replace M : Mem w noEx wc ((g3, .cells [.slice Au5 nu5 cu5]) :: (g4, .cells [.func (.func 72) #[] #[.pointer (some ⟨g3, 0, none⟩), .pointer (some ⟨g1, 0, none⟩), .pointer (some ⟨g2, 0, none⟩), .pointer (some ⟨g4, 0, none⟩)]]) :: (g2, .cells [.slice Au4 LLu4.length cu4]) :: (g1, .cells [.int .i64 b.first, .int .i64 b.step, .int .i64 b.span, .int .i64 b.press, .int .i64 b.note, .slice A b.lows.length c, .slice B b.highs.length d, .int .i64 b.t0, .int .i64 b.t1, .int .i64 b.r0, .int .i64 b.r1, .int .i64 b.u0, .int .i64 b.u1, .int .i64 b.d0, .int .i64 b.d1, .int .i64 b.a0, .int .i64 b.a1, .int .i64 b.b0, .int .i64 b.b1, .int .i64 b.le, .int .i64 b.me]) :: (Iu2 ++ Iu4 ++ Iu5)) := M
   refine sh_out hK _ _ ?_; clear hK K
   refine lq T (rn_pick1 rfl (T.ev 3 rfl) (decide_eq_true h4) (T.ev 0 rfl)) ?_; clear T ac; intro ac T
   refine wpList_nil ?_
   replace T := T.pick [0, 1, 2, 3, 8, 9, 10, 11] rfl
   refine nm_then ?_
   refine wp_cond_split (T.ev 0 rfl) ?_ ?_
   ·intro h5
    refine wp_exit ?_
    refine ex_miss rfl ?_
    refine ex_then ?_
    refine ex_then ?_
    refine ex_hit ?_
    refine nm_then ?_
    refine wp_seq ?_
    refine wp_region_lit ?_
    refine lq T (rn_one (Mem.nth M 0 rfl) rfl (T.ev 4 rfl) rfl) ?_; clear T ac; intro ac T
    refine lq T (rn_assign rfl (T.ev 0 rfl)) ?_; clear T ac; intro ac T
    refine lq T (rn_assign rfl evc) ?_; clear T ac; intro ac T
    refine wpList_nil ?_
    replace T := T.pick [0, 1] rfl
    replace M := M.mask [false, false, false, false] rfl
    refine nm_then ?_
    refine wp_ret ?_
    refine rt_2 T rfl (T.ev 1 rfl) (T.ev 0 rfl) ?_
    have e9 : shortE b = ((shortP (tableP b) b.lows.length s [] 0 0).getD [], 0) := by unfold shortE mostL; rw [if_pos (by simpa using h1), ← hlmu2, if_neg (by omega), H, sizeF_some (n := b.lows.length) (by omega) (by omega) h5]
    rw [e9]
    obtain ⟨hn1, hn2⟩ := hfsu5.len
    have hsp := hfsu5.sp
    subst hn1
    exact ⟨Au5, cu5, Iu5, rfl, Nat.le_trans hn2 (by omega), hsp, M.sub ((List.sublist_append_right _ _))⟩
   intro h5
   refine wp_skip ?_
   refine nm_blk ?_
   refine nm_then ?_
   refine wp_region_lit ?_
   refine lq T (rn_add rfl (T.ev 7 rfl) evc (by omega)) ?_; clear T ac; intro ac T
   refine l_q (v := (.int .i64 ((s : Int) + 1))) (T.pick [0, 1, 2, 3, 4, 5, 6, 7] rfl) rfl rfl rfl rfl (rn_move rfl (T.ev 0 rfl)) ?_; clear T ac; intro ac T
   refine wpList_nil ?_
   replace T := T.pick [0, 3, 4, 5, 6, 7, 8] rfl
   refine nm_then ?_
   have hno := hfsu5.none h5
   obtain ⟨rfl, rfl, rfl, rfl⟩ := hno
   rw [List.append_nil] at M
   replace M : Mem w noEx wc ((g3, .cells [.slice none 0 0]) :: (g4, .cells [.func (.func 72) #[] #[.pointer (some ⟨g3, 0, none⟩), .pointer (some ⟨g1, 0, none⟩), .pointer (some ⟨g2, 0, none⟩), .pointer (some ⟨g4, 0, none⟩)]]) :: (g2, .cells [.slice Au4 LLu4.length cu4]) :: (g1, .cells [.int .i64 b.first, .int .i64 b.step, .int .i64 b.span, .int .i64 b.press, .int .i64 b.note, .slice A b.lows.length c, .slice B b.highs.length d, .int .i64 b.t0, .int .i64 b.t1, .int .i64 b.r0, .int .i64 b.r1, .int .i64 b.u0, .int .i64 b.u1, .int .i64 b.d0, .int .i64 b.d1, .int .i64 b.a0, .int .i64 b.a1, .int .i64 b.b0, .int .i64 b.b1, .int .i64 b.le, .int .i64 b.me]) :: (Iu2 ++ Iu4)) := M
   exact ⟨_, by omega, s + 1, rfl, (by omega), (by rw [H]; exact sizeF_none (n := b.lows.length) (by omega) (by omega) h5), T.pick [4, 5, 6, 0] rfl, M.permT [1, 0, 2, 3] 4 rfl rfl rfl rfl⟩
  replace h4 := of_decide_eq_false h4
  refine lp T (wanted_no rfl rfl (T.ev 0 rfl) (decide_eq_false h4)) ?_; clear T ac; intro ac T
  refine lp T (wanted_no rfl rfl (T.ev 1 rfl) (decide_eq_false h4)) ?_; clear T ac; intro ac T
  refine lp T (wanted_no rfl rfl (T.ev 2 rfl) (decide_eq_false h4)) ?_; clear T ac; intro ac T
  refine lq T (rn_pick0 rfl (T.ev 3 rfl) (decide_eq_false h4) evc) ?_; clear T ac; intro ac T
  refine wpList_nil ?_
  replace T := T.pick [0, 1, 2, 3, 8, 9, 10, 11] rfl
  refine nm_then ?_
  refine wp_cond_false (T.ev 0 rfl) ?_
  refine wp_skip ?_
  refine nm_blk ?_
  refine nm_then ?_
  refine wp_region_lit ?_
  refine lq T (rn_add rfl (T.ev 7 rfl) evc (by omega)) ?_; clear T ac; intro ac T
  refine l_q (v := (.int .i64 ((s : Int) + 1))) (T.pick [0, 1, 2, 3, 4, 5, 6, 7] rfl) rfl rfl rfl rfl (rn_move rfl (T.ev 0 rfl)) ?_; clear T ac; intro ac T
  refine wpList_nil ?_
  replace T := T.pick [0, 3, 4, 5, 6, 7, 8] rfl
  refine nm_then ?_
  exact ⟨_, by omega, s + 1, rfl, (by omega), (by rw [H]; obtain rfl : s = 0 := (by omega); exact sizeF_zero _ _), T.pick [4, 5, 6, 0] rfl, M.permT [0, 1, 2, 3] 4 rfl rfl rfl rfl⟩
 intro h3
 refine wp_exit ?_
 refine ex_then ?_
 refine ex_then ?_
 refine ex_hit ?_
 refine nm_then ?_
 refine wp_seq ?_
 refine wp_region_lit ?_
 refine lq T (rn_one (Mem.nth M 1 rfl) rfl (T.ev 1 rfl) rfl) ?_; clear T ac; intro ac T
 refine lq T (rn_assign rfl (T.ev 0 rfl)) ?_; clear T ac; intro ac T
 refine lq T (rn_assign rfl evc) ?_; clear T ac; intro ac T
 refine wpList_nil ?_
 replace T := T.pick [0, 1] rfl
 replace M := M.mask [false, false, false, false] rfl
 refine nm_then ?_
 refine wp_ret ?_
 refine rt_2 T rfl (T.ev 1 rfl) (T.ev 0 rfl) ?_
 have e9 : shortE b = ([], 0) := by unfold shortE mostL; rw [if_pos (by simpa using h1), ← hlmu2, if_neg (by omega), H, sizeF_end (by omega)]; rfl
 rw [e9]
 exact LEPost.nil rfl M
end Go.Proofs.Ytlahdenlmmlplaa
end

section
/-
 voice: scales and registers.
-/
namespace Go.Proofs.Ytlahdenlmmlplaa
set_option linter.unusedSimpArgs false
set_option linter.unusedVariables false
open Go.RowKit
abbrev LS := List Snd × Option Addr × Nat
def lsC (l : List LS) : List Value := l.map fun x => .slice x.2.1 x.1.length x.2.2
theorem lsC_length (l : List LS) : (lsC l).length = l.length := by simp [lsC]
theorem Sp.ls0 {w w' : World} {ex : Nat → Prop} {I L : List (Nat × BA)} {A : Option Addr} {n b o k : Nat} {r : List LS} {x : List Snd} {B : Option Addr} {c : Nat} (S : Sp w ex I A n 1 b o (lsC r)) (M : Mem w ex w' L) (hI : I.Sublist L) (h : r[k]? = some (x, B, c)) : w'.cell? ⟨b, o + k * 1, none⟩ = some (.slice B x.length c) := by
 rw [Nat.mul_one]
 exact S.cell w' L M hI k _ (by unfold lsC; rw [List.getElem?_map, h]; rfl)
abbrev rowsOf (l : List LS) : List (List Snd) := l.map (·.1)
def ElsS (w : World) (l : List LS) : Prop := ∀ x ∈ l, Rd w w.heap.size 4 x.2.1 x.1.length (sc x.1)
def notesP (R : List (List Snd)) : Nat := (R.headD []).length
theorem notesP_at {LL : List LS} {x : List Snd} {B : Option Addr} {d : Nat} (h : LL[0]? = some (x, B, d)) : notesP (rowsOf LL) = x.length := by
 cases LL with
 | nil => simp at h
 | cons y r =>
   simp at h
   subst h
   rfl
def rowsE (n : Nat) : List (List Snd) → Int
 | [] => 0
 | x :: r => if 6 < x.length then 6 else if x.length ≠ n then 2 else if sndsE x 6 ≠ 0 then sndsE x 6 else rowsE n r
def dueO (l : Lw) (n : Nat) : Bool := decide (0 ≤ l.first + l.step * (n : Int) ∧ l.first + l.step * (n : Int) ≤ 30)
def checkS (l : Lw) (R : List (List Snd)) : Int :=
 if lawE l ≠ 0 then lawE l else if 4 < R.length then 6 else if rowsE (notesP R) R ≠ 0 then rowsE (notesP R) R else if (List.range (notesP R)).all (dueO l) = true then 0 else 1
theorem rowsE_good : ∀ {n : Nat} {R : List (List Snd)}, rowsE n R = 0 → ∀ x ∈ R, x.length ≤ 6 ∧ x.length = n ∧ ∀ y ∈ x, y.good
 | n, [], _, x, hx => by cases hx
 | n, a :: r, h, x, hx => by
   unfold rowsE at h
   split at h
   · contradiction
   · split at h
     · contradiction
     · split at h
       · contradiction
       · rename_i h1 h2 h3
         rcases List.mem_cons.1 hx with rfl | hx
         · exact ⟨by omega, by simpa using h2, (sndsE_good (by simpa using h3)).2⟩
         · exact rowsE_good h x hx
theorem good_rowsE : ∀ {n : Nat} {R : List (List Snd)}, (∀ x ∈ R, x.length ≤ 6 ∧ x.length = n ∧ ∀ y ∈ x, y.good) → rowsE n R = 0
 | n, [], _ => rfl
 | n, a :: r, h => by
   obtain ⟨h1, h2, h3⟩ := h a List.mem_cons_self
   unfold rowsE
   rw [if_neg (by omega), if_neg (by simpa using h2), if_neg (by rw [good_sndsE (by omega) h3]; simp)]
   exact good_rowsE fun x hx => h x (List.mem_cons_of_mem _ hx)
structure SGood (l : Lw) (R : List (List Snd)) : Prop where
 law : l.good
 len : R.length ≤ 4
 rows : ∀ x ∈ R, x.length ≤ 6 ∧ x.length = notesP R ∧ ∀ y ∈ x, y.good
 dues : ∀ n, n < notesP R → dueO l n = true
theorem SGood.notes {l : Lw} {R : List (List Snd)} (h : SGood l R) : notesP R ≤ 6 := by
 cases R with
 | nil => simp [notesP]
 | cons a r => exact (h.rows a List.mem_cons_self).1
theorem checkS_good {l : Lw} {R : List (List Snd)} : checkS l R = 0 ↔ SGood l R := by
 unfold checkS
 constructor
 · intro h
   split at h
   · contradiction
   · split at h
     · contradiction
     · split at h
       · contradiction
       · split at h
         · rename_i h1 h2 h3 h4
           simp only [ne_eq, Decidable.not_not] at h1 h3
           exact ⟨lawE_good h1, by omega, rowsE_good h3, fun n hn => List.all_eq_true.1 h4 n (List.mem_range.2 hn)⟩
         · contradiction
 · rintro ⟨h1, h2, h3, h4⟩
   rw [if_neg (by simp [good_lawE h1]), if_neg (by omega), if_neg (by simp [good_rowsE h3]), if_pos]
   exact List.all_eq_true.2 fun n hn => h4 n (List.mem_range.1 hn)
def leO : Option Int → Int → Bool
 | none, _ => false
 | some q, r => decide (r ≤ q)
def regE (n : Int) : Option Int → List Int → Int
 | _, [] => 0
 | p, r :: rs => if ¬ (0 ≤ r ∧ r ≤ n - 1) then 3 else if leO p r = true then 5 else regE n (some r) rs
def prevO (g : List Int) (i : Nat) : Option Int := if i = 0 then none else g[i - 1]?
theorem prevO_le {g : List Int} {i : Nat} {r rp : Int} (hi : i ≤ g.length) (hr : rp = g.getD (i - 1) 0) : leO (prevO g i) r = (decide (0 < (i : Int)) && decide (r ≤ rp)) := by
 unfold prevO
 rcases Nat.eq_zero_or_pos i with rfl | h
 · simp [leO]
 · rw [if_neg (by omega), List.getElem?_eq_getElem (by omega)]
   rw [List.getD_eq_getElem?_getD, List.getElem?_eq_getElem (by omega)] at hr
   have hr : rp = g[i - 1] := hr
   simp only [leO, ← hr]
   rw [decide_eq_true (by omega : 0 < (i : Int)), Bool.true_and]
def checkR (l : Lw) (R : List (List Snd)) (g : List Int) : Int := if checkS l R ≠ 0 then checkS l R else regE R.length none g
theorem regE_good : ∀ {n : Int} {p : Option Int} {g : List Int}, regE n p g = 0 → ∀ r ∈ g, 0 ≤ r ∧ r < n
 | n, p, [], _, r, hr => by cases hr
 | n, p, a :: g, h, r, hr => by
   unfold regE at h
   split at h
   · contradiction
   · split at h
     · contradiction
     · rename_i h1 _
       rcases List.mem_cons.1 hr with rfl | hr
       · omega
       · exact regE_good h r hr
theorem checkR_good {l : Lw} {R : List (List Snd)} {g : List Int} (h : checkR l R g = 0) : SGood l R ∧ ∀ r ∈ g, 0 ≤ r ∧ r < R.length := by
 unfold checkR at h
 split at h
 · contradiction
 · rename_i h1
   exact ⟨checkS_good.1 (by simpa using h1), regE_good h⟩
def voiceP (R : List (List Snd)) (n : Nat) (r : Int) : Snd := (R.getD r.toNat []).getD n ⟨0, 0, 0, 0⟩
def voicesP (R : List (List Snd)) (g : List Int) (n : Nat) : List Snd := g.map (voiceP R n)
theorem voiceP_at {LL : List LS} {x : List Snd} {B : Option Addr} {d rk n : Nat} {r : Int} {y : Snd} (h : LL[rk]? = some (x, B, d)) (hr : r = (rk : Nat)) (hy : x[n]? = some y) : voiceP (rowsOf LL) n r = y := by
 subst hr
 unfold voiceP
 rw [List.getD_eq_getElem?_getD (l := rowsOf LL), Int.toNat_natCast, List.getElem?_map, h]
 show x.getD n _ = y
 rw [List.getD_eq_getElem?_getD, hy]
 rfl
theorem voicesP_take {R : List (List Snd)} {g : List Int} {n k : Nat} {r : Int} (h : g[k]? = some r) : voicesP R (g.take (k + 1)) n = voicesP R (g.take k) n ++ [voiceP R n r] := by
 rw [List.take_add_one, h]
 simp [voicesP]
def VoicesPost (l : List Snd) (w : World) (e : Ending) (w' : World) : Prop := ∃ (A : Option Addr) (c : Nat) (I : List (Nat × BA)), e = .returned (.slice A l.length c) ∧ (∃ b o, ∀ (w : World) (ex : Nat → Prop), Sp w ex I A l.length 4 b o (sc l)) ∧ Mem w noEx w' I
theorem Try.info48 : (Try.prog.info? 48).map (fun i => (i.zero, i.size, i.bytes)) = some (some (.agg #[.int .i64 0, .int .i64 0, .int .i64 0, .int .i64 0]), 4, 32) := by kernel_rfl
def tremP (l : Lw) (R : List (List Snd)) (g : List Int) : List Int := (List.range (notesP R)).map fun (n : Nat) => keepsP l (l.first + l.step * (n : Int)) (voicesP R g n)
theorem notes_any (l : Lw) (A : Option Addr) (c : Nat) (LL : List LS)  (w : World) (hA : Rd w w.heap.size 1 A LL.length (lsC LL)) (hE : ElsS w LL) (nL : LL.length ≤ 1000000) (nE : ∀ x ∈ LL, x.1.length ≤ 1000000)  :
   Calls Try.prog 54 #[.agg #[.int .i64 l.first, .int .i64 l.step, .int .i64 l.span, .int .i64 l.press, .slice A LL.length c]] w fun e w' => e = .returned (.int .i64 ((notesP (rowsOf LL) : Nat) : Int)) ∧ Below w.heap.size w w' := by
 obtain ⟨bA, oA, SA⟩ := Sp.old hA
 refine px_enter noEx Try.func54 rfl 12 rfl [.agg #[.int .i64 l.first, .int .i64 l.step, .int .i64 l.span, .int .i64 l.press, .slice A LL.length c]] rfl rfl (Mem.init w _) ?_
 intro ac wc T M
 refine wp_seq ?_
 refine wp_region_lit ?_
 refine l_w rfl ?_; intro K hK
 refine ow_bx M T rfl rfl rfl rfl (T.ev 0 rfl) rfl ?_; clear M T; intro g1 wc ac M T
 refine sh_out hK _ _ ?_; clear hK K
 refine lq T (rn_assign rfl evc) ?_; clear T ac; intro ac T
 refine wpList_nil ?_
 replace T := T.pick [1] rfl
 refine nm_then ?_
 refine wp_seq ?_
 refine wp_seq ?_
 refine wp_region_lit ?_
 refine lq (v := (.pointer (some ⟨g1, 4, none⟩))) T (rn_fieldAddr (off := 4) rfl (T.ev 0 rfl) (fun _ _ _ => by kernel_rfl)) ?_; clear T ac; intro ac T
 refine lq T (rn_one (Mem.nth M 0 rfl) rfl (T.ev 0 rfl) rfl) ?_; clear T ac; intro ac T
 refine lq T (rn_lenS rfl Try.underlying27 (T.ev 0 rfl)) ?_; clear T ac; intro ac T
 refine lq T (rn_eql rfl (T.ev 0 rfl) evc) ?_; clear T ac; intro ac T
 refine wpList_nil ?_
 replace T := T.pick [0, 4] rfl
 refine nm_then ?_
 refine wp_if (T.ev 0 rfl) ?_ ?_
 ·intro h1
  refine wp_seq ?_
  refine wp_region_lit ?_
  refine lq T (rn_assign rfl evc) ?_; clear T ac; intro ac T
  refine wpList_nil ?_
  replace T := T.pick [0] rfl
  replace M := M.mask [false] rfl
  refine nm_then ?_
  refine wp_ret ?_
  refine rt_then ?_
  refine rt_1 T rfl (T.ev 0 rfl) ?_
  exact ⟨ret_int (by rw [List.eq_nil_of_length_eq_zero (l := LL) (by omega)]; rfl), M.below⟩
 intro h1
 obtain ⟨⟨x0, B0, d0⟩, hk0⟩ : ∃ x, LL[0]? = some x := ⟨_, List.getElem?_eq_getElem (by omega)⟩
 obtain ⟨bs0, os0, Ss0⟩ := Sp.old (hE _ (List.mem_of_getElem? hk0))
 dsimp only at Ss0
 have nx0 := nE _ (List.mem_of_getElem? hk0)
 dsimp only at nx0
 refine wp_skip ?_
 refine nm_then ?_
 refine wp_seq ?_
 refine wp_region_lit ?_
 refine lq (v := (.pointer (some ⟨g1, 4, none⟩))) T (rn_fieldAddr (off := 4) rfl (T.ev 1 rfl) (fun _ _ _ => by kernel_rfl)) ?_; clear T ac; intro ac T
 refine lq T (rn_one (Mem.nth M 0 rfl) rfl (T.ev 0 rfl) rfl) ?_; clear T ac; intro ac T
 refine lq T (rn_indexAddr (size := 1) 0 rfl (T.ev 0 rfl) evc ⟨_, Try.underlying27, by kernel_rfl⟩ rfl (by omega) (SA.at0 (by omega))) ?_; clear T ac; intro ac T
 refine lq (v := (.slice B0 x0.length d0)) T (rn_cell (Sp.ls0 SA M (List.nil_sublist _) hk0) rfl (T.ev 0 rfl)) ?_; clear T ac; intro ac T
 refine lq T (rn_lenS rfl Try.underlying38 (T.ev 0 rfl)) ?_; clear T ac; intro ac T
 refine lq T (rn_assign rfl (T.ev 0 rfl)) ?_; clear T ac; intro ac T
 refine wpList_nil ?_
 replace T := T.pick [0] rfl
 replace M := M.mask [false] rfl
 refine nm_then ?_
 refine wp_ret ?_
 refine rt_1 T rfl (T.ev 0 rfl) ?_
 exact ⟨ret_int (by rw [notesP_at hk0]), M.below⟩
theorem checkScale_any (l : Lw) (A : Option Addr) (c : Nat) (LL : List LS)  (w : World) (hA : Rd w w.heap.size 1 A LL.length (lsC LL)) (hE : ElsS w LL) (nL : LL.length ≤ 1000000) (nE : ∀ x ∈ LL, x.1.length ≤ 1000000)  :
   Calls Try.prog 89 #[.agg #[.int .i64 l.first, .int .i64 l.step, .int .i64 l.span, .int .i64 l.press, .slice A LL.length c]] w fun e w' => e = .returned (.int .i64 (checkS l (rowsOf LL))) ∧ Below w.heap.size w w' := by
 obtain ⟨bA, oA, SA⟩ := Sp.old hA
 refine px_enter noEx Try.func89 rfl 51 rfl [.agg #[.int .i64 l.first, .int .i64 l.step, .int .i64 l.span, .int .i64 l.press, .slice A LL.length c]] rfl rfl (Mem.init w _) ?_
 intro ac wc T M
 refine wp_seq ?_
 refine wp_region_lit ?_
 refine l_w rfl ?_; intro K hK
 refine ow_bx M T rfl rfl rfl rfl (T.ev 0 rfl) rfl ?_; clear M T; intro g1 wc ac M T
 refine sh_out hK _ _ ?_; clear hK K
 refine lq T (rn_assign rfl evc) ?_; clear T ac; intro ac T
 refine wpList_nil ?_
 replace T := T.pick [1] rfl
 refine nm_then ?_
 refine wp_seq ?_
 refine wp_seq ?_
 refine wp_region_lit ?_
 refine lq (v := (.pointer (some ⟨g1, 0, none⟩))) T (rn_fieldAddr (off := 0) rfl (T.ev 0 rfl) (fun _ _ _ => by kernel_rfl)) ?_; clear T ac; intro ac T
 refine lq T (rn_rowO (Mem.nth M 0 rfl) rfl (T.ev 0 rfl) rfl) ?_; clear T ac; intro ac T
 refine l_w rfl ?_; intro K hK
 refine ow_call (first := []) (cap := []) T rfl rfl rfl rfl evf (.cons (T.ev 0 rfl) .nil) Try.func79 rfl rfl ?_
 refine Calls.mono (checkLaw_any l _) ?_
 clear T
 rintro e wc ⟨rfl, hb⟩
 intro ac T
 replace M := M.call hb; clear hb
 refine sh_out hK _ _ ?_; clear hK K
 refine lq T (rn_assign rfl (T.ev 0 rfl)) ?_; clear T ac; intro ac T
 refine wpList_nil ?_
 replace T := T.pick [0, 4] rfl
 refine nm_then ?_
 refine wp_seq ?_
 refine wp_region_lit ?_
 refine lq T (rn_move rfl (T.ev 0 rfl)) ?_; clear T ac; intro ac T
 refine lq T (rn_neq rfl (T.ev 0 rfl) evc) ?_; clear T ac; intro ac T
 refine wpList_nil ?_
 replace T := T.pick [0, 2, 3] rfl
 refine nm_then ?_
 refine wp_ifn (T.ev 0 rfl) ?_ ?_
 ·intro h1
  refine wp_seq ?_
  refine wp_region_lit ?_
  refine lq T (rn_move rfl (T.ev 1 rfl)) ?_; clear T ac; intro ac T
  refine lq T (rn_assign rfl (T.ev 0 rfl)) ?_; clear T ac; intro ac T
  refine wpList_nil ?_
  replace T := T.pick [0] rfl
  replace M := M.mask [false] rfl
  refine nm_then ?_
  refine wp_ret ?_
  refine rt_then ?_
  refine rt_1 T rfl (T.ev 0 rfl) ?_
  refine ⟨ret_int ?_, M.below⟩
  unfold checkS
  rw [if_pos (by assumption)]
 intro h1
 have gl := lawE_good (l := l) (by simpa using h1)
 obtain ⟨gl1, gl2, gl3, gl4⟩ := gl
 refine wp_skip ?_
 refine nm_then ?_
 refine wp_seq ?_
 refine wp_seq ?_
 refine wp_region_lit ?_
 refine lq (v := (.pointer (some ⟨g1, 4, none⟩))) T (rn_fieldAddr (off := 4) rfl (T.ev 2 rfl) (fun _ _ _ => by kernel_rfl)) ?_; clear T ac; intro ac T
 refine lq T (rn_one (Mem.nth M 0 rfl) rfl (T.ev 0 rfl) rfl) ?_; clear T ac; intro ac T
 refine lq T (rn_lenS rfl Try.underlying27 (T.ev 0 rfl)) ?_; clear T ac; intro ac T
 refine lq T (rn_gtr rfl (T.ev 0 rfl) evc) ?_; clear T ac; intro ac T
 refine wpList_nil ?_
 replace T := T.pick [0, 6] rfl
 refine nm_then ?_
 refine wp_if (T.ev 0 rfl) ?_ ?_
 ·intro h2
  refine wp_seq ?_
  refine wp_region_lit ?_
  refine lq T (rn_assign rfl evc) ?_; clear T ac; intro ac T
  refine wpList_nil ?_
  replace T := T.pick [0] rfl
  replace M := M.mask [false] rfl
  refine nm_then ?_
  refine wp_ret ?_
  refine rt_then ?_
  refine rt_1 T rfl (T.ev 0 rfl) ?_
  refine ⟨ret_int ?_, M.below⟩
  unfold checkS
  rw [if_neg (by simp_all), if_pos (by simp; omega)]
 intro h2
 refine wp_skip ?_
 refine nm_then ?_
 refine wp_seq ?_
 refine wp_seq ?_
 refine wp_region_lit ?_
 refine lq (v := (.pointer (some ⟨g1, 4, none⟩))) T (rn_fieldAddr (off := 4) rfl (T.ev 1 rfl) (fun _ _ _ => by kernel_rfl)) ?_; clear T ac; intro ac T
 refine lq T (rn_one (Mem.nth M 0 rfl) rfl (T.ev 0 rfl) rfl) ?_; clear T ac; intro ac T
 refine lq T (rn_lenS rfl Try.underlying27 (T.ev 0 rfl)) ?_; clear T ac; intro ac T
 refine lq T (rn_move rfl evc) ?_; clear T ac; intro ac T
 refine wpList_nil ?_
 replace T := T.pick [0, 1, 2, 5] rfl
 refine nm_then ?_
 refine wp_block ?_
 refine wp_loop_n (fun mz ac wc => ∃ (k : Nat), mz = LL.length - k ∧ (k ≤ LL.length) ∧ (rowsE (notesP (rowsOf LL)) (rowsOf LL) = rowsE (notesP (rowsOf LL)) (rowsOf (LL.drop k))) ∧ Tm ac 51 [(1, .pointer (some ⟨g1, 0, none⟩)), (19, .slice A LL.length c), (20, .int .i64 ((LL.length : Nat) : Int)), (21, .int .i64 (k : Int))] ∧ Mem w noEx wc [(g1, .cells [.int .i64 l.first, .int .i64 l.step, .int .i64 l.span, .int .i64 l.press, .slice A LL.length c])]) ?_ ?_
 ·exact ⟨_, 0, rfl, (by omega), rfl, T.pick [3, 2, 1, 0] rfl, M.mask [true] rfl⟩
 clear T M
 rintro mz ac wc ⟨k, hmm1, hk, H, T, M⟩
 refine wp_seq ?_
 refine wp_region_lit ?_
 refine lq T (rn_lss rfl (T.ev 3 rfl) (T.ev 2 rfl)) ?_; clear T ac; intro ac T
 refine wpList_nil ?_
 refine nm_then ?_
 refine wp_seq ?_
 refine wp_if (T.ev 0 rfl) ?_ ?_
 ·intro h3
  obtain ⟨⟨x1, B1, d1⟩, hk1⟩ : ∃ x, LL[k]? = some x := ⟨_, List.getElem?_eq_getElem (by omega)⟩
  obtain ⟨bs1, os1, Ss1⟩ := Sp.old (hE _ (List.mem_of_getElem? hk1))
  dsimp only at Ss1
  have nx1 := nE _ (List.mem_of_getElem? hk1)
  dsimp only at nx1
  have hdr : LL.drop k = (x1, B1, d1) :: LL.drop (k + 1) := by rw [List.drop_eq_getElem_cons (by omega)]; congr 1; rw [List.getElem?_eq_getElem (by omega)] at hk1; injection hk1
  have hdm : rowsOf (LL.drop k) = x1 :: rowsOf (LL.drop (k + 1)) := by rw [hdr]; rfl
  rw [hdm, rowsE] at H
  refine wp_skip ?_
  refine nm_then ?_
  refine wp_seq ?_
  refine wp_block ?_
  refine wp_seq ?_
  refine wp_region_lit ?_
  refine lq T (rn_indexAddr (size := 1) k rfl (T.ev 2 rfl) (T.ev 4 rfl) ⟨_, Try.underlying27, by kernel_rfl⟩ rfl (by omega) (SA.at0 (by omega))) ?_; clear T ac; intro ac T
  refine lq (v := (.slice B1 x1.length d1)) T (rn_cell (Sp.ls0 SA M (List.nil_sublist _) hk1) rfl (T.ev 0 rfl)) ?_; clear T ac; intro ac T
  refine lq T (rn_assign rfl (T.ev 0 rfl)) ?_; clear T ac; intro ac T
  refine wpList_nil ?_
  replace T := T.pick [0, 4, 5, 6, 7] rfl
  refine nm_then ?_
  refine wp_seq ?_
  refine wp_seq ?_
  refine wp_region_lit ?_
  refine lq T (rn_move rfl (T.ev 0 rfl)) ?_; clear T ac; intro ac T
  refine lq T (rn_lenS rfl Try.underlying38 (T.ev 0 rfl)) ?_; clear T ac; intro ac T
  refine lq T (rn_gtr rfl (T.ev 0 rfl) evc) ?_; clear T ac; intro ac T
  refine wpList_nil ?_
  replace T := T.pick [0, 3, 4, 5, 6, 7] rfl
  refine nm_then ?_
  refine wp_if (T.ev 0 rfl) ?_ ?_
  ·intro h4
   refine wp_seq ?_
   refine wp_region_lit ?_
   refine lq T (rn_assign rfl evc) ?_; clear T ac; intro ac T
   refine wpList_nil ?_
   replace T := T.pick [0] rfl
   replace M := M.mask [false] rfl
   refine nm_then ?_
   refine wp_ret ?_
   refine rt_then ?_
   refine rt_blk ?_
   refine rt_then ?_
   refine rt_then ?_
   refine rt_blk ?_
   refine rt_then ?_
   refine rt_1 T rfl (T.ev 0 rfl) ?_
   refine ⟨ret_int ?_, M.below⟩
   unfold checkS
   rw [if_pos (by omega)] at H
   rw [if_neg (by simp_all), if_neg (by simp; omega), H, if_pos (by first | omega | assumption)]
  intro h4
  refine wp_skip ?_
  refine nm_then ?_
  refine wp_seq ?_
  refine wp_seq ?_
  refine wp_region_lit ?_
  refine lq T (rn_move rfl (T.ev 1 rfl)) ?_; clear T ac; intro ac T
  refine lq T (rn_lenS rfl Try.underlying38 (T.ev 0 rfl)) ?_; clear T ac; intro ac T
  refine lq T (rn_rowO (Mem.nth M 0 rfl) rfl (T.ev 4 rfl) rfl) ?_; clear T ac; intro ac T
  refine l_w rfl ?_; intro K hK
  refine ow_call (first := []) (cap := []) T rfl rfl rfl rfl evf (.cons (T.ev 0 rfl) .nil) Try.func54 rfl rfl ?_
  refine Calls.mono (notes_any l A c LL _ (SA.rd M (List.nil_sublist _)) (fun x hx => M.rd (hE x hx) (Nat.le_refl _)) (by omega) nE) ?_
  clear T
  rintro e wc ⟨rfl, hb⟩
  intro ac T
  replace M := M.call hb; clear hb
  refine sh_out hK _ _ ?_; clear hK K
  refine lq T (rn_neq rfl (T.ev 2 rfl) (T.ev 0 rfl)) ?_; clear T ac; intro ac T
  refine wpList_nil ?_
  replace T := T.pick [0, 6, 7, 8, 9, 10] rfl
  refine nm_then ?_
  refine wp_ifn (T.ev 0 rfl) ?_ ?_
  ·intro h5
   refine wp_seq ?_
   refine wp_region_lit ?_
   refine lq T (rn_assign rfl evc) ?_; clear T ac; intro ac T
   refine wpList_nil ?_
   replace T := T.pick [0] rfl
   replace M := M.mask [false] rfl
   refine nm_then ?_
   refine wp_ret ?_
   refine rt_then ?_
   refine rt_blk ?_
   refine rt_then ?_
   refine rt_then ?_
   refine rt_blk ?_
   refine rt_then ?_
   refine rt_1 T rfl (T.ev 0 rfl) ?_
   refine ⟨ret_int ?_, M.below⟩
   unfold checkS
   rw [if_neg (by omega), if_pos (by omega)] at H
   rw [if_neg (by simp_all), if_neg (by simp; omega), H, if_pos (by first | omega | assumption)]
  intro h5
  refine wp_skip ?_
  refine nm_then ?_
  refine wp_seq ?_
  refine wp_region_lit ?_
  refine lq T (rn_move rfl (T.ev 1 rfl)) ?_; clear T ac; intro ac T
  refine l_w rfl ?_; intro K hK
  refine ow_call (first := []) (cap := []) T rfl rfl rfl rfl evf (.cons (T.ev 0 rfl) (.cons evc .nil)) Try.func98 rfl rfl ?_
  refine Calls.mono (checkSounds_any _ _ _ x1 6 _ (Ss1.rd M (List.nil_sublist _)) (by first | omega | (simp only [List.length_cons, List.length_nil]; omega))) ?_
  clear T
  rintro e wc ⟨rfl, hb⟩
  intro ac T
  replace M := M.call hb; clear hb
  refine sh_out hK _ _ ?_; clear hK K
  refine lq T (rn_assign rfl (T.ev 0 rfl)) ?_; clear T ac; intro ac T
  refine wpList_nil ?_
  replace T := T.pick [0, 5, 6, 7, 8] rfl
  refine nm_then ?_
  refine wp_seq ?_
  refine wp_region_lit ?_
  refine lq T (rn_move rfl (T.ev 0 rfl)) ?_; clear T ac; intro ac T
  refine lq T (rn_neq rfl (T.ev 0 rfl) evc) ?_; clear T ac; intro ac T
  refine wpList_nil ?_
  replace T := T.pick [0, 2, 3, 4, 5, 6] rfl
  refine nm_then ?_
  refine wp_ifn (T.ev 0 rfl) ?_ ?_
  ·intro h6
   refine wp_seq ?_
   refine wp_region_lit ?_
   refine lq T (rn_move rfl (T.ev 1 rfl)) ?_; clear T ac; intro ac T
   refine lq T (rn_assign rfl (T.ev 0 rfl)) ?_; clear T ac; intro ac T
   refine wpList_nil ?_
   replace T := T.pick [0] rfl
   replace M := M.mask [false] rfl
   refine nm_then ?_
   refine wp_ret ?_
   refine rt_blk ?_
   refine rt_then ?_
   refine rt_then ?_
   refine rt_blk ?_
   refine rt_then ?_
   refine rt_1 T rfl (T.ev 0 rfl) ?_
   refine ⟨ret_int ?_, M.below⟩
   unfold checkS
   rw [if_neg (by omega), if_neg (by omega), if_pos (by assumption)] at H
   rw [if_neg (by simp_all), if_neg (by simp; omega), H, if_pos (by first | omega | assumption)]
  intro h6
  refine wp_skip ?_
  refine nm_blk ?_
  refine nm_then ?_
  refine wp_region_lit ?_
  refine lq T (rn_add rfl (T.ev 5 rfl) evc (by omega)) ?_; clear T ac; intro ac T
  refine l_q (v := (.int .i64 ((k : Int) + 1))) (T.pick [0, 1, 2, 3, 4, 5] rfl) rfl rfl rfl rfl (rn_move rfl (T.ev 0 rfl)) ?_; clear T ac; intro ac T
  refine wpList_nil ?_
  replace T := T.pick [0, 4, 5, 6] rfl
  refine nm_then ?_
  exact ⟨_, by omega, k + 1, rfl, (by omega), (by rw [if_neg (by omega), if_neg (by omega), if_neg (by simp_all)] at H; exact H), T.pick [1, 2, 3, 0] rfl, M.mask [true] rfl⟩
 intro h3
 have hdm : rowsOf (LL.drop k) = [] := by rw [List.drop_of_length_le (by omega)]; rfl
 rw [hdm, rowsE] at H
 have hgr := rowsE_good H
 have hn6 : notesP (rowsOf LL) ≤ 6 := by cases LL with | nil => simp [notesP] | cons a r => exact (hgr a.1 (by simp)).1
 refine wp_exit ?_
 refine ex_then ?_
 refine ex_then ?_
 refine ex_hit ?_
 refine nm_then ?_
 refine wp_seq ?_
 refine wp_seq ?_
 refine wp_region_lit ?_
 refine lq T (rn_rowO (Mem.nth M 0 rfl) rfl (T.ev 1 rfl) rfl) ?_; clear T ac; intro ac T
 refine l_w rfl ?_; intro K hK
 refine ow_call (first := []) (cap := []) T rfl rfl rfl rfl evf (.cons (T.ev 0 rfl) .nil) Try.func54 rfl rfl ?_
 refine Calls.mono (notes_any l A c LL _ (SA.rd M (List.nil_sublist _)) (fun x hx => M.rd (hE x hx) (Nat.le_refl _)) (by omega) nE) ?_
 clear T
 rintro e wc ⟨rfl, hb⟩
 intro ac T
 replace M := M.call hb; clear hb
 refine sh_out hK _ _ ?_; clear hK K
 refine lq T (rn_move rfl evc) ?_; clear T ac; intro ac T
 refine wpList_nil ?_
 replace T := T.pick [0, 1, 4] rfl
 refine nm_then ?_
 refine wp_block ?_
 refine wp_loop_n (fun mz ac wc => ∃ (k : Nat), mz = notesP (rowsOf LL) - k ∧ (k ≤ notesP (rowsOf LL)) ∧ ((List.range k).all (dueO l) = true) ∧ Tm ac 51 [(1, .pointer (some ⟨g1, 0, none⟩)), (40, .int .i64 ((notesP (rowsOf LL) : Nat) : Int)), (41, .int .i64 (k : Int))] ∧ Mem w noEx wc [(g1, .cells [.int .i64 l.first, .int .i64 l.step, .int .i64 l.span, .int .i64 l.press, .slice A LL.length c])]) ?_ ?_
 ·exact ⟨_, 0, rfl, (Nat.zero_le _), rfl, T.pick [2, 1, 0] rfl, M.mask [true] rfl⟩
 clear T M
 rintro mz ac wc ⟨k, hmm2, hk, H2, T, M⟩
 refine wp_seq ?_
 refine wp_region_lit ?_
 refine lq T (rn_lss rfl (T.ev 2 rfl) (T.ev 1 rfl)) ?_; clear T ac; intro ac T
 refine wpList_nil ?_
 refine nm_then ?_
 refine wp_seq ?_
 refine wp_if (T.ev 0 rfl) ?_ ?_
 ·intro h7
  refine wp_skip ?_
  refine nm_then ?_
  refine wp_seq ?_
  refine wp_block ?_
  refine wp_seq ?_
  refine wp_region_lit ?_
  refine lq T (rn_move rfl (T.ev 3 rfl)) ?_; clear T ac; intro ac T
  refine lq T (rn_assign rfl (T.ev 0 rfl)) ?_; clear T ac; intro ac T
  refine wpList_nil ?_
  replace T := T.pick [0, 3, 4, 5] rfl
  refine nm_then ?_
  refine wp_seq ?_
  refine wp_region_lit ?_
  refine lq (v := (.pointer (some ⟨g1, 0, none⟩))) T (rn_fieldAddr (off := 0) rfl (T.ev 1 rfl) (fun _ _ _ => by kernel_rfl)) ?_; clear T ac; intro ac T
  refine lq T (rn_rowO (Mem.nth M 0 rfl) rfl (T.ev 0 rfl) rfl) ?_; clear T ac; intro ac T
  refine lq T (rn_move rfl (T.ev 2 rfl)) ?_; clear T ac; intro ac T
  refine l_w rfl ?_; intro K hK
  refine ow_call (first := []) (cap := []) T rfl rfl rfl rfl evf (.cons (T.ev 1 rfl) (.cons (T.ev 0 rfl) .nil)) Try.func56 rfl rfl ?_
  refine Calls.mono (vdue_any l (k : Int) _ (by (try dsimp only); omega) (by (try dsimp only); omega) (by (try dsimp only); omega)) ?_
  clear T
  rintro e wc ⟨rfl, hb⟩
  intro ac T
  replace M := M.call hb; clear hb
  refine sh_out hK _ _ ?_; clear hK K
  refine l_w rfl ?_; intro K hK
  refine ow_call (first := []) (cap := []) T rfl rfl rfl rfl evf (.cons (T.ev 0 rfl) (.cons evc (.cons evc .nil))) Try.func80 rfl rfl ?_
  refine Calls.mono (vwithin_any (l.first + l.step * (k : Int)) 0 30 _) ?_
  clear T
  rintro e wc ⟨rfl, hb⟩
  intro ac T
  replace M := M.call hb; clear hb
  refine sh_out hK _ _ ?_; clear hK K
  refine lq T (rn_not rfl (T.ev 0 rfl)) ?_; clear T ac; intro ac T
  refine wpList_nil ?_
  replace T := T.pick [0, 7, 8, 9] rfl
  refine nm_then ?_
  refine wp_cond_split (T.ev 0 rfl) ?_ ?_
  ·intro h8
   (try have h8' := h8; try simp only [Bool.and_eq_true, Bool.or_eq_true, Bool.not_eq_true', Bool.and_eq_false_imp, Bool.or_eq_false_iff, decide_eq_true_eq, decide_eq_false_iff_not] at h8')
   refine wp_seq ?_
   refine wp_region_lit ?_
   refine lq T (rn_assign rfl evc) ?_; clear T ac; intro ac T
   refine wpList_nil ?_
   replace T := T.pick [0] rfl
   replace M := M.mask [false] rfl
   refine nm_then ?_
   refine wp_ret ?_
   refine rt_blk ?_
   refine rt_then ?_
   refine rt_then ?_
   refine rt_blk ?_
   refine rt_then ?_
   refine rt_1 T rfl (T.ev 0 rfl) ?_
   refine ⟨ret_int ?_, M.below⟩
   unfold checkS
   rw [if_neg (by simp_all), if_neg (by simp; omega), H, if_neg (by omega), if_neg]
   intro k9
   have k8 := List.all_eq_true.1 k9 k (List.mem_range.2 (by omega))
   simp only [dueO, decide_eq_true_eq] at k8
   exact absurd h8 (by simp [withinB, k8])
  intro h8
  (try have h8' := h8; try simp only [Bool.and_eq_true, Bool.or_eq_true, Bool.not_eq_true', Bool.and_eq_false_imp, Bool.or_eq_false_iff, decide_eq_true_eq, decide_eq_false_iff_not] at h8')
  refine wp_skip ?_
  refine nm_blk ?_
  refine nm_then ?_
  refine wp_region_lit ?_
  refine lq T (rn_add rfl (T.ev 3 rfl) evc (by omega)) ?_; clear T ac; intro ac T
  refine l_q (v := (.int .i64 ((k : Int) + 1))) (T.pick [0, 1, 2, 3] rfl) rfl rfl rfl rfl (rn_move rfl (T.ev 0 rfl)) ?_; clear T ac; intro ac T
  refine wpList_nil ?_
  replace T := T.pick [0, 3, 4] rfl
  refine nm_then ?_
  exact ⟨_, by omega, k + 1, rfl, (by omega), (by rw [List.range_succ, List.all_append, H2]; simp only [List.all_cons, List.all_nil, Bool.true_and, Bool.and_true]; simpa [withinB, dueO] using h8), T.pick [1, 2, 0] rfl, M.mask [true] rfl⟩
 intro h7
 refine wp_exit ?_
 refine ex_then ?_
 refine ex_then ?_
 refine ex_hit ?_
 refine nm_then ?_
 refine wp_seq ?_
 refine wp_region_lit ?_
 refine lq T (rn_assign rfl evc) ?_; clear T ac; intro ac T
 refine wpList_nil ?_
 replace T := T.pick [0] rfl
 replace M := M.mask [false] rfl
 refine nm_then ?_
 refine wp_ret ?_
 refine rt_1 T rfl (T.ev 0 rfl) ?_
 refine ⟨ret_int ?_, M.below⟩
 unfold checkS
 obtain rfl : k = notesP (rowsOf LL) := by omega
 rw [if_neg (by simp_all), if_neg (by simp; omega), H, if_neg (by omega), if_pos H2]
theorem checkRegister_any (l : Lw) (A : Option Addr) (c : Nat) (LL : List LS) (G : Option Addr) (d : Nat) (g : List Int)  (w : World) (hA : Rd w w.heap.size 1 A LL.length (lsC LL)) (hE : ElsS w LL) (nL : LL.length ≤ 1000000) (nE : ∀ x ∈ LL, x.1.length ≤ 1000000) (hG : Rd w w.heap.size 1 G g.length (ic g)) (nG : g.length ≤ 1000000)  :
   Calls Try.prog 53 #[.agg #[.int .i64 l.first, .int .i64 l.step, .int .i64 l.span, .int .i64 l.press, .slice A LL.length c], .slice G g.length d] w fun e w' => e = .returned (.int .i64 (checkR l (rowsOf LL) g)) ∧ Below w.heap.size w w' := by
 obtain ⟨bA, oA, SA⟩ := Sp.old hA
 obtain ⟨bG, oG, SG⟩ := Sp.old hG
 refine px_enter noEx Try.func53 rfl 41 rfl [.agg #[.int .i64 l.first, .int .i64 l.step, .int .i64 l.span, .int .i64 l.press, .slice A LL.length c], .slice G g.length d] rfl rfl (Mem.init w _) ?_
 intro ac wc T M
 refine wp_seq ?_
 refine wp_region_lit ?_
 refine l_w rfl ?_; intro K hK
 refine ow_bx M T rfl rfl rfl rfl (T.ev 0 rfl) rfl ?_; clear M T; intro g1 wc ac M T
 refine sh_out hK _ _ ?_; clear hK K
 refine lq T (rn_assign rfl evc) ?_; clear T ac; intro ac T
 refine wpList_nil ?_
 replace T := T.pick [1, 3] rfl
 refine nm_then ?_
 refine wp_seq ?_
 refine wp_seq ?_
 refine wp_region_lit ?_
 refine lq T (rn_rowO (Mem.nth M 0 rfl) rfl (T.ev 0 rfl) rfl) ?_; clear T ac; intro ac T
 refine l_w rfl ?_; intro K hK
 refine ow_call (first := []) (cap := []) T rfl rfl rfl rfl evf (.cons (T.ev 0 rfl) .nil) Try.func89 rfl rfl ?_
 refine Calls.mono (checkScale_any l A c LL _ (SA.rd M (List.nil_sublist _)) (fun x hx => M.rd (hE x hx) (Nat.le_refl _)) (by omega) nE) ?_
 clear T
 rintro e wc ⟨rfl, hb⟩
 intro ac T
 replace M := M.call hb; clear hb
 refine sh_out hK _ _ ?_; clear hK K
 refine lq T (rn_assign rfl (T.ev 0 rfl)) ?_; clear T ac; intro ac T
 refine wpList_nil ?_
 replace T := T.pick [0, 3, 4] rfl
 refine nm_then ?_
 refine wp_seq ?_
 refine wp_region_lit ?_
 refine lq T (rn_move rfl (T.ev 0 rfl)) ?_; clear T ac; intro ac T
 refine lq T (rn_neq rfl (T.ev 0 rfl) evc) ?_; clear T ac; intro ac T
 refine wpList_nil ?_
 replace T := T.pick [0, 2, 3, 4] rfl
 refine nm_then ?_
 refine wp_ifn (T.ev 0 rfl) ?_ ?_
 ·intro h1
  refine wp_seq ?_
  refine wp_region_lit ?_
  refine lq T (rn_move rfl (T.ev 1 rfl)) ?_; clear T ac; intro ac T
  refine lq T (rn_assign rfl (T.ev 0 rfl)) ?_; clear T ac; intro ac T
  refine wpList_nil ?_
  replace T := T.pick [0] rfl
  replace M := M.mask [false] rfl
  refine nm_then ?_
  refine wp_ret ?_
  refine rt_then ?_
  refine rt_1 T rfl (T.ev 0 rfl) ?_
  refine ⟨ret_int ?_, M.below⟩
  unfold checkR
  rw [if_pos (by assumption)]
 intro h1
 have hl0 : (rowsOf LL).length = LL.length := by simp
 rw [hl0] at *
 refine wp_skip ?_
 refine nm_then ?_
 refine wp_seq ?_
 refine wp_seq ?_
 refine wp_region_lit ?_
 refine lq T (rn_move rfl (T.ev 3 rfl)) ?_; clear T ac; intro ac T
 refine lq T (rn_lenS rfl Try.underlying22 (T.ev 0 rfl)) ?_; clear T ac; intro ac T
 refine lq T (rn_move rfl evc) ?_; clear T ac; intro ac T
 refine wpList_nil ?_
 replace T := T.pick [0, 1, 2, 5, 6] rfl
 refine nm_then ?_
 refine wp_block ?_
 refine wp_loop_n (fun mz ac wc => ∃ (i : Nat), mz = g.length - i ∧ (i ≤ g.length) ∧ (regE (rowsOf LL).length none g = regE (rowsOf LL).length (prevO g i) (g.drop i)) ∧ Tm ac 41 [(1, .slice G g.length d), (2, .pointer (some ⟨g1, 0, none⟩)), (13, .slice G g.length d), (14, .int .i64 ((g.length : Nat) : Int)), (15, .int .i64 (i : Int))] ∧ Mem w noEx wc [(g1, .cells [.int .i64 l.first, .int .i64 l.step, .int .i64 l.span, .int .i64 l.press, .slice A LL.length c])]) ?_ ?_
 ·exact ⟨_, 0, rfl, (by omega), rfl, T.pick [4, 3, 2, 1, 0] rfl, M.mask [true] rfl⟩
 clear T M
 rintro mz ac wc ⟨i, hmm1, hi, H, T, M⟩
 refine wp_seq ?_
 refine wp_region_lit ?_
 refine lq T (rn_lss rfl (T.ev 4 rfl) (T.ev 3 rfl)) ?_; clear T ac; intro ac T
 refine wpList_nil ?_
 refine nm_then ?_
 refine wp_seq ?_
 refine wp_if (T.ev 0 rfl) ?_ ?_
 ·intro h2
  obtain ⟨r, hkr, hdr⟩ := ic_next (l := g) (k := i) (by omega)
  obtain ⟨rp, hrp⟩ : ∃ q, q = g.getD (i - 1) 0 := ⟨_, rfl⟩
  have hpv : leO (prevO g i) r = (decide (0 < (i : Int)) && decide (r ≤ rp)) := prevO_le hi hrp
  rw [hdr, regE, hpv] at H
  refine wp_skip ?_
  refine nm_then ?_
  refine wp_seq ?_
  refine wp_block ?_
  refine wp_seq ?_
  refine wp_region_lit ?_
  refine lq T (rn_move rfl (T.ev 5 rfl)) ?_; clear T ac; intro ac T
  refine lq T (rn_indexAddr (size := 1) i rfl (T.ev 4 rfl) (T.ev 6 rfl) ⟨_, Try.underlying22, by kernel_rfl⟩ rfl (by omega) (SG.at0 (by omega))) ?_; clear T ac; intro ac T
  refine lq T (rn_cell (Sp.ic0 SG M (List.nil_sublist _) hkr) rfl (T.ev 0 rfl)) ?_; clear T ac; intro ac T
  refine lq T (rn_assign rfl (T.ev 2 rfl)) ?_; clear T ac; intro ac T
  refine lq T (rn_assign rfl (T.ev 1 rfl)) ?_; clear T ac; intro ac T
  refine wpList_nil ?_
  replace T := T.pick [0, 1, 6, 7, 8, 9, 10] rfl
  refine nm_then ?_
  refine wp_block ?_
  refine wp_seq ?_
  refine wp_region_lit ?_
  refine lq T (rn_move rfl (T.ev 0 rfl)) ?_; clear T ac; intro ac T
  refine lq (v := (.pointer (some ⟨g1, 4, none⟩))) T (rn_fieldAddr (off := 4) rfl (T.ev 4 rfl) (fun _ _ _ => by kernel_rfl)) ?_; clear T ac; intro ac T
  refine lq T (rn_one (Mem.nth M 0 rfl) rfl (T.ev 0 rfl) rfl) ?_; clear T ac; intro ac T
  refine lq T (rn_lenS rfl Try.underlying27 (T.ev 0 rfl)) ?_; clear T ac; intro ac T
  refine lq T (rn_sub rfl (T.ev 0 rfl) evc (by omega)) ?_; clear T ac; intro ac T
  refine l_w rfl ?_; intro K hK
  refine ow_call (first := []) (cap := []) T rfl rfl rfl rfl evf (.cons (T.ev 4 rfl) (.cons evc (.cons (T.ev 0 rfl) .nil))) Try.func80 rfl rfl ?_
  refine Calls.mono (vwithin_any r 0 (((LL.length : Nat) : Int) - 1) _) ?_
  clear T
  rintro e wc ⟨rfl, hb⟩
  intro ac T
  replace M := M.call hb; clear hb
  refine sh_out hK _ _ ?_; clear hK K
  refine lq T (rn_not rfl (T.ev 0 rfl)) ?_; clear T ac; intro ac T
  refine lq T (rn_assign rfl (T.ev 0 rfl)) ?_; clear T ac; intro ac T
  refine wpList_nil ?_
  replace T := T.pick [0, 8, 9, 10, 11, 12, 13, 14] rfl
  refine nm_then ?_
  refine wp_cond_split (T.ev 0 rfl) ?_ ?_
  ·intro h3
   (try have h3' := h3; try simp only [Bool.and_eq_true, Bool.or_eq_true, Bool.not_eq_true', Bool.and_eq_false_imp, Bool.or_eq_false_iff, decide_eq_true_eq, decide_eq_false_iff_not] at h3')
   refine wp_seq ?_
   refine wp_region_lit ?_
   refine lq T (rn_assign rfl evc) ?_; clear T ac; intro ac T
   refine wpList_nil ?_
   replace T := T.pick [0] rfl
   replace M := M.mask [false] rfl
   refine nm_then ?_
   refine wp_ret ?_
   refine rt_blk ?_
   refine rt_blk ?_
   refine rt_then ?_
   refine rt_then ?_
   refine rt_blk ?_
   refine rt_then ?_
   refine rt_1 T rfl (T.ev 0 rfl) ?_
   refine ⟨ret_int ?_, M.below⟩
   unfold checkR
   rw [if_pos (by simp_all [withinB])] at H
   rw [if_neg (by simp_all), H]
  intro h3
  (try have h3' := h3; try simp only [Bool.and_eq_true, Bool.or_eq_true, Bool.not_eq_true', Bool.and_eq_false_imp, Bool.or_eq_false_iff, decide_eq_true_eq, decide_eq_false_iff_not] at h3')
  refine cut_seq (fun ac wc => Tm ac 41 [(1, .slice G g.length d), (2, .pointer (some ⟨g1, 0, none⟩)), (13, .slice G g.length d), (14, .int .i64 ((g.length : Nat) : Int)), (15, .int .i64 (i : Int)), (28, .bool ((decide (0 < (i : Int))) && (decide (r ≤ rp))))] ∧ Mem w noEx wc [(g1, .cells [.int .i64 l.first, .int .i64 l.step, .int .i64 l.span, .int .i64 l.press, .slice A LL.length c])]) ?_ ?_
  ·refine wp_region_lit ?_
   refine lq T (rn_move rfl (T.ev 2 rfl)) ?_; clear T ac; intro ac T
   refine lq T (rn_gtr rfl (T.ev 0 rfl) evc) ?_; clear T ac; intro ac T
   refine lq T (rn_move rfl (T.ev 0 rfl)) ?_; clear T ac; intro ac T
   rcases Bool.eq_false_or_eq_true (decide (0 < (i : Int))) with h4 | h4
   ·replace h4 := of_decide_eq_true h4
    obtain ⟨i1, hi1⟩ : ∃ q : Nat, (i : Int) - 1 = (q : Int) := ⟨i - 1, by omega⟩
    have hkp : g[i1]? = some rp := by rw [hrp, show i - 1 = i1 by omega, List.getD_eq_getElem?_getD, List.getElem?_eq_getElem (by omega)]; rfl
    refine lw T (wanted_yes rfl rfl (T.ev 0 rfl) (decide_eq_true h4)) (rn_move rfl (T.ev 4 rfl)) ?_; clear T ac; intro ac T
    refine lw T (wanted_yes rfl rfl (T.ev 1 rfl) (decide_eq_true h4)) (rn_move rfl (T.ev 7 rfl)) ?_; clear T ac; intro ac T
    refine lw T (wanted_yes rfl rfl (T.ev 2 rfl) (decide_eq_true h4)) (rn_move rfl (T.ev 7 rfl)) ?_; clear T ac; intro ac T
    refine lw T (wanted_yes rfl rfl (T.ev 3 rfl) (decide_eq_true h4)) (rn_sub rfl (T.ev 0 rfl) evc (by omega)) ?_; clear T ac; intro ac T
    refine lw T (wanted_yes rfl rfl (T.ev 4 rfl) (decide_eq_true h4)) (rn_indexAddr (size := 1) i1 rfl (T.ev 2 rfl) (T.ev 0 rfl) ⟨_, Try.underlying22, by kernel_rfl⟩ hi1 (by omega) (SG.at0 (by omega))) ?_; clear T ac; intro ac T
    refine lw T (wanted_yes rfl rfl (T.ev 5 rfl) (decide_eq_true h4)) (rn_cell (Sp.ic0 SG M (List.nil_sublist _) hkp) rfl (T.ev 0 rfl)) ?_; clear T ac; intro ac T
    refine lw T (wanted_yes rfl rfl (T.ev 6 rfl) (decide_eq_true h4)) (rn_leq rfl (T.ev 5 rfl) (T.ev 0 rfl)) ?_; clear T ac; intro ac T
    refine lq T (rn_pick1 rfl (T.ev 7 rfl) (decide_eq_true h4) (T.ev 0 rfl)) ?_; clear T ac; intro ac T
    refine lq T (rn_assign rfl (T.ev 0 rfl)) ?_; clear T ac; intro ac T
    refine wpList_nil ?_
    replace T := T.pick [0, 2, 3, 4, 5, 6, 7, 8, 15, 16, 17, 18, 19] rfl
    exact ⟨(T.pick (E' := [(1, .slice G g.length d), (2, .pointer (some ⟨g1, 0, none⟩)), (13, .slice G g.length d), (14, .int .i64 ((g.length : Nat) : Int)), (15, .int .i64 (i : Int)), (28, .bool (decide (r ≤ rp)))]) [8, 9, 10, 11, 12, 0] rfl).as (by (try rw [show (decide (0 < (i : Int))) = true from (decide_eq_true h4)]); (try rfl)), M.mask [true] rfl⟩
   replace h4 := of_decide_eq_false h4
   refine lp T (wanted_no rfl rfl (T.ev 0 rfl) (decide_eq_false h4)) ?_; clear T ac; intro ac T
   refine lp T (wanted_no rfl rfl (T.ev 1 rfl) (decide_eq_false h4)) ?_; clear T ac; intro ac T
   refine lp T (wanted_no rfl rfl (T.ev 2 rfl) (decide_eq_false h4)) ?_; clear T ac; intro ac T
   refine lp T (wanted_no rfl rfl (T.ev 3 rfl) (decide_eq_false h4)) ?_; clear T ac; intro ac T
   refine lp T (wanted_no rfl rfl (T.ev 4 rfl) (decide_eq_false h4)) ?_; clear T ac; intro ac T
   refine lp T (wanted_no rfl rfl (T.ev 5 rfl) (decide_eq_false h4)) ?_; clear T ac; intro ac T
   refine lp T (wanted_no rfl rfl (T.ev 6 rfl) (decide_eq_false h4)) ?_; clear T ac; intro ac T
   refine lq T (rn_pick0 rfl (T.ev 7 rfl) (decide_eq_false h4) evc) ?_; clear T ac; intro ac T
   refine lq T (rn_assign rfl (T.ev 0 rfl)) ?_; clear T ac; intro ac T
   refine wpList_nil ?_
   replace T := T.pick [0, 2, 3, 4, 5, 6, 7, 8, 15, 16, 17, 18, 19] rfl
   exact ⟨(T.pick (E' := [(1, .slice G g.length d), (2, .pointer (some ⟨g1, 0, none⟩)), (13, .slice G g.length d), (14, .int .i64 ((g.length : Nat) : Int)), (15, .int .i64 (i : Int)), (28, .bool false)]) [8, 9, 10, 11, 12, 0] rfl).as (by (try rw [show (decide (0 < (i : Int))) = false from (decide_eq_false h4)]); (try rfl)), M.mask [true] rfl⟩
  clear T M
  rintro ac wc ⟨T, M⟩
  refine wp_cond_split (T.ev 5 rfl) ?_ ?_
  ·intro h5
   (try have h5' := h5; try simp only [Bool.and_eq_true, Bool.or_eq_true, Bool.not_eq_true', Bool.and_eq_false_imp, Bool.or_eq_false_iff, decide_eq_true_eq, decide_eq_false_iff_not] at h5')
   refine wp_seq ?_
   refine wp_region_lit ?_
   refine lq T (rn_assign rfl evc) ?_; clear T ac; intro ac T
   refine wpList_nil ?_
   replace T := T.pick [0] rfl
   replace M := M.mask [false] rfl
   refine nm_then ?_
   refine wp_ret ?_
   refine rt_blk ?_
   refine rt_blk ?_
   refine rt_then ?_
   refine rt_then ?_
   refine rt_blk ?_
   refine rt_then ?_
   refine rt_1 T rfl (T.ev 0 rfl) ?_
   refine ⟨ret_int ?_, M.below⟩
   unfold checkR
   rw [if_neg (by simp_all [withinB]), if_pos (by assumption)] at H
   rw [if_neg (by simp_all), H]
  intro h5
  (try have h5' := h5; try simp only [Bool.and_eq_true, Bool.or_eq_true, Bool.not_eq_true', Bool.and_eq_false_imp, Bool.or_eq_false_iff, decide_eq_true_eq, decide_eq_false_iff_not] at h5')
  refine wp_skip ?_
  refine nm_blk ?_
  refine nm_blk ?_
  refine nm_then ?_
  refine wp_region_lit ?_
  refine lq T (rn_add rfl (T.ev 4 rfl) evc (by omega)) ?_; clear T ac; intro ac T
  refine l_q (v := (.int .i64 ((i : Int) + 1))) (T.pick [0, 1, 2, 3, 4, 6] rfl) rfl rfl rfl rfl (rn_move rfl (T.ev 0 rfl)) ?_; clear T ac; intro ac T
  refine wpList_nil ?_
  replace T := T.pick [0, 2, 3, 4, 5] rfl
  refine nm_then ?_
  exact ⟨_, by omega, i + 1, rfl, (by omega), (by rw [if_neg (by simp_all [withinB]), if_neg (by rw [h5]; simp)] at H; rw [H, prevO, if_neg (by omega), Nat.add_sub_cancel, hkr]), T.pick [1, 2, 3, 4, 0] rfl, M.mask [true] rfl⟩
 intro h2
 rw [List.drop_of_length_le (by omega), regE] at H
 refine wp_exit ?_
 refine ex_then ?_
 refine ex_then ?_
 refine ex_hit ?_
 refine nm_then ?_
 refine wp_seq ?_
 refine wp_region_lit ?_
 refine lq T (rn_assign rfl evc) ?_; clear T ac; intro ac T
 refine wpList_nil ?_
 replace T := T.pick [0] rfl
 replace M := M.mask [false] rfl
 refine nm_then ?_
 refine wp_ret ?_
 refine rt_1 T rfl (T.ev 0 rfl) ?_
 refine ⟨ret_int ?_, M.below⟩
 unfold checkR
 rw [if_neg (by simp_all), H]
end Go.Proofs.Ytlahdenlmmlplaa
end

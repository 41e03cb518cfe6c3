/-
  The law ReedBlanks, walked.
-/
import Derived.Test.YthlpceoajhcliaaMReedBlanks1
import Derived.Test.YthlpceoajhcliaaMReedBlanks2
import Derived.Test.YthlpceoajhcliaaMReedBlanks3
import Derived.Test.YthlpceoajhcliaaMReedBlanks4
import Derived.Test.YthlpceoajhcliaaMReedBlanks5
import Derived.Test.YthlpceoajhcliaaMReedBlanks6
import Derived.Test.YthlpceoajhcliaaMReedBlanks7
namespace Go.Proofs.Ythlpceoajhcliaa
set_option linter.unusedSimpArgs false
set_option linter.unusedVariables false
open Go.RowKit

theorem jc_snoc (l : List JE) (j : Jb) (B : Option Addr) (c : Nat) : jc l ++ jobL j B c = jc (l ++ [(j, B, c)]) := by simp [jc]
/-- Jobs of the call's own: where their shifts lie. -/
def ElsJ (LL : List JE) (I : List (Nat × BA)) : Prop := ∀ x ∈ LL, x.1.sh.length ≤ 20 ∧ ∃ b o, ∀ (w : World) (ex : Nat → Prop), Sp w ex I x.2.1 x.1.sh.length 2 b o (rc x.1.sh)
theorem ElsJ.mono {LL : List JE} {I I' : List (Nat × BA)} (h : ElsJ LL I) (hs : I.Sublist I') : ElsJ LL I' := fun x hx => by
  obtain ⟨h0, b, o, h1⟩ := h x hx
  exact ⟨h0, b, o, fun w ex => (h1 w ex).mono hs⟩
theorem ElsJ.snoc {LL : List JE} {I J : List (Nat × BA)} (h : ElsJ LL I) {j : Jb} {B : Option Addr} {c b o : Nat} (hn : j.sh.length ≤ 20) (hS : ∀ (w : World) (ex : Nat → Prop), Sp w ex J B j.sh.length 2 b o (rc j.sh)) : ElsJ (LL ++ [(j, B, c)]) (I ++ J) := fun x hx => by
  rcases List.mem_append.1 hx with hx | hx
  · exact h.mono (List.sublist_append_left _ _) x hx
  · simp only [List.mem_cons, List.not_mem_nil, or_false] at hx
    subst hx
    exact ⟨hn, b, o, fun w ex => (hS w ex).mono (List.sublist_append_right _ _)⟩
theorem jobL_one (j : Jb) (B : Option Addr) (c : Nat) : ∀ u ∈ jobL j B c, u.oneCell' = true := by
  intro u hu
  have h : (jobL j B c).all (·.oneCell') = true := rfl
  exact List.all_eq_true.1 h u hu
theorem jc_one (l : List JE) : ∀ u ∈ jc l, u.oneCell' = true := by
  intro u hu
  obtain ⟨x, _, hx⟩ := List.mem_flatMap.1 hu
  exact jobL_one _ _ _ u hx
section
variable {P : Program} {op : Oper} {a : Act} {K : Act → World → Prop} {Q : Exit → Act → World → Prop} {w0 w : World} {ex : Nat → Prop} {L0 L : List (Nat × BA)} {E : List (Nat × Value)} {t n : Nat}
/-- A literal without a part. -/
theorem ow_bs0 {ty e : TypeId} (M : Mem w0 ex w L) (T : Tm a n E) (ho : op.op = .buildSlice ty 0 #[]) (hd : op.dst = some t) (hf : freshE E t = true) (hn : Nat.blt t n = true)
    (hr : ∀ w : World, (Instr.buildSlice ty 0 #[]).run P w = .ok (.slice (some ⟨w.heap.size, 0, none⟩) 0 0) (w.alloc (.cells #[] e)))
    (h : ∀ g w' a', Mem w0 ex w' ((g, .any fun o => o = .cells #[] e) :: L) → Tm a' n ((t, .slice (some ⟨g, 0, none⟩) 0 0) :: E) → K a' w') : op.wp P a w K Q := by
  unfold Oper.wp execOp
  simp only [ho]
  have e2 : ((#[] : Array (Nat × Operand)).map fun (i, x) => (i, a.eval x)) = #[] := by simp
  rw [Sem.run_bind, e2, hr]
  exact h w.heap.size _ _ (M.newAny (.cells #[] e) (fun o => o = .cells #[] e) rfl) (by rw [hd]; exact T.put hn hf _)
/-- A list is appended to it. -/
theorem ow_appE {s x : Operand} {ty e size bytes b m d : Nat} {B : Option Addr} {z : Value} {cs : List Value}
    (hinfo : (P.info? e).map (fun i => (i.zero, i.size, i.bytes)) = some (some z, size, bytes)) (M : Mem w0 ex w ((b, .any fun o => o = .cells #[] e) :: L)) (T : Tm a n E)
    (ho : op.op = .call { callee := .builtin .append, args := #[s, x], argTypes := #[ty, ty] }) (hd : op.dst = some t) (hf : freshE E t = true) (hnn : Nat.blt t n = true)
    (h0 : ∀ g (w : World), (Builtin.append_ #[ty, ty] op.type #[.slice (some ⟨g, 0, none⟩) 0 0, .slice B 0 d]).run P w = .ok (.slice (some ⟨g, 0, none⟩) 0 0) w)
    (ht : P.underlying ty = some (.slice e)) (hzs : z.cells.size = size) (hsz : Nat.blt 0 size = true) (hby : Nat.ble bytes 1000 = true) (hm : m ≤ 1000000)
    (hs : a.eval s = .slice (some ⟨b, 0, none⟩) 0 0) (hx : a.eval x = .slice B m d) (hr : Rd w w.heap.size size B m cs) (h1 : ∀ u ∈ cs, u.oneCell' = true)
    (h : ∀ g cap' ys w' a', Mem w0 ex w' ((g, .cells (cs ++ ys)) :: L) → Tm a' n ((t, .slice (some ⟨g, 0, none⟩) m cap') :: E) → K a' w') : op.wp P a w K Q := by
  rcases Nat.eq_zero_or_pos m with rfl | hm0
  · obtain rfl : cs = [] := List.eq_nil_of_length_eq_zero (by have := hr.1; omega)
    unfold Oper.wp execOp
    simp only [ho, resolve, invoke, builtin, Sem.run_bind, Sem.run_pure, Result.andThen_ok, List.map_toArray, List.map_cons, List.map_nil, hs, hx, h0]
    refine h b 0 [] w _ ⟨M.os, M.tape, M.output, M.size, M.block, ?_, M.nd⟩ (by rw [hd]; exact T.put hnn hf _)
    intro p hp
    rcases List.mem_cons.1 hp with rfl | hp
    · obtain ⟨h2, o, ho2, rfl⟩ := M.blk _ List.mem_cons_self
      exact ⟨h2, Bk.of_heap (cur := #[]) ho2⟩
    · exact M.blk p (List.mem_cons_of_mem _ hp)
  · obtain ⟨i, hi, hz0, hz1, hz2⟩ := info_parts hinfo
    obtain ⟨g2, o2, rfl, hlt, hc⟩ := hr.cells hm0
    have hby := Nat.le_of_ble_eq_true hby
    have hsz := Nat.le_of_ble_eq_true hsz
    have hbb : (0 + m) * bytes ≤ 140737488355328 := by
      have : (0 + m) * bytes ≤ 1000000 * 1000 := Nat.mul_le_mul (by omega) hby
      omega
    obtain ⟨h2, o, hge, rfl⟩ := M.blk (b, .any fun o => o = .cells #[] e) List.mem_cons_self
    have hgl : b < w.heap.size := (Array.getElem?_eq_some_iff.1 hge).1
    refine wp_append_lies w s x ty ho b e i z size bytes ht hi hz0 hz1 hz2 hzs hsz _ 0 [] hs ⟨by simp, .inr ⟨b, 0, #[], rfl, Nat.le_refl _, hge, by omega, by unfold maxLen; omega, by simp, by simp⟩⟩ ⟨g2, o2, none⟩ m d cs hx hr.1 (fun j u hu => by rw [Addr.add_mid]; exact hc j u hu) h1 hm0 (by unfold maxLen; omega) hbb (Nat.le_of_lt hgl) w.heap.size rfl ?_
    intro g cap' w' hown hgr hat hlt2
    have hgr : w.grownBy w' (some b) := hgr
    simp only [Nat.zero_add, List.nil_append] at hown
    have key : Mem w0 ex w' ((g, .row e size m cs cap') :: L) := by
      rcases hat with h3 | h3
      · have h3 : some b = some g := h3
        injection h3 with h3
        subst h3
        exact M.callW (L' := (b, .row e size m cs cap') :: L) .head hgr (own_rebase hown hm0)
      · have M1 := M.callW (L' := (b, .any (fun _ => True)) :: L) .head hgr (by
          have hl0 : b < w'.heap.size := Nat.lt_of_lt_of_le hgl hgr.size
          exact ⟨w'.heap[b], Array.getElem?_eq_getElem hl0, trivial⟩)
        exact M1.forget.add (by rw [h3]; exact M.size) (own_rebase hown hm0) (fun q hq e => by have := BA.lt (M.blk q (List.mem_cons_of_mem _ hq)).2; omega)
    obtain ⟨⟨hl, hb⟩, hk⟩ := (key.blk _ List.mem_cons_self).2
    rcases hb with ⟨hb, _⟩ | ⟨g', cap2, cur, e1, _, hg, hc1, hc2, hc3, hc4⟩
    · cases hb
    · injection e1 with e1 _ _
      injection e1 with e1
      injection e1 with e1 _ _
      subst e1
      refine h g cap' (cur.toList.drop (m * size)) w' _ ⟨key.os, key.tape, key.output, key.size, key.block, ?_, key.nd⟩ (by rw [hd, Nat.zero_add]; exact T.put hnn hf _)
      intro p hp
      rcases List.mem_cons.1 hp with rfl | hp
      · refine ⟨(key.blk _ List.mem_cons_self).1, ?_⟩
        rw [← hc4, List.take_append_drop]
        exact Bk.of_heap hg
      · exact key.blk p (List.mem_cons_of_mem _ hp)
theorem jc_set (l : List JE) : ∀ (k : Nat) (x : JE), k < l.length → (jc l).take (k * 18) ++ jobL x.1 x.2.1 x.2.2 ++ (jc l).drop (k * 18 + 18) = jc (l.set k x) := by
  induction l with
  | nil => intro k x hk; simp at hk
  | cons y l ih =>
    intro k x hk
    have e18 : ∀ q : JE, (jobL q.1 q.2.1 q.2.2).length = 18 := fun _ => rfl
    cases k with
    | zero =>
      show (jobL y.1 y.2.1 y.2.2 ++ jc l).take (0 * 18) ++ _ ++ (jobL y.1 y.2.1 y.2.2 ++ jc l).drop (0 * 18 + 18) = jobL x.1 x.2.1 x.2.2 ++ jc l
      rw [Nat.zero_mul, Nat.zero_add, List.take_zero, List.nil_append, List.drop_append, e18, Nat.sub_self, List.drop_zero, List.drop_of_length_le (by rw [e18]; omega), List.nil_append]
    | succ k =>
      have := ih k x (by simpa using hk)
      show (jobL y.1 y.2.1 y.2.2 ++ jc l).take ((k + 1) * 18) ++ _ ++ (jobL y.1 y.2.1 y.2.2 ++ jc l).drop ((k + 1) * 18 + 18) = jobL y.1 y.2.1 y.2.2 ++ jc (l.set k x)
      rw [← this, List.take_append, List.drop_append, e18, List.take_of_length_le (by rw [e18]; omega), List.drop_of_length_le (by rw [e18]; omega), List.nil_append, show (k + 1) * 18 - 18 = k * 18 by omega, show (k + 1) * 18 + 18 - 18 = k * 18 + 18 by omega]
      simp only [List.append_assoc]
/-- A job is stored into cells that are a list's. -/
theorem ow_stJ {ty : TypeId} {x y : Operand} {g k : Nat} {j : Jb} {B : Option Addr} {c : Nat} {l : List JE} {ys : List Value} {L' : List (Nat × BA)} (M : Mem w0 ex w L) (T : Tm a n E) (ho : op.op = .store ty x y) (hd : op.dst = none) (hx : a.eval x = .pointer (some ⟨g, 0 + k * 18, none⟩)) (hy : a.eval y = .agg (jobL j B c).toArray)
    (hu : Upd L g (.cells (jc l ++ ys)) (.cells (jc (l.set k (j, B, c)) ++ ys)) L') (hk : k < l.length) (hi : (P.info? ty).map (·.size) = some 18)
    (h : ∀ w' a', Mem w0 ex w' L' → Tm a' n E → K a' w') : op.wp P a w K Q := by
  have e18 : (jobL j B c).length = 18 := rfl
  refine m_stw (ds := jobL j B c) M ho hx hy rfl hu ?_ (by rw [e18, List.length_append, jc_length]; omega) rfl (by rw [e18]; exact hi) fun w' M' => h w' _ M' (by rw [hd]; exact T)
  rw [e18, Nat.zero_add, List.take_append_of_le_length (by rw [jc_length]; omega), List.drop_append_of_le_length (by rw [jc_length]; omega), ← List.append_assoc, jc_set l k (j, B, c) hk]
end

theorem Try.info30 : (Try.prog.info? 30).map (fun i => (i.zero, i.size, i.bytes)) = some (some (.agg #[.int .i64 0, .int .i64 0, .int .i64 0, .int .i64 0, .int .i64 0, .int .i64 0, .int .i64 0, .int .i64 0, .int .i64 0, .int .i64 0, .int .i64 0, .int .i64 0, .int .i64 0, .int .i64 0, .int .i64 0, .slice none 0 0, .int .i64 0, .int .i64 0]), 18, 160) := by kernel_rfl
theorem Try.append0j (B : Option Addr) (d g : Nat) (ty : TypeId) (w : World) : (Builtin.append_ #[36, 36] ty #[.slice (some ⟨g, 0, none⟩) 0 0, .slice B 0 d]).run Try.prog w = .ok (.slice (some ⟨g, 0, none⟩) 0 0) w := by
  cases B <;> kernel_rfl
def SlowPost (j : Jb) (w : World) (e : Ending) (w' : World) : Prop := ∃ b, e = .returned (.bool b) ∧ (b = false → j.sh.length ≤ 20) ∧ Below w.heap.size w w'
theorem Sl.spJ {e n c size : Nat} {A : Option Addr} {xs : List Value} {I : List (Nat × BA)} (h : Sl e size (.slice A n c) n xs I) (hl : xs.length = n * size) : ∃ b o, ∀ (w : World) (ex : Nat → Prop), Sp w ex I A n size b o xs := by
  rcases h with ⟨h1, rfl, rfl, rfl⟩ | ⟨g, cap, h1, rfl⟩
  · exact ⟨0, 0, fun w ex => Sp.nil⟩
  · injection h1 with h1 _ h2
    subst h1
    exact ⟨g, 0, fun w ex => Sp.row hl⟩
theorem Sm.spJ {e n c size : Nat} {A : Option Addr} {xs : List Value} {I : List (Nat × BA)} (h : Sm e size A n c xs I) (hl : xs.length = n * size) : ∃ b o, ∀ (w : World) (ex : Nat → Prop), Sp w ex I A n size b o xs := by
  rcases h with ⟨rfl, rfl, _, g, rfl, rfl⟩ | ⟨g, rfl, rfl⟩
  · exact ⟨0, 0, fun w ex => ⟨fun h => absurd h (by omega), by simp, fun _ _ _ _ h => absurd h (by omega), fun _ _ _ _ j u hu => by simp at hu⟩⟩
  · exact ⟨g, 0, fun w ex => Sp.row hl⟩
theorem Mem.swapT {w0 w : World} {ex : Nat → Prop} (H X Y Z : List (Nat × BA)) (M : Mem w0 ex w (H ++ (X ++ Y ++ Z))) : Mem w0 ex w (H ++ (X ++ Z ++ Y)) := by
  have hp : (H ++ (X ++ Y ++ Z)).Perm (H ++ (X ++ Z ++ Y)) := List.Perm.append_left H (by rw [List.append_assoc, List.append_assoc]; exact List.Perm.append_left X List.perm_append_comm)
  exact ⟨M.os, M.tape, M.output, M.size, M.block, fun p h => M.blk p (hp.mem_iff.2 h), (hp.map _).nodup_iff.1 M.nd⟩
theorem best_congr : ∀ (L L' : List JE) (i : Int) (a : Int × Int), L.map (·.1) = L'.map (·.1) → bestF L i a = bestF L' i a
  | [], [], _, _, _ => rfl
  | [], _ :: _, _, _, h => by cases h
  | _ :: _, [], _, _, h => by cases h
  | x :: L, y :: L', i, a, h => by
    simp only [List.map_cons, List.cons.injEq] at h
    unfold bestF
    rw [h.1]
    exact best_congr L L' _ _ h.2
theorem chkJs_congr : ∀ (L L' : List JE), L.map (·.1) = L'.map (·.1) → chkJs L = chkJs L'
  | [], [], _ => rfl
  | [], _ :: _, h => by cases h
  | _ :: _, [], h => by cases h
  | x :: L, y :: L', h => by
    simp only [List.map_cons, List.cons.injEq] at h
    unfold chkJs
    rw [h.1, chkJs_congr L L' h.2]
theorem blankT_congr {L L' : List JE} (h : L.map (·.1) = L'.map (·.1)) : blankT L = blankT L' := by
  have hl : L.length = L'.length := by have := congrArg List.length h; simpa using this
  unfold blankT
  rw [hl, chkJs_congr L L' h, best_congr L L' _ _ h]
theorem Blank_as (A : Option Addr) (c : Nat) (L L' : List JE) (w : World) (hr : Rd w w.heap.size 18 A L.length (jc L)) (hE : ∀ x ∈ L, Rd w w.heap.size 2 x.2.1 x.1.sh.length (rc x.1.sh) ∧ x.1.sh.length ≤ 9223372036854775807) (hn : L.length ≤ 9223372036854775807) (h : L.map (·.1) = L'.map (·.1)) :
    Calls Try.prog 58 #[.slice A L.length c] w fun e w' => e = .returned (.tuple #[.int .i64 ((blankT L').1), .int .i64 ((blankT L').2.1), .int .i64 ((blankT L').2.2)]) ∧ Below w.heap.size w w' := by
  have h9 := Blank_any A c L w hr hE hn
  rw [blankT_congr h] at h9
  exact h9


set_option maxRecDepth 100000 in
set_option maxHeartbeats 1000000 in
theorem slow_any (j : Jb) (A : Option Addr) (c : Nat) (w : World) (hr : Rd w w.heap.size 2 A j.sh.length (rc j.sh)) (hn : j.sh.length ≤ 9223372036854775807) :
    Calls Try.prog 23 #[jobV j A c] w (SlowPost j w) := by
  obtain ⟨bJ, oJ, SJ⟩ := Sp.old hr
  refine px_enter noEx Try.func23 rfl 51 rfl [.agg #[.int .i64 j.p0, .int .i64 j.p1, .int .i64 j.t0, .int .i64 j.t1, .int .i64 j.r0, .int .i64 j.r1, .int .i64 j.u0, .int .i64 j.u1, .int .i64 j.d0, .int .i64 j.d1, .int .i64 j.a0, .int .i64 j.a1, .int .i64 j.b0, .int .i64 j.b1, .int .i64 j.le, .slice A j.sh.length c, .int .i64 j.wi, .int .i64 j.me]] rfl rfl (Mem.init w _) ?_
  intro ac wc T M
  refine wp_seq ?_
  refine wp_region_lit ?_
  refine l_w rfl ?_; intro K hK
  refine ow_bx M T rfl rfl rfl rfl (T.ev 0 rfl) rfl ?_; clear M T; intro g1 wc ac M T
  refine sh_out hK _ _ ?_; clear hK K
  refine l_q T rfl rfl rfl rfl (rn_assign rfl evc) ?_; clear T ac; intro ac T
  refine wpList_nil ?_
  replace T := T.pick [1] rfl
  refine nm_then ?_
  refine wp_seq ?_
  refine wp_seq ?_
  refine wp_region_lit ?_
  refine l_q (v := (.pointer (some ⟨g1, 15, none⟩))) T rfl rfl rfl rfl (rn_fieldAddr (off := 15) rfl (T.ev 0 rfl) (fun _ _ _ => by kernel_rfl)) ?_; clear T ac; intro ac T
  refine l_q T rfl rfl rfl rfl (rn_one (Mem.nth M 0 rfl) rfl (T.ev 0 rfl) rfl) ?_; clear T ac; intro ac T
  refine l_q T rfl rfl rfl rfl (rn_lenS rfl Try.underlying28 (T.ev 0 rfl)) ?_; clear T ac; intro ac T
  refine l_q T rfl rfl rfl rfl (rn_gtr rfl (T.ev 0 rfl) evc) ?_; clear T ac; intro ac T
  refine wpList_nil ?_
  replace T := T.pick [0, 4] rfl
  refine nm_then ?_
  refine wp_if (T.ev 0 rfl) ?_ ?_
  · intro h1
    refine wp_seq ?_
    refine wp_region_lit ?_
    refine l_q T rfl rfl rfl rfl (rn_assign rfl evc) ?_; clear T ac; intro ac T
    refine wpList_nil ?_
    replace T := T.pick [0] rfl
    replace M := M.mask [false] rfl
    refine nm_then ?_
    refine wp_ret ?_
    refine rt_then ?_
    refine rt_1 T rfl (T.ev 0 rfl) ?_
    exact ⟨_, rfl, fun h9 => by first | omega | (simp at h9; done), M.below⟩
  · intro h1
    refine wp_skip ?_
    refine nm_then ?_
    refine cut_seq (fun ac wc => Tm ac 51 [(2, .bool ((decide ((checkJ j) = 0)) && ((decide (8 < (j.p1 - j.p0))) || ((decide (3 < (j.u1 - j.u0))) || ((decide (3 < (j.d1 - j.d0))) || (decide (3 < j.me)))))))] ∧ Mem w noEx wc []) ?_ ?_
    · refine wp_region_lit ?_
      refine l_q T rfl rfl rfl rfl (rn_rowO (Mem.nth M 0 rfl) rfl (T.ev 1 rfl) rfl) ?_; clear T ac; intro ac T
      refine l_w rfl ?_; intro K hK
      refine ow_call (first := []) (cap := []) T rfl rfl rfl rfl evf (.cons (T.ev 0 rfl) .nil) Try.func50 rfl rfl ?_
      refine Calls.mono (rCheck_any j _ _ _ (SJ.rd M (List.nil_sublist _)) (by omega)) ?_
      clear T
      rintro e wc ⟨rfl, hb⟩
      intro ac T
      replace M := M.call hb; clear hb
      refine sh_out hK _ _ ?_; clear hK K
      refine l_q T rfl rfl rfl rfl (rn_eql rfl (T.ev 0 rfl) evc) ?_; clear T ac; intro ac T
      refine l_q T rfl rfl rfl rfl (rn_move rfl (T.ev 0 rfl)) ?_; clear T ac; intro ac T
      rcases Bool.eq_false_or_eq_true (decide ((checkJ j) = 0)) with h2 | h2
      · replace h2 := of_decide_eq_true h2
        have hj := good_of h2
        have hp := hj.p
        have hu := hj.u
        have hd := hj.d
        have hme := hj.me
        refine l_q (v := (.pointer (some ⟨g1, 0, none⟩))) T (wanted_yes rfl rfl (T.ev 0 rfl) (decide_eq_true h2)) rfl rfl rfl (rn_fieldAddr (off := 0) rfl (T.ev 5 rfl) (fun _ _ _ => by kernel_rfl)) ?_; clear T ac; intro ac T
        refine l_q (v := (.pointer (some ⟨g1, 0, none⟩))) T (wanted_yes rfl rfl (T.ev 1 rfl) (decide_eq_true h2)) rfl rfl rfl (rn_fieldAddr (off := 0) rfl (T.ev 0 rfl) (fun _ _ _ => by kernel_rfl)) ?_; clear T ac; intro ac T
        refine l_q (v := (.pointer (some ⟨g1, 1, none⟩))) T (wanted_yes rfl rfl (T.ev 2 rfl) (decide_eq_true h2)) rfl rfl rfl (rn_fieldAddr (off := 1) rfl (T.ev 0 rfl) (fun _ _ _ => by kernel_rfl)) ?_; clear T ac; intro ac T
        refine l_q T (wanted_yes rfl rfl (T.ev 3 rfl) (decide_eq_true h2)) rfl rfl rfl (rn_one (Mem.nth M 0 rfl) rfl (T.ev 0 rfl) rfl) ?_; clear T ac; intro ac T
        refine l_q (v := (.pointer (some ⟨g1, 0, none⟩))) T (wanted_yes rfl rfl (T.ev 4 rfl) (decide_eq_true h2)) rfl rfl rfl (rn_fieldAddr (off := 0) rfl (T.ev 9 rfl) (fun _ _ _ => by kernel_rfl)) ?_; clear T ac; intro ac T
        refine l_q (v := (.pointer (some ⟨g1, 0, none⟩))) T (wanted_yes rfl rfl (T.ev 5 rfl) (decide_eq_true h2)) rfl rfl rfl (rn_fieldAddr (off := 0) rfl (T.ev 0 rfl) (fun _ _ _ => by kernel_rfl)) ?_; clear T ac; intro ac T
        refine l_q (v := (.pointer (some ⟨g1, 0, none⟩))) T (wanted_yes rfl rfl (T.ev 6 rfl) (decide_eq_true h2)) rfl rfl rfl (rn_fieldAddr (off := 0) rfl (T.ev 0 rfl) (fun _ _ _ => by kernel_rfl)) ?_; clear T ac; intro ac T
        refine l_q T (wanted_yes rfl rfl (T.ev 7 rfl) (decide_eq_true h2)) rfl rfl rfl (rn_one (Mem.nth M 0 rfl) rfl (T.ev 0 rfl) rfl) ?_; clear T ac; intro ac T
        refine l_q T (wanted_yes rfl rfl (T.ev 8 rfl) (decide_eq_true h2)) rfl rfl rfl (rn_sub rfl (T.ev 4 rfl) (T.ev 0 rfl) (by omega)) ?_; clear T ac; intro ac T
        refine l_q T (wanted_yes rfl rfl (T.ev 9 rfl) (decide_eq_true h2)) rfl rfl rfl (rn_gtr rfl (T.ev 0 rfl) evc) ?_; clear T ac; intro ac T
        refine l_q T (wanted_yes rfl rfl (T.ev 10 rfl) (decide_eq_true h2)) rfl rfl rfl (rn_move rfl (T.ev 0 rfl)) ?_; clear T ac; intro ac T
        rcases Bool.eq_false_or_eq_true (decide (8 < (j.p1 - j.p0))) with h3 | h3
        · replace h3 := of_decide_eq_true h3
          refine l_pass T (wanted_no rfl rfl (T.ev 0 rfl) (decide_eq_true h3)) rfl rfl rfl ?_; clear T ac; intro ac T
          refine l_pass T (wanted_no rfl rfl (T.ev 1 rfl) (decide_eq_true h3)) rfl rfl rfl ?_; clear T ac; intro ac T
          refine l_pass T (wanted_no rfl rfl (T.ev 2 rfl) (decide_eq_true h3)) rfl rfl rfl ?_; clear T ac; intro ac T
          refine l_pass T (wanted_no rfl rfl (T.ev 3 rfl) (decide_eq_true h3)) rfl rfl rfl ?_; clear T ac; intro ac T
          refine l_pass T (wanted_no rfl rfl (T.ev 4 rfl) (decide_eq_true h3)) rfl rfl rfl ?_; clear T ac; intro ac T
          refine l_pass T (wanted_no rfl rfl (T.ev 5 rfl) (decide_eq_true h3)) rfl rfl rfl ?_; clear T ac; intro ac T
          refine l_pass T (wanted_no rfl rfl (T.ev 6 rfl) (decide_eq_true h3)) rfl rfl rfl ?_; clear T ac; intro ac T
          refine l_pass T (wanted_no rfl rfl (T.ev 7 rfl) (decide_eq_true h3)) rfl rfl rfl ?_; clear T ac; intro ac T
          refine l_pass T (wanted_no rfl rfl (T.ev 8 rfl) (decide_eq_true h3)) rfl rfl rfl ?_; clear T ac; intro ac T
          refine l_pass T (wanted_no rfl rfl (T.ev 9 rfl) (decide_eq_true h3)) rfl rfl rfl ?_; clear T ac; intro ac T
          refine l_q T (wanted_yes rfl rfl (T.ev 21 rfl) (decide_eq_true h2)) rfl rfl rfl (rn_pick1 rfl (T.ev 10 rfl) (decide_eq_true h3) evc) ?_; clear T ac; intro ac T
          refine l_q T (wanted_yes rfl rfl (T.ev 22 rfl) (decide_eq_true h2)) rfl rfl rfl (rn_move rfl (T.ev 0 rfl)) ?_; clear T ac; intro ac T
          refine l_pass T (wanted_no rfl rfl (T.ev 0 rfl) rfl) rfl rfl rfl ?_; clear T ac; intro ac T
          refine l_pass T (wanted_no rfl rfl (T.ev 1 rfl) rfl) rfl rfl rfl ?_; clear T ac; intro ac T
          refine l_pass T (wanted_no rfl rfl (T.ev 2 rfl) rfl) rfl rfl rfl ?_; clear T ac; intro ac T
          refine l_pass T (wanted_no rfl rfl (T.ev 3 rfl) rfl) rfl rfl rfl ?_; clear T ac; intro ac T
          refine l_pass T (wanted_no rfl rfl (T.ev 4 rfl) rfl) rfl rfl rfl ?_; clear T ac; intro ac T
          refine l_pass T (wanted_no rfl rfl (T.ev 5 rfl) rfl) rfl rfl rfl ?_; clear T ac; intro ac T
          refine l_pass T (wanted_no rfl rfl (T.ev 6 rfl) rfl) rfl rfl rfl ?_; clear T ac; intro ac T
          refine l_pass T (wanted_no rfl rfl (T.ev 7 rfl) rfl) rfl rfl rfl ?_; clear T ac; intro ac T
          refine l_pass T (wanted_no rfl rfl (T.ev 8 rfl) rfl) rfl rfl rfl ?_; clear T ac; intro ac T
          refine l_pass T (wanted_no rfl rfl (T.ev 9 rfl) rfl) rfl rfl rfl ?_; clear T ac; intro ac T
          refine l_q T (wanted_yes rfl rfl (T.ev 33 rfl) (decide_eq_true h2)) rfl rfl rfl (rn_pick1 rfl (T.ev 10 rfl) rfl evc) ?_; clear T ac; intro ac T
          refine l_q T (wanted_yes rfl rfl (T.ev 34 rfl) (decide_eq_true h2)) rfl rfl rfl (rn_move rfl (T.ev 0 rfl)) ?_; clear T ac; intro ac T
          refine l_pass T (wanted_no rfl rfl (T.ev 0 rfl) rfl) rfl rfl rfl ?_; clear T ac; intro ac T
          refine l_pass T (wanted_no rfl rfl (T.ev 1 rfl) rfl) rfl rfl rfl ?_; clear T ac; intro ac T
          refine l_pass T (wanted_no rfl rfl (T.ev 2 rfl) rfl) rfl rfl rfl ?_; clear T ac; intro ac T
          refine l_q T (wanted_yes rfl rfl (T.ev 38 rfl) (decide_eq_true h2)) rfl rfl rfl (rn_pick1 rfl (T.ev 3 rfl) rfl evc) ?_; clear T ac; intro ac T
          refine l_q T rfl rfl rfl rfl (rn_pick1 rfl (T.ev 39 rfl) (decide_eq_true h2) (T.ev 0 rfl)) ?_; clear T ac; intro ac T
          refine l_q T rfl rfl rfl rfl (rn_assign rfl (T.ev 0 rfl)) ?_; clear T ac; intro ac T
          refine wpList_nil ?_
          replace T := T.pick [0] rfl
          replace M := M.mask [false] rfl
          exact ⟨(T.pick (E' := [(2, .bool true)]) [0] rfl).as (by (try rw [show (decide ((checkJ j) = 0)) = true from (decide_eq_true h2)]); (try rw [show (decide (8 < (j.p1 - j.p0))) = true from (decide_eq_true h3)]); rfl), M.mask [] rfl⟩
        · replace h3 := of_decide_eq_false h3
          refine l_q (v := (.pointer (some ⟨g1, 6, none⟩))) T (wanted_yes rfl rfl (T.ev 0 rfl) (decide_eq_false h3)) rfl rfl rfl (rn_fieldAddr (off := 6) rfl (T.ev 16 rfl) (fun _ _ _ => by kernel_rfl)) ?_; clear T ac; intro ac T
          refine l_q (v := (.pointer (some ⟨g1, 6, none⟩))) T (wanted_yes rfl rfl (T.ev 1 rfl) (decide_eq_false h3)) rfl rfl rfl (rn_fieldAddr (off := 0) rfl (T.ev 0 rfl) (fun _ _ _ => by kernel_rfl)) ?_; clear T ac; intro ac T
          refine l_q (v := (.pointer (some ⟨g1, 7, none⟩))) T (wanted_yes rfl rfl (T.ev 2 rfl) (decide_eq_false h3)) rfl rfl rfl (rn_fieldAddr (off := 1) rfl (T.ev 0 rfl) (fun _ _ _ => by kernel_rfl)) ?_; clear T ac; intro ac T
          refine l_q T (wanted_yes rfl rfl (T.ev 3 rfl) (decide_eq_false h3)) rfl rfl rfl (rn_one (Mem.nth M 0 rfl) rfl (T.ev 0 rfl) rfl) ?_; clear T ac; intro ac T
          refine l_q (v := (.pointer (some ⟨g1, 6, none⟩))) T (wanted_yes rfl rfl (T.ev 4 rfl) (decide_eq_false h3)) rfl rfl rfl (rn_fieldAddr (off := 6) rfl (T.ev 20 rfl) (fun _ _ _ => by kernel_rfl)) ?_; clear T ac; intro ac T
          refine l_q (v := (.pointer (some ⟨g1, 6, none⟩))) T (wanted_yes rfl rfl (T.ev 5 rfl) (decide_eq_false h3)) rfl rfl rfl (rn_fieldAddr (off := 0) rfl (T.ev 0 rfl) (fun _ _ _ => by kernel_rfl)) ?_; clear T ac; intro ac T
          refine l_q (v := (.pointer (some ⟨g1, 6, none⟩))) T (wanted_yes rfl rfl (T.ev 6 rfl) (decide_eq_false h3)) rfl rfl rfl (rn_fieldAddr (off := 0) rfl (T.ev 0 rfl) (fun _ _ _ => by kernel_rfl)) ?_; clear T ac; intro ac T
          refine l_q T (wanted_yes rfl rfl (T.ev 7 rfl) (decide_eq_false h3)) rfl rfl rfl (rn_one (Mem.nth M 0 rfl) rfl (T.ev 0 rfl) rfl) ?_; clear T ac; intro ac T
          refine l_q T (wanted_yes rfl rfl (T.ev 8 rfl) (decide_eq_false h3)) rfl rfl rfl (rn_sub rfl (T.ev 4 rfl) (T.ev 0 rfl) (by omega)) ?_; clear T ac; intro ac T
          refine l_q T (wanted_yes rfl rfl (T.ev 9 rfl) (decide_eq_false h3)) rfl rfl rfl (rn_gtr rfl (T.ev 0 rfl) evc) ?_; clear T ac; intro ac T
          refine l_q T (wanted_yes rfl rfl (T.ev 21 rfl) (decide_eq_true h2)) rfl rfl rfl (rn_pick0 rfl (T.ev 10 rfl) (decide_eq_false h3) (T.ev 0 rfl)) ?_; clear T ac; intro ac T
          refine l_q T (wanted_yes rfl rfl (T.ev 22 rfl) (decide_eq_true h2)) rfl rfl rfl (rn_move rfl (T.ev 0 rfl)) ?_; clear T ac; intro ac T
          rcases Bool.eq_false_or_eq_true (decide (3 < (j.u1 - j.u0))) with h4 | h4
          · replace h4 := of_decide_eq_true h4
            refine l_pass T (wanted_no rfl rfl (T.ev 0 rfl) (decide_eq_true h4)) rfl rfl rfl ?_; clear T ac; intro ac T
            refine l_pass T (wanted_no rfl rfl (T.ev 1 rfl) (decide_eq_true h4)) rfl rfl rfl ?_; clear T ac; intro ac T
            refine l_pass T (wanted_no rfl rfl (T.ev 2 rfl) (decide_eq_true h4)) rfl rfl rfl ?_; clear T ac; intro ac T
            refine l_pass T (wanted_no rfl rfl (T.ev 3 rfl) (decide_eq_true h4)) rfl rfl rfl ?_; clear T ac; intro ac T
            refine l_pass T (wanted_no rfl rfl (T.ev 4 rfl) (decide_eq_true h4)) rfl rfl rfl ?_; clear T ac; intro ac T
            refine l_pass T (wanted_no rfl rfl (T.ev 5 rfl) (decide_eq_true h4)) rfl rfl rfl ?_; clear T ac; intro ac T
            refine l_pass T (wanted_no rfl rfl (T.ev 6 rfl) (decide_eq_true h4)) rfl rfl rfl ?_; clear T ac; intro ac T
            refine l_pass T (wanted_no rfl rfl (T.ev 7 rfl) (decide_eq_true h4)) rfl rfl rfl ?_; clear T ac; intro ac T
            refine l_pass T (wanted_no rfl rfl (T.ev 8 rfl) (decide_eq_true h4)) rfl rfl rfl ?_; clear T ac; intro ac T
            refine l_pass T (wanted_no rfl rfl (T.ev 9 rfl) (decide_eq_true h4)) rfl rfl rfl ?_; clear T ac; intro ac T
            refine l_q T (wanted_yes rfl rfl (T.ev 33 rfl) (decide_eq_true h2)) rfl rfl rfl (rn_pick1 rfl (T.ev 10 rfl) (decide_eq_true h4) evc) ?_; clear T ac; intro ac T
            refine l_q T (wanted_yes rfl rfl (T.ev 34 rfl) (decide_eq_true h2)) rfl rfl rfl (rn_move rfl (T.ev 0 rfl)) ?_; clear T ac; intro ac T
            refine l_pass T (wanted_no rfl rfl (T.ev 0 rfl) rfl) rfl rfl rfl ?_; clear T ac; intro ac T
            refine l_pass T (wanted_no rfl rfl (T.ev 1 rfl) rfl) rfl rfl rfl ?_; clear T ac; intro ac T
            refine l_pass T (wanted_no rfl rfl (T.ev 2 rfl) rfl) rfl rfl rfl ?_; clear T ac; intro ac T
            refine l_q T (wanted_yes rfl rfl (T.ev 38 rfl) (decide_eq_true h2)) rfl rfl rfl (rn_pick1 rfl (T.ev 3 rfl) rfl evc) ?_; clear T ac; intro ac T
            refine l_q T rfl rfl rfl rfl (rn_pick1 rfl (T.ev 39 rfl) (decide_eq_true h2) (T.ev 0 rfl)) ?_; clear T ac; intro ac T
            refine l_q T rfl rfl rfl rfl (rn_assign rfl (T.ev 0 rfl)) ?_; clear T ac; intro ac T
            refine wpList_nil ?_
            replace T := T.pick [0] rfl
            replace M := M.mask [false] rfl
            exact ⟨(T.pick (E' := [(2, .bool true)]) [0] rfl).as (by (try rw [show (decide ((checkJ j) = 0)) = true from (decide_eq_true h2)]); (try rw [show (decide (8 < (j.p1 - j.p0))) = false from (decide_eq_false h3)]); (try rw [show (decide (3 < (j.u1 - j.u0))) = true from (decide_eq_true h4)]); rfl), M.mask [] rfl⟩
          · replace h4 := of_decide_eq_false h4
            refine l_q (v := (.pointer (some ⟨g1, 6, none⟩))) T (wanted_yes rfl rfl (T.ev 0 rfl) (decide_eq_false h4)) rfl rfl rfl (rn_fieldAddr (off := 6) rfl (T.ev 28 rfl) (fun _ _ _ => by kernel_rfl)) ?_; clear T ac; intro ac T
            refine l_q (v := (.pointer (some ⟨g1, 8, none⟩))) T (wanted_yes rfl rfl (T.ev 1 rfl) (decide_eq_false h4)) rfl rfl rfl (rn_fieldAddr (off := 2) rfl (T.ev 0 rfl) (fun _ _ _ => by kernel_rfl)) ?_; clear T ac; intro ac T
            refine l_q (v := (.pointer (some ⟨g1, 9, none⟩))) T (wanted_yes rfl rfl (T.ev 2 rfl) (decide_eq_false h4)) rfl rfl rfl (rn_fieldAddr (off := 1) rfl (T.ev 0 rfl) (fun _ _ _ => by kernel_rfl)) ?_; clear T ac; intro ac T
            refine l_q T (wanted_yes rfl rfl (T.ev 3 rfl) (decide_eq_false h4)) rfl rfl rfl (rn_one (Mem.nth M 0 rfl) rfl (T.ev 0 rfl) rfl) ?_; clear T ac; intro ac T
            refine l_q (v := (.pointer (some ⟨g1, 6, none⟩))) T (wanted_yes rfl rfl (T.ev 4 rfl) (decide_eq_false h4)) rfl rfl rfl (rn_fieldAddr (off := 6) rfl (T.ev 32 rfl) (fun _ _ _ => by kernel_rfl)) ?_; clear T ac; intro ac T
            refine l_q (v := (.pointer (some ⟨g1, 8, none⟩))) T (wanted_yes rfl rfl (T.ev 5 rfl) (decide_eq_false h4)) rfl rfl rfl (rn_fieldAddr (off := 2) rfl (T.ev 0 rfl) (fun _ _ _ => by kernel_rfl)) ?_; clear T ac; intro ac T
            refine l_q (v := (.pointer (some ⟨g1, 8, none⟩))) T (wanted_yes rfl rfl (T.ev 6 rfl) (decide_eq_false h4)) rfl rfl rfl (rn_fieldAddr (off := 0) rfl (T.ev 0 rfl) (fun _ _ _ => by kernel_rfl)) ?_; clear T ac; intro ac T
            refine l_q T (wanted_yes rfl rfl (T.ev 7 rfl) (decide_eq_false h4)) rfl rfl rfl (rn_one (Mem.nth M 0 rfl) rfl (T.ev 0 rfl) rfl) ?_; clear T ac; intro ac T
            refine l_q T (wanted_yes rfl rfl (T.ev 8 rfl) (decide_eq_false h4)) rfl rfl rfl (rn_sub rfl (T.ev 4 rfl) (T.ev 0 rfl) (by omega)) ?_; clear T ac; intro ac T
            refine l_q T (wanted_yes rfl rfl (T.ev 9 rfl) (decide_eq_false h4)) rfl rfl rfl (rn_gtr rfl (T.ev 0 rfl) evc) ?_; clear T ac; intro ac T
            refine l_q T (wanted_yes rfl rfl (T.ev 33 rfl) (decide_eq_true h2)) rfl rfl rfl (rn_pick0 rfl (T.ev 10 rfl) (decide_eq_false h4) (T.ev 0 rfl)) ?_; clear T ac; intro ac T
            refine l_q T (wanted_yes rfl rfl (T.ev 34 rfl) (decide_eq_true h2)) rfl rfl rfl (rn_move rfl (T.ev 0 rfl)) ?_; clear T ac; intro ac T
            rcases Bool.eq_false_or_eq_true (decide (3 < (j.d1 - j.d0))) with h5 | h5
            · replace h5 := of_decide_eq_true h5
              refine l_pass T (wanted_no rfl rfl (T.ev 0 rfl) (decide_eq_true h5)) rfl rfl rfl ?_; clear T ac; intro ac T
              refine l_pass T (wanted_no rfl rfl (T.ev 1 rfl) (decide_eq_true h5)) rfl rfl rfl ?_; clear T ac; intro ac T
              refine l_pass T (wanted_no rfl rfl (T.ev 2 rfl) (decide_eq_true h5)) rfl rfl rfl ?_; clear T ac; intro ac T
              refine l_q T (wanted_yes rfl rfl (T.ev 38 rfl) (decide_eq_true h2)) rfl rfl rfl (rn_pick1 rfl (T.ev 3 rfl) (decide_eq_true h5) evc) ?_; clear T ac; intro ac T
              refine l_q T rfl rfl rfl rfl (rn_pick1 rfl (T.ev 39 rfl) (decide_eq_true h2) (T.ev 0 rfl)) ?_; clear T ac; intro ac T
              refine l_q T rfl rfl rfl rfl (rn_assign rfl (T.ev 0 rfl)) ?_; clear T ac; intro ac T
              refine wpList_nil ?_
              replace T := T.pick [0] rfl
              replace M := M.mask [false] rfl
              exact ⟨(T.pick (E' := [(2, .bool true)]) [0] rfl).as (by (try rw [show (decide ((checkJ j) = 0)) = true from (decide_eq_true h2)]); (try rw [show (decide (8 < (j.p1 - j.p0))) = false from (decide_eq_false h3)]); (try rw [show (decide (3 < (j.u1 - j.u0))) = false from (decide_eq_false h4)]); (try rw [show (decide (3 < (j.d1 - j.d0))) = true from (decide_eq_true h5)]); rfl), M.mask [] rfl⟩
            · replace h5 := of_decide_eq_false h5
              refine l_q (v := (.pointer (some ⟨g1, 17, none⟩))) T (wanted_yes rfl rfl (T.ev 0 rfl) (decide_eq_false h5)) rfl rfl rfl (rn_fieldAddr (off := 17) rfl (T.ev 40 rfl) (fun _ _ _ => by kernel_rfl)) ?_; clear T ac; intro ac T
              refine l_q T (wanted_yes rfl rfl (T.ev 1 rfl) (decide_eq_false h5)) rfl rfl rfl (rn_one (Mem.nth M 0 rfl) rfl (T.ev 0 rfl) rfl) ?_; clear T ac; intro ac T
              refine l_q T (wanted_yes rfl rfl (T.ev 2 rfl) (decide_eq_false h5)) rfl rfl rfl (rn_gtr rfl (T.ev 0 rfl) evc) ?_; clear T ac; intro ac T
              refine l_q T (wanted_yes rfl rfl (T.ev 38 rfl) (decide_eq_true h2)) rfl rfl rfl (rn_pick0 rfl (T.ev 3 rfl) (decide_eq_false h5) (T.ev 0 rfl)) ?_; clear T ac; intro ac T
              refine l_q T rfl rfl rfl rfl (rn_pick1 rfl (T.ev 39 rfl) (decide_eq_true h2) (T.ev 0 rfl)) ?_; clear T ac; intro ac T
              refine l_q T rfl rfl rfl rfl (rn_assign rfl (T.ev 0 rfl)) ?_; clear T ac; intro ac T
              refine wpList_nil ?_
              replace T := T.pick [0] rfl
              replace M := M.mask [false] rfl
              exact ⟨(T.pick (E' := [(2, .bool (decide (3 < j.me)))]) [0] rfl).as (by (try rw [show (decide ((checkJ j) = 0)) = true from (decide_eq_true h2)]); (try rw [show (decide (8 < (j.p1 - j.p0))) = false from (decide_eq_false h3)]); (try rw [show (decide (3 < (j.u1 - j.u0))) = false from (decide_eq_false h4)]); (try rw [show (decide (3 < (j.d1 - j.d0))) = false from (decide_eq_false h5)]); rfl), M.mask [] rfl⟩
      · replace h2 := of_decide_eq_false h2
        refine l_pass T (wanted_no rfl rfl (T.ev 0 rfl) (decide_eq_false h2)) rfl rfl rfl ?_; clear T ac; intro ac T
        refine l_pass T (wanted_no rfl rfl (T.ev 1 rfl) (decide_eq_false h2)) rfl rfl rfl ?_; clear T ac; intro ac T
        refine l_pass T (wanted_no rfl rfl (T.ev 2 rfl) (decide_eq_false h2)) rfl rfl rfl ?_; clear T ac; intro ac T
        refine l_pass T (wanted_no rfl rfl (T.ev 3 rfl) (decide_eq_false h2)) rfl rfl rfl ?_; clear T ac; intro ac T
        refine l_pass T (wanted_no rfl rfl (T.ev 4 rfl) (decide_eq_false h2)) rfl rfl rfl ?_; clear T ac; intro ac T
        refine l_pass T (wanted_no rfl rfl (T.ev 5 rfl) (decide_eq_false h2)) rfl rfl rfl ?_; clear T ac; intro ac T
        refine l_pass T (wanted_no rfl rfl (T.ev 6 rfl) (decide_eq_false h2)) rfl rfl rfl ?_; clear T ac; intro ac T
        refine l_pass T (wanted_no rfl rfl (T.ev 7 rfl) (decide_eq_false h2)) rfl rfl rfl ?_; clear T ac; intro ac T
        refine l_pass T (wanted_no rfl rfl (T.ev 8 rfl) (decide_eq_false h2)) rfl rfl rfl ?_; clear T ac; intro ac T
        refine l_pass T (wanted_no rfl rfl (T.ev 9 rfl) (decide_eq_false h2)) rfl rfl rfl ?_; clear T ac; intro ac T
        refine l_pass T (wanted_no rfl rfl (T.ev 10 rfl) (decide_eq_false h2)) rfl rfl rfl ?_; clear T ac; intro ac T
        refine l_pass T (wanted_un rfl rfl (T.ev 0 rfl)) rfl rfl rfl ?_; clear T ac; intro ac T
        refine l_pass T (wanted_un rfl rfl (T.ev 1 rfl)) rfl rfl rfl ?_; clear T ac; intro ac T
        refine l_pass T (wanted_un rfl rfl (T.ev 2 rfl)) rfl rfl rfl ?_; clear T ac; intro ac T
        refine l_pass T (wanted_un rfl rfl (T.ev 3 rfl)) rfl rfl rfl ?_; clear T ac; intro ac T
        refine l_pass T (wanted_un rfl rfl (T.ev 4 rfl)) rfl rfl rfl ?_; clear T ac; intro ac T
        refine l_pass T (wanted_un rfl rfl (T.ev 5 rfl)) rfl rfl rfl ?_; clear T ac; intro ac T
        refine l_pass T (wanted_un rfl rfl (T.ev 6 rfl)) rfl rfl rfl ?_; clear T ac; intro ac T
        refine l_pass T (wanted_un rfl rfl (T.ev 7 rfl)) rfl rfl rfl ?_; clear T ac; intro ac T
        refine l_pass T (wanted_un rfl rfl (T.ev 8 rfl)) rfl rfl rfl ?_; clear T ac; intro ac T
        refine l_pass T (wanted_un rfl rfl (T.ev 9 rfl)) rfl rfl rfl ?_; clear T ac; intro ac T
        refine l_pass T (wanted_no rfl rfl (T.ev 21 rfl) (decide_eq_false h2)) rfl rfl rfl ?_; clear T ac; intro ac T
        refine l_pass T (wanted_no rfl rfl (T.ev 22 rfl) (decide_eq_false h2)) rfl rfl rfl ?_; clear T ac; intro ac T
        refine l_pass T (wanted_un rfl rfl (T.ev 0 rfl)) rfl rfl rfl ?_; clear T ac; intro ac T
        refine l_pass T (wanted_un rfl rfl (T.ev 1 rfl)) rfl rfl rfl ?_; clear T ac; intro ac T
        refine l_pass T (wanted_un rfl rfl (T.ev 2 rfl)) rfl rfl rfl ?_; clear T ac; intro ac T
        refine l_pass T (wanted_un rfl rfl (T.ev 3 rfl)) rfl rfl rfl ?_; clear T ac; intro ac T
        refine l_pass T (wanted_un rfl rfl (T.ev 4 rfl)) rfl rfl rfl ?_; clear T ac; intro ac T
        refine l_pass T (wanted_un rfl rfl (T.ev 5 rfl)) rfl rfl rfl ?_; clear T ac; intro ac T
        refine l_pass T (wanted_un rfl rfl (T.ev 6 rfl)) rfl rfl rfl ?_; clear T ac; intro ac T
        refine l_pass T (wanted_un rfl rfl (T.ev 7 rfl)) rfl rfl rfl ?_; clear T ac; intro ac T
        refine l_pass T (wanted_un rfl rfl (T.ev 8 rfl)) rfl rfl rfl ?_; clear T ac; intro ac T
        refine l_pass T (wanted_un rfl rfl (T.ev 9 rfl)) rfl rfl rfl ?_; clear T ac; intro ac T
        refine l_pass T (wanted_no rfl rfl (T.ev 33 rfl) (decide_eq_false h2)) rfl rfl rfl ?_; clear T ac; intro ac T
        refine l_pass T (wanted_no rfl rfl (T.ev 34 rfl) (decide_eq_false h2)) rfl rfl rfl ?_; clear T ac; intro ac T
        refine l_pass T (wanted_un rfl rfl (T.ev 0 rfl)) rfl rfl rfl ?_; clear T ac; intro ac T
        refine l_pass T (wanted_un rfl rfl (T.ev 1 rfl)) rfl rfl rfl ?_; clear T ac; intro ac T
        refine l_pass T (wanted_un rfl rfl (T.ev 2 rfl)) rfl rfl rfl ?_; clear T ac; intro ac T
        refine l_pass T (wanted_no rfl rfl (T.ev 38 rfl) (decide_eq_false h2)) rfl rfl rfl ?_; clear T ac; intro ac T
        refine l_q T rfl rfl rfl rfl (rn_pick0 rfl (T.ev 39 rfl) (decide_eq_false h2) evc) ?_; clear T ac; intro ac T
        refine l_q T rfl rfl rfl rfl (rn_assign rfl (T.ev 0 rfl)) ?_; clear T ac; intro ac T
        refine wpList_nil ?_
        replace T := T.pick [0] rfl
        replace M := M.mask [false] rfl
        exact ⟨(T.pick (E' := [(2, .bool false)]) [0] rfl).as (by (try rw [show (decide ((checkJ j) = 0)) = false from (decide_eq_false h2)]); rfl), M.mask [] rfl⟩
    · clear T M
      rintro ac wc ⟨T, M⟩
      refine wp_ret ?_
      refine rt_1 T rfl (T.ev 0 rfl) ?_
      exact ⟨_, rfl, fun h9 => by first | omega | (simp at h9; done), M.below⟩

set_option maxRecDepth 100000 in
set_option maxHeartbeats 4000000 in
theorem ReedBlanks_any (A : Option Addr) (c : Nat) (L : List JE) (j : Jb) (B : Option Addr) (b : Nat) (v : Int) (D : Option Addr) (d n : Nat) (l : List Int) (w : World) (hr : Rd w w.heap.size 18 A L.length (jc L)) (hE : ∀ x ∈ L, Rd w w.heap.size 2 x.2.1 x.1.sh.length (rc x.1.sh) ∧ x.1.sh.length ≤ 9223372036854775807) (hn : L.length ≤ 9223372036854775807) (hrj : Rd w w.heap.size 2 B j.sh.length (rc j.sh)) (hnj : j.sh.length ≤ 9223372036854775807) (hl : Rd w w.heap.size 1 D n (ic l)) (hm : n ≤ 9223372036854775807) :
    Calls Try.prog 13 #[.slice A L.length c, jobV j B b, .int .i64 v, .slice D n d] w fun e w' => e = .returned (.bool true) ∧ Below w.heap.size w w' := by
  obtain ⟨bL, oL, SL⟩ := Sp.old hr
  obtain ⟨bJ, oJ, SJ⟩ := Sp.old hrj
  have hll := hl.len1
  obtain ⟨bI, oI, SI⟩ := Sp.old hl
  refine px_enter noEx Try.func13 rfl 146 rfl [.slice A L.length c, .agg #[.int .i64 j.p0, .int .i64 j.p1, .int .i64 j.t0, .int .i64 j.t1, .int .i64 j.r0, .int .i64 j.r1, .int .i64 j.u0, .int .i64 j.u1, .int .i64 j.d0, .int .i64 j.d1, .int .i64 j.a0, .int .i64 j.a1, .int .i64 j.b0, .int .i64 j.b1, .int .i64 j.le, .slice B j.sh.length b, .int .i64 j.wi, .int .i64 j.me], .int .i64 v, .slice D n d] rfl rfl (Mem.init w _) ?_
  intro ac wc T M
  refine wp_seq ?_
  refine wp_region_lit ?_
  refine l_w rfl ?_; intro K hK
  refine ow_bx M T rfl rfl rfl rfl (T.ev 1 rfl) rfl ?_; clear M T; intro g1 wc ac M T
  refine sh_out hK _ _ ?_; clear hK K
  refine l_q T rfl rfl rfl rfl (rn_assign rfl evc) ?_; clear T ac; intro ac T
  refine wpList_nil ?_
  replace T := T.pick [1, 2, 4, 5] rfl
  refine nm_then ?_
  refine wp_seq ?_
  refine wp_seq ?_
  refine wp_region_lit ?_
  refine l_q T rfl rfl rfl rfl (rn_move rfl (T.ev 1 rfl)) ?_; clear T ac; intro ac T
  refine l_q T rfl rfl rfl rfl (rn_lenS rfl Try.underlying36 (T.ev 0 rfl)) ?_; clear T ac; intro ac T
  refine l_q T rfl rfl rfl rfl (rn_gtr rfl (T.ev 0 rfl) evc) ?_; clear T ac; intro ac T
  refine l_q T rfl rfl rfl rfl (rn_move rfl (T.ev 0 rfl)) ?_; clear T ac; intro ac T
  rcases Bool.eq_false_or_eq_true (decide (20 < ((L.length : Nat) : Int))) with h1 | h1
  · replace h1 := of_decide_eq_true h1
    refine l_pass T (wanted_no rfl rfl (T.ev 0 rfl) (decide_eq_true h1)) rfl rfl rfl ?_; clear T ac; intro ac T
    refine l_pass T (wanted_no rfl rfl (T.ev 1 rfl) (decide_eq_true h1)) rfl rfl rfl ?_; clear T ac; intro ac T
    refine l_q T rfl rfl rfl rfl (rn_pick1 rfl (T.ev 2 rfl) (decide_eq_true h1) evc) ?_; clear T ac; intro ac T
    refine wpList_nil ?_
    replace T := T.pick [0, 7, 8, 9, 10] rfl
    refine nm_then ?_
    refine wp_cond_true (T.ev 0 rfl) ?_
    refine wp_seq ?_
    refine wp_region_lit ?_
    refine l_w rfl ?_; intro K hK
    refine ow_call (first := []) (cap := []) T rfl rfl rfl rfl evf .nil Try.func15 rfl rfl ?_
    refine Calls.mono (tuned_any _) ?_
    clear T
    rintro e wc ⟨rfl, hb⟩
    intro ac T
    replace M := M.call hb; clear hb
    refine sh_out hK _ _ ?_; clear hK K
    refine l_q T rfl rfl rfl rfl (rn_assign rfl (T.ev 0 rfl)) ?_; clear T ac; intro ac T
    refine wpList_nil ?_
    replace T := T.pick [0] rfl
    replace M := M.mask [false] rfl
    refine nm_then ?_
    refine wp_ret ?_
    refine rt_then ?_
    refine rt_1 T rfl (T.ev 0 rfl) ?_
    exact ⟨rfl, M.below⟩
  · replace h1 := of_decide_eq_false h1
    refine l_q T (wanted_yes rfl rfl (T.ev 0 rfl) (decide_eq_false h1)) rfl rfl rfl (rn_rowO (Mem.nth M 0 rfl) rfl (T.ev 4 rfl) rfl) ?_; clear T ac; intro ac T
    refine l_w (wanted_yes rfl rfl (T.ev 1 rfl) (decide_eq_false h1)) ?_; intro K hK
    refine ow_call (first := []) (cap := []) T rfl rfl rfl rfl evf (.cons (T.ev 0 rfl) .nil) Try.func23 rfl rfl ?_
    refine Calls.mono (slow_any j _ _ _ (SJ.rd M (List.nil_sublist _)) (by omega)) ?_
    clear T
    rintro e wc ⟨bu2, rfl, hslu2, hb⟩
    intro ac T
    replace M := M.call hb; clear hb
    refine sh_out hK _ _ ?_; clear hK K
    refine l_q T rfl rfl rfl rfl (rn_pick0 rfl (T.ev 2 rfl) (decide_eq_false h1) (T.ev 0 rfl)) ?_; clear T ac; intro ac T
    refine wpList_nil ?_
    replace T := T.pick [0, 7, 8, 9, 10] rfl
    refine nm_then ?_
    refine wp_cond_split (T.ev 0 rfl) ?_ ?_
    · intro h2
      refine wp_seq ?_
      refine wp_region_lit ?_
      refine l_w rfl ?_; intro K hK
      refine ow_call (first := []) (cap := []) T rfl rfl rfl rfl evf .nil Try.func15 rfl rfl ?_
      refine Calls.mono (tuned_any _) ?_
      clear T
      rintro e wc ⟨rfl, hb⟩
      intro ac T
      replace M := M.call hb; clear hb
      refine sh_out hK _ _ ?_; clear hK K
      refine l_q T rfl rfl rfl rfl (rn_assign rfl (T.ev 0 rfl)) ?_; clear T ac; intro ac T
      refine wpList_nil ?_
      replace T := T.pick [0] rfl
      replace M := M.mask [false] rfl
      refine nm_then ?_
      refine wp_ret ?_
      refine rt_then ?_
      refine rt_1 T rfl (T.ev 0 rfl) ?_
      exact ⟨rfl, M.below⟩
    · intro h2
      have hj20 : j.sh.length ≤ 20 := hslu2 h2
      refine wp_skip ?_
      refine nm_then ?_
      refine wp_seq ?_
      refine wp_seq ?_
      refine wp_region_lit ?_
      refine l_q T rfl rfl rfl rfl (rn_assign rfl evc) ?_; clear T ac; intro ac T
      refine wpList_nil ?_
      replace T := T.pick [0, 2, 3, 4, 5] rfl
      refine nm_then ?_
      refine wp_block ?_
      refine wp_loop_n (fun mz ac wc => ∃ (k : Nat), mz = L.length - k ∧ (k ≤ L.length) ∧ (∀ (i : Nat) (x : JE), i < k → L[i]? = some x → x.1.sh.length ≤ 20) ∧ Tm ac 146 [(0, .slice A L.length c), (2, .int .i64 v), (3, .slice D n d), (5, .pointer (some ⟨g1, 0, none⟩)), (9, .int .i64 (k : Int))] ∧ Mem w noEx wc [(g1, .cells (jobL j B b))]) ?_ ?_
      · exact ⟨_, 0, rfl, (by omega), (fun i x h => absurd h (Nat.not_lt_zero _)), T.pick [2, 3, 4, 1, 0] rfl, M.mask [true] rfl⟩
      · clear T M
        rintro mz ac wc ⟨k, hmm1, hk, hs20, T, M⟩
        refine wp_seq ?_
        refine wp_seq ?_
        refine wp_region_lit ?_
        refine l_q T rfl rfl rfl rfl (rn_move rfl (T.ev 4 rfl)) ?_; clear T ac; intro ac T
        refine l_q T rfl rfl rfl rfl (rn_move rfl (T.ev 1 rfl)) ?_; clear T ac; intro ac T
        refine l_q T rfl rfl rfl rfl (rn_lenS rfl Try.underlying36 (T.ev 0 rfl)) ?_; clear T ac; intro ac T
        refine l_q T rfl rfl rfl rfl (rn_lss rfl (T.ev 2 rfl) (T.ev 0 rfl)) ?_; clear T ac; intro ac T
        refine wpList_nil ?_
        replace T := T.pick [0, 4, 5, 6, 7, 8] rfl
        refine nm_then ?_
        refine wp_if (T.ev 0 rfl) ?_ ?_
        · intro h3
          obtain ⟨jx1, Ax1, cx1, hkx1, hd1⟩ := jel (L := L) (k := k) (by omega)
          obtain ⟨hrx1, hfx1⟩ := hE _ (List.mem_of_getElem? hkx1)
          replace hrx1 : Rd w w.heap.size 2 Ax1 jx1.sh.length (rc jx1.sh) := hrx1
          replace hfx1 : jx1.sh.length ≤ 9223372036854775807 := hfx1
          obtain ⟨bx1, ox1, Sx1⟩ := Sp.old hrx1
          refine wp_skip ?_
          refine nm_then ?_
          refine wp_seq ?_
          refine wp_block ?_
          refine wp_seq ?_
          refine wp_region_lit ?_
          refine l_q T rfl rfl rfl rfl (rn_move rfl (T.ev 1 rfl)) ?_; clear T ac; intro ac T
          refine l_q T rfl rfl rfl rfl (rn_move rfl (T.ev 6 rfl)) ?_; clear T ac; intro ac T
          refine l_q T rfl rfl rfl rfl (rn_indexAddr (size := 18) k rfl (T.ev 1 rfl) (T.ev 0 rfl) ⟨_, Try.underlying36, by kernel_rfl⟩ rfl (by omega) (SL.at0 (by omega))) ?_; clear T ac; intro ac T
          refine l_q (v := (.agg #[.int .i64 jx1.p0, .int .i64 jx1.p1, .int .i64 jx1.t0, .int .i64 jx1.t1, .int .i64 jx1.r0, .int .i64 jx1.r1, .int .i64 jx1.u0, .int .i64 jx1.u1, .int .i64 jx1.d0, .int .i64 jx1.d1, .int .i64 jx1.a0, .int .i64 jx1.a1, .int .i64 jx1.b0, .int .i64 jx1.b1, .int .i64 jx1.le, .slice Ax1 jx1.sh.length cx1, .int .i64 jx1.wi, .int .i64 jx1.me])) T rfl rfl rfl rfl (rn_rowat (Sp.jcR SL M (List.nil_sublist _) hkx1) rfl (T.ev 0 rfl) rfl) ?_; clear T ac; intro ac T
          refine l_w rfl ?_; intro K hK
          refine ow_call (first := []) (cap := []) T rfl rfl rfl rfl evf (.cons (T.ev 0 rfl) .nil) Try.func23 rfl rfl ?_
          refine Calls.mono (slow_any jx1 _ _ _ (Sx1.rd M (List.nil_sublist _)) (by omega)) ?_
          clear T
          rintro e wc ⟨bu4, rfl, hslu4, hb⟩
          intro ac T
          replace M := M.call hb; clear hb
          refine sh_out hK _ _ ?_; clear hK K
          refine wpList_nil ?_
          replace T := T.pick [0, 6, 7, 8, 9, 10] rfl
          refine nm_then ?_
          refine wp_cond_split (T.ev 0 rfl) ?_ ?_
          · intro h4
            refine wp_seq ?_
            refine wp_region_lit ?_
            refine l_w rfl ?_; intro K hK
            refine ow_call (first := []) (cap := []) T rfl rfl rfl rfl evf .nil Try.func15 rfl rfl ?_
            refine Calls.mono (tuned_any _) ?_
            clear T
            rintro e wc ⟨rfl, hb⟩
            intro ac T
            replace M := M.call hb; clear hb
            refine sh_out hK _ _ ?_; clear hK K
            refine l_q T rfl rfl rfl rfl (rn_assign rfl (T.ev 0 rfl)) ?_; clear T ac; intro ac T
            refine wpList_nil ?_
            replace T := T.pick [0] rfl
            replace M := M.mask [false] rfl
            refine nm_then ?_
            refine wp_ret ?_
            refine rt_blk ?_
            refine rt_then ?_
            refine rt_then ?_
            refine rt_blk ?_
            refine rt_then ?_
            refine rt_1 T rfl (T.ev 0 rfl) ?_
            exact ⟨rfl, M.below⟩
          · intro h4
            refine wp_skip ?_
            refine nm_blk ?_
            refine nm_then ?_
            refine wp_region_lit ?_
            refine l_q T rfl rfl rfl rfl (rn_move rfl (T.ev 5 rfl)) ?_; clear T ac; intro ac T
            refine l_q T rfl rfl rfl rfl (rn_add rfl (T.ev 0 rfl) evc (by omega)) ?_; clear T ac; intro ac T
            refine l_q (v := (.int .i64 ((k : Int) + 1))) (T.pick [0, 1, 2, 3, 4, 5, 6] rfl) rfl rfl rfl rfl (rn_assign rfl (T.ev 0 rfl)) ?_; clear T ac; intro ac T
            refine wpList_nil ?_
            replace T := T.pick [0, 4, 5, 6, 7] rfl
            refine nm_then ?_
            exact ⟨_, by omega, k + 1, rfl, (by omega), (fun i x hi hx => by rcases Nat.lt_or_ge i k with h8 | h8; exact hs20 i x h8 hx; obtain rfl : i = k := (by omega); rw [hkx1] at hx; injection hx with hx; subst hx; exact hslu4 h4), T.pick [1, 2, 3, 4, 0] rfl, M.mask [true] rfl⟩
        · intro h3
          have hL20 : ∀ x ∈ L, x.1.sh.length ≤ 20 := fun x hx => by obtain ⟨i, hi⟩ := List.getElem?_of_mem hx; exact hs20 i x (by have := (List.getElem?_eq_some_iff.1 hi).1; omega) hi
          refine wp_exit ?_
          refine ex_then ?_
          refine ex_then ?_
          refine ex_hit ?_
          refine nm_then ?_
          refine wp_seq ?_
          refine wp_region_lit ?_
          refine l_q T rfl rfl rfl rfl (rn_move rfl (T.ev 3 rfl)) ?_; clear T ac; intro ac T
          refine l_w rfl ?_; intro K hK
          refine ow_call (first := []) (cap := []) T rfl rfl rfl rfl evf (.cons (T.ev 0 rfl) .nil) Try.func16 rfl rfl ?_
          refine Calls.mono (newPot_any _ _ _ l _ (SI.rd M (List.nil_sublist _)) (by omega)) ?_
          clear T
          rintro e wc ⟨bpu6, su6, hsu6, rfl, N⟩
          intro ac T
          replace M := M.join N; clear N
          replace M := M.mask [true, true] rfl
          refine sh_out hK _ _ ?_; clear hK K
          refine l_q T rfl rfl rfl rfl (rn_assign rfl (T.ev 0 rfl)) ?_; clear T ac; intro ac T
          refine wpList_nil ?_
          replace T := T.pick [0, 4, 5, 7] rfl
          refine nm_then ?_
          refine wp_seq ?_
          refine wp_region_lit ?_
          refine l_q T rfl rfl rfl rfl (rn_assign rfl evc) ?_; clear T ac; intro ac T
          refine wpList_nil ?_
          refine nm_then ?_
          refine wp_seq ?_
          refine wp_seq ?_
          refine wp_region_lit ?_
          refine l_q T rfl rfl rfl rfl (rn_move rfl (T.ev 1 rfl)) ?_; clear T ac; intro ac T
          refine l_w rfl ?_; intro K hK
          refine ow_call (first := []) (cap := []) T rfl rfl rfl rfl evf (.cons (T.ev 0 rfl) (.cons evc (.cons evc .nil))) Try.func38 rfl rfl ?_
          refine Calls.mono (within_pot _ bpu6 1 4 _ (by omega) (by omega) (by omega) (M.nth 0 rfl) hsu6) ?_
          clear T
          rintro e wc ⟨xu7, su7, hxu7, hsu7, rfl, hgr, hbk⟩
          intro ac T
          replace M := M.callC (cs' := [.int .u64 su7]) .head hgr hbk
          clear hgr hbk
          refine sh_out hK _ _ ?_; clear hK K
          refine l_q T rfl rfl rfl rfl (rn_assign rfl (T.ev 0 rfl)) ?_; clear T ac; intro ac T
          refine wpList_nil ?_
          replace T := T.pick [0, 3, 4, 5, 6, 7] rfl
          refine nm_then ?_
          refine wp_block ?_
          refine wp_loop_n (fun mz ac wc => ∃ (i : Int) (OL : List JE) (A3 : Option Addr) (c3 : Nat) (s : Int) (Ie Io : List (Nat × BA)), mz = i.toNat ∧ (0 ≤ i) ∧ ((OL.length : Int) + i = xu7) ∧ (ElsJ OL Ie) ∧ (u64ok s) ∧ (Sl 30 18 (.slice A3 OL.length c3) OL.length (jc OL) Io) ∧ Tm ac 146 [(0, .slice A L.length c), (2, .int .i64 v), (5, .pointer (some ⟨g1, 0, none⟩)), (10, .pointer (some ⟨bpu6, 0, none⟩)), (11, .slice A3 OL.length c3), (12, .int .i64 i)] ∧ Mem w noEx wc ((bpu6, .cells [.int .u64 s]) :: (g1, .cells (jobL j B b)) :: (Ie ++ Io))) ?_ ?_
          · exact ⟨_, _, [], none, 0, _, [], [], rfl, (by omega), (by simp), (fun x hx => by cases hx), hsu7, (Sl.nil _ _), T.pick [3, 4, 5, 2, 1, 0] rfl, M.mask [true, true] rfl⟩
          · clear T M
            rintro mz ac wc ⟨i, OL, A3, c3, s, Ie, Io, hmm2, hi, hOl, hOE, hs, hsl, T, M⟩
            refine wp_seq ?_
            refine wp_seq ?_
            refine wp_region_lit ?_
            refine l_q T rfl rfl rfl rfl (rn_move rfl (T.ev 5 rfl)) ?_; clear T ac; intro ac T
            refine l_q T rfl rfl rfl rfl (rn_gtr rfl (T.ev 0 rfl) evc) ?_; clear T ac; intro ac T
            refine wpList_nil ?_
            replace T := T.pick [0, 2, 3, 4, 5, 6, 7] rfl
            refine nm_then ?_
            refine wp_if (T.ev 0 rfl) ?_ ?_
            · intro h5
              refine wp_skip ?_
              refine nm_then ?_
              refine wp_seq ?_
              refine wp_block ?_
              refine wp_region_lit ?_
              refine l_q T rfl rfl rfl rfl (rn_move rfl (T.ev 5 rfl)) ?_; clear T ac; intro ac T
              refine l_q T rfl rfl rfl rfl (rn_move rfl (T.ev 5 rfl)) ?_; clear T ac; intro ac T
              refine l_w rfl ?_; intro K hK
              refine ow_call (first := []) (cap := []) T rfl rfl rfl rfl evf (.cons (T.ev 0 rfl) (.cons evc (.cons evc .nil))) Try.func17 rfl rfl ?_
              refine Calls.mono (jobOf_any _ bpu6 2 1 _ (by omega) (by omega) (by omega) (by omega) (M.nth 0 rfl) hs) ?_
              clear T
              rintro e wc ⟨ju8, Au8, cu8, su8, Iu8, rfl, hmu8, hsu8, hslu8, N⟩
              intro ac T
              obtain ⟨bu8, ou8, Su8⟩ := hslu8.sp (w := w) (ex := noEx) (rc_length _)
              replace M := (M.joinW .head N).swapI
              replace M := M.mask [true, true] rfl
              clear N
              have hgu8 := hmu8.good
              have hfewu8 := hgu8.few
              have hpu8 := hgu8.p
              have hmeu8 := hgu8.me
              obtain ⟨bqu8, oqu8, hqu8⟩ := hslu8.spJ (rc_length _)
              replace M : Mem w noEx wc ((bpu6, .cells [.int .u64 su8]) :: (g1, .cells (jobL j B b)) :: (Ie ++ Iu8 ++ Io)) := Mem.swapT [(bpu6, .cells [.int .u64 su8]), (g1, .cells (jobL j B b))] (Ie) Io Iu8 M
              refine sh_out hK _ _ ?_; clear hK K
              refine l_w rfl ?_; intro K hK
              refine ow_bs (e := 30) [.int .i64 ju8.p0, .int .i64 ju8.p1, .int .i64 ju8.t0, .int .i64 ju8.t1, .int .i64 ju8.r0, .int .i64 ju8.r1, .int .i64 ju8.u0, .int .i64 ju8.u1, .int .i64 ju8.d0, .int .i64 ju8.d1, .int .i64 ju8.a0, .int .i64 ju8.a1, .int .i64 ju8.b0, .int .i64 ju8.b1, .int .i64 ju8.le, .slice Au8 ju8.sh.length cu8, .int .i64 ju8.wi, .int .i64 ju8.me] M T rfl rfl rfl rfl (.cons (T.ev 0 rfl) .nil) (fun _ => by kernel_rfl) ?_; clear M T; intro g2 wc ac M T
              refine sh_out hK _ _ ?_; clear hK K
              refine l_w rfl ?_; intro K hK
              refine ow_app (((g2, .cells (jobL ju8 Au8 cu8)) :: (bpu6, .cells [.int .u64 su8]) :: (g1, .cells (jobL j B b)) :: (Ie ++ Iu8))) Try.info30 hsl M (by first | rfl | simp) T rfl rfl rfl rfl Try.underlying36 rfl rfl rfl (by omega) (T.ev 3 rfl) (T.ev 0 rfl) (nthE_mem (i := 0) rfl) rfl rfl ?_; clear M T; intro ga1 cga1 wc ac M T
              refine sh_out hK _ _ ?_; clear hK K
              refine l_q (v := (.slice (some ⟨ga1, 0, none⟩) (OL.length + 1) cga1)) (T.pick [0, 1, 2, 3, 4, 5, 6, 7, 8, 9, 11] rfl) rfl rfl rfl rfl (rn_assign rfl (T.ev 0 rfl)) ?_; clear T ac; intro ac T
              refine wpList_nil ?_
              replace T := T.pick [0, 7, 8, 9, 10, 11] rfl
              replace M := M.mask [true, false, true, true] rfl
              refine nm_blk ?_
              refine nm_then ?_
              refine wp_region_lit ?_
              refine l_q T rfl rfl rfl rfl (rn_move rfl (T.ev 5 rfl)) ?_; clear T ac; intro ac T
              refine l_q T rfl rfl rfl rfl (rn_sub rfl (T.ev 0 rfl) evc (by omega)) ?_; clear T ac; intro ac T
              refine l_q (v := (.int .i64 (i - 1))) (T.pick [0, 1, 2, 3, 4, 5, 6] rfl) rfl rfl rfl rfl (rn_assign rfl (T.ev 0 rfl)) ?_; clear T ac; intro ac T
              refine wpList_nil ?_
              replace T := T.pick [0, 3, 4, 5, 6, 7] rfl
              refine nm_then ?_
              have e9 : OL.length + 1 = (OL ++ [(ju8, (Au8 : Option Addr), cu8)]).length := by simp
              replace M : Mem w noEx wc ((ga1, .row 30 18 (OL ++ [(ju8, (Au8 : Option Addr), cu8)]).length (jc (OL ++ [(ju8, (Au8 : Option Addr), cu8)])) cga1) :: (bpu6, .cells [.int .u64 su8]) :: (g1, .cells (jobL j B b)) :: (Ie ++ Iu8)) := by rw [← e9, ← jc_snoc]; exact M
              rw [e9] at T
              clear e9
              exact ⟨_, by omega, (i - 1), (OL ++ [(ju8, (Au8 : Option Addr), cu8)]), _, cga1, su8, (Ie ++ Iu8), [(ga1, .row 30 18 (OL ++ [(ju8, (Au8 : Option Addr), cu8)]).length (jc (OL ++ [(ju8, (Au8 : Option Addr), cu8)])) cga1)], rfl, (by omega), (by simp only [List.length_append, List.length_cons, List.length_nil]; omega), (hOE.snoc (by have := hmu8.few; omega) hqu8), hsu8, (Sl.row _ _ _ _ _ _), T.pick [2, 3, 4, 5, 1, 0] rfl, (Mem.swapI (I := [(ga1, .row 30 18 (OL ++ [(ju8, (Au8 : Option Addr), cu8)]).length (jc (OL ++ [(ju8, (Au8 : Option Addr), cu8)])) cga1)]) (L := ((bpu6, .cells [.int .u64 su8]) :: (g1, .cells (jobL j B b)) :: (Ie ++ Iu8))) (M.permT [0, 1, 2] 3 rfl rfl rfl rfl))⟩
            · intro h5
              obtain ⟨b3, o3, hS3⟩ := hsl.spJ (jc_length _)
              have S3 := hS3 w noEx
              have hOL : 1 ≤ OL.length ∧ OL.length ≤ 4 := by omega
              refine wp_exit ?_
              refine ex_then ?_
              refine ex_then ?_
              refine ex_hit ?_
              refine nm_then ?_
              refine wp_seq ?_
              refine wp_region_lit ?_
              refine l_w rfl ?_; intro K hK
              refine ow_bs0 (e := 30) M T rfl rfl rfl rfl (fun _ => by kernel_rfl) ?_; clear M T; intro g3 wc ac M T
              refine sh_out hK _ _ ?_; clear hK K
              refine l_q T rfl rfl rfl rfl (rn_move rfl (T.ev 6 rfl)) ?_; clear T ac; intro ac T
              refine l_w rfl ?_; intro K hK
              refine ow_appE Try.info30 M T rfl rfl rfl rfl (fun g w => Try.append0j _ _ g _ w) Try.underlying36 rfl rfl rfl (by omega) (T.ev 1 rfl) (T.ev 0 rfl) (S3.rd M (.cons _ (.cons _ (.cons _ (List.sublist_append_right _ _))))) (jc_one _) ?_; clear M T; intro go1 cgo1 ysgo1 wc ac M T
              have Sgo1 := Sp.pre (w := w) (ex := noEx) (size := 18) (n := OL.length) (g := go1) (xs := jc OL) (ys := ysgo1) (jc_length _)
              refine sh_out hK _ _ ?_; clear hK K
              refine l_q T rfl rfl rfl rfl (rn_assign rfl (T.ev 0 rfl)) ?_; clear T ac; intro ac T
              refine wpList_nil ?_
              replace T := T.pick [0, 5, 6, 7, 9] rfl
              replace M := M.mask [true, false, true] rfl
              refine nm_then ?_
              refine wp_seq ?_
              refine g_start2 M (M.mask [false, false] rfl) 8 (by kernel_rfl) rfl (by kernel_rfl) ?_
              clear M; intro wc M
              refine g_addG 7 M ?_
              refine g_q (T := T) (i := 0) rfl (by kernel_rfl) (by kernel_rfl : (pbits 8 0).setIfInBounds 0 true = pbits 8 1) (si_and (si_G rfl) si_U) (fun _ _ _ h => h) rfl rfl rfl rfl (fun _ _ _ _ _ => (rn_move rfl (T.ev 0 rfl))) ?_; clear T ac; intro ac T
              refine g_q (T := T) (i := 1) rfl (by kernel_rfl) (by kernel_rfl : (pbits 8 1).setIfInBounds 1 true = pbits 8 3) (si_and (si_G rfl) si_U) (fun _ _ _ h => h) rfl rfl rfl rfl (fun _ _ _ _ _ => (rn_move rfl (T.ev 3 rfl))) ?_; clear T ac; intro ac T
              refine g_q (T := T) (i := 2) rfl (by kernel_rfl) (by kernel_rfl : (pbits 8 3).setIfInBounds 2 true = pbits 8 7) (si_and (si_G rfl) si_U) (fun _ _ _ h => h) rfl rfl rfl rfl (fun _ _ _ _ _ => (rn_move rfl (T.ev 2 rfl))) ?_; clear T ac; intro ac T
              refine g_q (T := T) (i := 3) rfl (by kernel_rfl) (by kernel_rfl : (pbits 8 7).setIfInBounds 3 true = pbits 8 15) (si_and (si_G rfl) si_U) (fun _ _ _ h => h) rfl rfl rfl rfl (fun _ _ _ _ _ => (rn_lenS rfl Try.underlying36 (T.ev 0 rfl))) ?_; clear T ac; intro ac T
              refine g_q (T := T) (i := 5) rfl (by kernel_rfl) (by kernel_rfl : (pbits 8 15).setIfInBounds 5 true = pbits 8 47) (si_and (si_G rfl) si_U) (fun _ _ _ h => h) rfl rfl rfl rfl (fun B w' hD hl hS => (rn_rowO (Mem.nth (show Mem w noEx w' _ from ((MA.lft hS) (hD.wait (i := 5) (m := 7) (by kernel_rfl) hl))) 1 rfl) rfl (T.ev 7 rfl) rfl)) ?_; clear T ac; intro ac T
              refine g_w (i := 4) (by kernel_rfl) rfl (by kernel_rfl : (pbits 8 47).setIfInBounds 4 true = pbits 8 63) rfl ?_; intro K hK
              refine ow_call (first := []) (cap := []) T rfl rfl rfl rfl evf (.cons (T.ev 3 rfl) (.cons (T.ev 1 rfl) .nil)) Try.func52 rfl rfl ?_
              refine Calls.mono (turn_any v OL.length _ (by omega) (by omega)) ?_
              clear T
              rintro e wc ⟨ku9, rfl, hku9, hb⟩
              intro ac T
              replace M := M.call hb; clear hb
              refine sh_out hK _ _ (MA.mk (fun _ => M.mask [true, true] rfl) (M.mask [false, false] rfl)) ?_; clear hK K
              refine g_q (T := T) (i := 6) rfl (by kernel_rfl) (by kernel_rfl : (pbits 8 63).setIfInBounds 6 true = pbits 8 127) (si_and (si_G rfl) si_U) (fun _ _ _ h => h) rfl rfl rfl rfl (fun _ _ _ _ _ => (rn_indexAddr (size := 18) ku9 rfl (T.ev 5 rfl) (T.ev 0 rfl) ⟨_, Try.underlying36, by kernel_rfl⟩ rfl (by omega) (Sgo1.at0 (by omega)))) ?_; clear T ac; intro ac T
              refine g_w (i := 7) (by kernel_rfl) rfl (by kernel_rfl : (pbits 8 127).setIfInBounds 7 true = pbits 8 255) rfl ?_; intro K hK
              refine ow_stJ M T rfl rfl (T.ev 0 rfl) (T.ev 2 rfl) .head (by omega) rfl ?_; clear M T; intro wc ac M T
              obtain ⟨lo1, hlo1⟩ : ∃ q, q = OL.set ku9 (j, (B : Option Addr), b) := ⟨_, rfl⟩
              have lhlo1 : OL.length = lo1.length := by rw [hlo1, List.length_set]
              rw [← hlo1] at M; (try rw [lhlo1] at M); (try rw [lhlo1] at T)
              have Ss1 := Sp.pre (w := w) (ex := noEx) (size := 18) (n := lo1.length) (g := go1) (xs := jc lo1) (ys := ysgo1) (by simp [jc_length])
              refine sh_out hK _ _ (MA.mk (fun h => (no_of (by kernel_rfl) h).elim) (M.mask [false, false] rfl)) ?_; clear hK K
              refine g_done (by kernel_rfl) ?_
              replace T := T.pick [7, 8, 11] rfl
              replace M := M.mask [true, false] rfl
              refine nm_then ?_
              refine wp_seq ?_
              refine wp_region_lit ?_
              refine l_q T rfl rfl rfl rfl (rn_move rfl (T.ev 1 rfl)) ?_; clear T ac; intro ac T
              refine l_q T rfl rfl rfl rfl (rn_move rfl (T.ev 3 rfl)) ?_; clear T ac; intro ac T
              refine l_q T rfl rfl rfl rfl (rn_move rfl (T.ev 2 rfl)) ?_; clear T ac; intro ac T
              refine l_w rfl ?_; intro K hK
              refine ow_bs (e := 36) [.slice A L.length c, .slice A3 lo1.length c3, .slice (some ⟨go1, 0, none⟩) lo1.length cgo1] M T rfl rfl rfl rfl (.cons (T.ev 2 rfl) (.cons (T.ev 1 rfl) (.cons (T.ev 0 rfl) .nil))) (fun _ => by kernel_rfl) ?_; clear M T; intro g4 wc ac M T
              refine sh_out hK _ _ ?_; clear hK K
              refine l_q T rfl rfl rfl rfl (rn_assign rfl (T.ev 0 rfl)) ?_; clear T ac; intro ac T
              refine wpList_nil ?_
              replace T := T.pick [0] rfl
              refine nm_then ?_
              refine wp_seq ?_
              refine wp_seq ?_
              refine wp_region_lit ?_
              refine l_q T rfl rfl rfl rfl (rn_assign rfl evc) ?_; clear T ac; intro ac T
              refine wpList_nil ?_
              refine nm_then ?_
              refine wp_block ?_
              refine wp_loop_rounds 4 ?_
              refine rounds_S ?_
              refine wp_seq ?_
              refine wp_seq ?_
              refine wp_region_lit ?_
              refine l_q T rfl rfl rfl rfl (rn_move rfl (T.ev 0 rfl)) ?_; clear T ac; intro ac T
              refine l_q T rfl rfl rfl rfl (rn_move rfl (T.ev 2 rfl)) ?_; clear T ac; intro ac T
              refine l_q (v := (.int .i64 3)) T rfl rfl rfl rfl (rn_lenS rfl Try.underlying75 (T.ev 0 rfl)) ?_; clear T ac; intro ac T
              refine l_q (v := (.bool true)) T rfl rfl rfl rfl (rn_neqof (rn_lss rfl (T.ev 2 rfl) (T.ev 0 rfl)) (by simp)) ?_; clear T ac; intro ac T
              refine wpList_nil ?_
              replace T := T.pick [0, 4, 5] rfl
              refine nm_then ?_
              refine wp_cond_true (T.ev 0 rfl) ?_
              refine wp_skip ?_
              refine nm_then ?_
              refine wp_seq ?_
              refine wp_block ?_
              refine wp_seq ?_
              refine wp_region_lit ?_
              refine l_q T rfl rfl rfl rfl (rn_assign rfl evc) ?_; clear T ac; intro ac T
              refine wpList_nil ?_
              replace T := T.pick [0, 2, 3] rfl
              refine nm_then ?_
              refine wp_seq ?_
              refine wp_seq ?_
              refine wp_region_lit ?_
              refine l_q T rfl rfl rfl rfl (rn_assign rfl evc) ?_; clear T ac; intro ac T
              refine wpList_nil ?_
              refine nm_then ?_
              refine wp_block ?_
              have hEL : ∀ x ∈ L, x.1.sh.length ≤ 20 ∧ ∃ b o, Sp w noEx [] x.2.1 x.1.sh.length 2 b o (rc x.1.sh) := fun x hx => ⟨hL20 x hx, Sp.old (hE x hx).1⟩
              refine wp_loop_n (fun mz ac wc => ∃ (k0 : Nat) (QL0 : List JE) (A50 : Option Addr) (c50 : Nat) (Iq0 Ip0 : List (Nat × BA)), mz = L.length - k0 ∧ (k0 ≤ L.length) ∧ (QL0.map (·.1) = (L.take k0).map (·.1)) ∧ (QL0.length = k0) ∧ (ElsJ QL0 Iq0) ∧ (Sl 30 18 (.slice A50 QL0.length c50) QL0.length (jc QL0) Ip0) ∧ Tm ac 146 [(14, .slice (some ⟨g4, 0, none⟩) 3 3), (15, .int .i64 0), (16, .slice A50 QL0.length c50), (17, .int .i64 (k0 : Int))] ∧ Mem w noEx wc ((g4, .cells [.slice A L.length c, .slice A3 lo1.length c3, .slice (some ⟨go1, 0, none⟩) lo1.length cgo1]) :: (go1, .cells (jc lo1 ++ ysgo1)) :: (Ie ++ Io ++ Iq0 ++ Ip0))) ?_ ?_
              · exact ⟨_, 0, [], none, 0, [], [], rfl, (Nat.zero_le _), rfl, rfl, (fun x hx => by cases hx), (Sl.nil _ _), T.pick [3, 2, 1, 0] rfl, (by simp only [List.append_nil]; exact M)⟩
              · clear T M
                rintro mz ac wc ⟨k0, QL0, A50, c50, Iq0, Ip0, hmm4, hk0, hQ0, hQl0, hQE0, hqs0, T, M⟩
                refine wp_seq ?_
                refine wp_seq ?_
                refine wp_region_lit ?_
                refine l_q T rfl rfl rfl rfl (rn_move rfl (T.ev 3 rfl)) ?_; clear T ac; intro ac T
                refine l_q T rfl rfl rfl rfl (rn_move rfl (T.ev 1 rfl)) ?_; clear T ac; intro ac T
                refine l_q T rfl rfl rfl rfl (rn_move rfl (T.ev 3 rfl)) ?_; clear T ac; intro ac T
                refine l_q (v := (.pointer (some ⟨g4, 0, none⟩))) T rfl rfl rfl rfl (rn_indexAddr (size := 1) 0 rfl (T.ev 1 rfl) (T.ev 0 rfl) ⟨_, Try.underlying75, by kernel_rfl⟩ rfl (by decide) rfl) ?_; clear T ac; intro ac T
                refine l_q T rfl rfl rfl rfl (rn_one (Mem.nth M 0 rfl) rfl (T.ev 0 rfl) rfl) ?_; clear T ac; intro ac T
                refine l_q T rfl rfl rfl rfl (rn_lenS rfl Try.underlying36 (T.ev 0 rfl)) ?_; clear T ac; intro ac T
                refine l_q T rfl rfl rfl rfl (rn_lss rfl (T.ev 5 rfl) (T.ev 0 rfl)) ?_; clear T ac; intro ac T
                refine wpList_nil ?_
                replace T := T.pick [0, 7, 8, 9, 10] rfl
                refine nm_then ?_
                refine wp_if (T.ev 0 rfl) ?_ ?_
                · intro h6
                  obtain ⟨jz0, Az0, cz0, hkz0, hdz0⟩ := jel (L := L) (k := k0) (by omega)
                  obtain ⟨hfz0, bz0, oz0, Sz0⟩ := hEL _ (List.mem_of_getElem? hkz0)
                  replace hfz0 : jz0.sh.length ≤ 20 := hfz0
                  replace Sz0 : Sp w noEx [] Az0 jz0.sh.length 2 bz0 oz0 (rc jz0.sh) := Sz0
                  refine wp_skip ?_
                  refine nm_then ?_
                  refine wp_seq ?_
                  refine wp_block ?_
                  refine wp_region_lit ?_
                  refine l_q T rfl rfl rfl rfl (rn_move rfl (T.ev 3 rfl)) ?_; clear T ac; intro ac T
                  refine l_q T rfl rfl rfl rfl (rn_move rfl (T.ev 2 rfl)) ?_; clear T ac; intro ac T
                  refine l_q T rfl rfl rfl rfl (rn_move rfl (T.ev 4 rfl)) ?_; clear T ac; intro ac T
                  refine l_q (v := (.pointer (some ⟨g4, 0, none⟩))) T rfl rfl rfl rfl (rn_indexAddr (size := 1) 0 rfl (T.ev 1 rfl) (T.ev 0 rfl) ⟨_, Try.underlying75, by kernel_rfl⟩ rfl (by decide) rfl) ?_; clear T ac; intro ac T
                  refine l_q T rfl rfl rfl rfl (rn_one (Mem.nth M 0 rfl) rfl (T.ev 0 rfl) rfl) ?_; clear T ac; intro ac T
                  refine l_q T rfl rfl rfl rfl (rn_move rfl (T.ev 9 rfl)) ?_; clear T ac; intro ac T
                  refine l_q T rfl rfl rfl rfl (rn_indexAddr (size := 18) k0 rfl (T.ev 1 rfl) (T.ev 0 rfl) ⟨_, Try.underlying36, by kernel_rfl⟩ rfl (by omega) (SL.at0 (by omega))) ?_; clear T ac; intro ac T
                  refine l_q (v := (.agg #[.int .i64 jz0.p0, .int .i64 jz0.p1, .int .i64 jz0.t0, .int .i64 jz0.t1, .int .i64 jz0.r0, .int .i64 jz0.r1, .int .i64 jz0.u0, .int .i64 jz0.u1, .int .i64 jz0.d0, .int .i64 jz0.d1, .int .i64 jz0.a0, .int .i64 jz0.a1, .int .i64 jz0.b0, .int .i64 jz0.b1, .int .i64 jz0.le, .slice Az0 jz0.sh.length cz0, .int .i64 jz0.wi, .int .i64 jz0.me])) T rfl rfl rfl rfl (rn_rowat (Sp.jcR SL M (List.nil_sublist _) hkz0) rfl (T.ev 0 rfl) rfl) ?_; clear T ac; intro ac T
                  refine l_w rfl ?_; intro K hK
                  refine ow_call (first := []) (cap := []) T rfl rfl rfl rfl evf (.cons (T.ev 0 rfl) .nil) Try.func18 rfl rfl ?_
                  refine Calls.mono (copyJob_own jz0 _ _ _ (Sz0.rd M (List.nil_sublist _)) (by first | omega | (dsimp only [Jb.one]; omega))) ?_
                  clear T
                  rintro e wc ⟨Au10, cu10, Iu10, rfl, hsnu10, N⟩
                  intro ac T
                  obtain ⟨bu10, ou10, hqu10⟩ := hsnu10.spJ (rc_length _)
                  have Su10 := hqu10 w noEx
                  replace M := (M.join N).swapI
                  replace M : Mem w noEx wc ((g4, .cells [.slice A L.length c, .slice A3 lo1.length c3, .slice (some ⟨go1, 0, none⟩) lo1.length cgo1]) :: (go1, .cells (jc lo1 ++ ysgo1)) :: (Ie ++ Io ++ Iq0 ++ Ip0 ++ Iu10)) := M
                  clear N
                  replace M : Mem w noEx wc ((g4, .cells [.slice A L.length c, .slice A3 lo1.length c3, .slice (some ⟨go1, 0, none⟩) lo1.length cgo1]) :: (go1, .cells (jc lo1 ++ ysgo1)) :: (Ie ++ Io ++ Iq0 ++ Iu10 ++ Ip0)) := Mem.swapT [(g4, .cells [.slice A L.length c, .slice A3 lo1.length c3, .slice (some ⟨go1, 0, none⟩) lo1.length cgo1]), (go1, .cells (jc lo1 ++ ysgo1))] (Ie ++ Io ++ Iq0) Ip0 Iu10 M
                  refine sh_out hK _ _ ?_; clear hK K
                  refine l_w rfl ?_; intro K hK
                  refine ow_bs (e := 30) [.int .i64 jz0.p0, .int .i64 jz0.p1, .int .i64 jz0.t0, .int .i64 jz0.t1, .int .i64 jz0.r0, .int .i64 jz0.r1, .int .i64 jz0.u0, .int .i64 jz0.u1, .int .i64 jz0.d0, .int .i64 jz0.d1, .int .i64 jz0.a0, .int .i64 jz0.a1, .int .i64 jz0.b0, .int .i64 jz0.b1, .int .i64 jz0.le, .slice Au10 jz0.sh.length cu10, .int .i64 jz0.wi, .int .i64 jz0.me] M T rfl rfl rfl rfl (.cons (T.ev 0 rfl) .nil) (fun _ => by kernel_rfl) ?_; clear M T; intro g5 wc ac M T
                  refine sh_out hK _ _ ?_; clear hK K
                  refine l_w rfl ?_; intro K hK
                  refine ow_app (((g5, .cells (jobL jz0 Au10 cu10)) :: (g4, .cells [.slice A L.length c, .slice A3 lo1.length c3, .slice (some ⟨go1, 0, none⟩) lo1.length cgo1]) :: (go1, .cells (jc lo1 ++ ysgo1)) :: (Ie ++ Io ++ Iq0 ++ Iu10))) Try.info30 hqs0 M (by first | rfl | simp) T rfl rfl rfl rfl Try.underlying36 rfl rfl rfl (by omega) (T.ev 9 rfl) (T.ev 0 rfl) (nthE_mem (i := 0) rfl) rfl rfl ?_; clear M T; intro ga2 cga2 wc ac M T
                  refine sh_out hK _ _ ?_; clear hK K
                  refine l_q (v := (.slice (some ⟨ga2, 0, none⟩) (QL0.length + 1) cga2)) (T.pick [0, 1, 2, 3, 4, 5, 6, 7, 8, 9, 10, 11, 12, 13, 15] rfl) rfl rfl rfl rfl (rn_assign rfl (T.ev 0 rfl)) ?_; clear T ac; intro ac T
                  refine wpList_nil ?_
                  replace T := T.pick [0, 13, 14, 15] rfl
                  replace M := M.mask [true, false, true, true] rfl
                  refine nm_blk ?_
                  refine nm_then ?_
                  refine wp_region_lit ?_
                  refine l_q T rfl rfl rfl rfl (rn_move rfl (T.ev 3 rfl)) ?_; clear T ac; intro ac T
                  refine l_q T rfl rfl rfl rfl (rn_add rfl (T.ev 0 rfl) evc (by omega)) ?_; clear T ac; intro ac T
                  refine l_q (v := (.int .i64 ((k0 : Int) + 1))) (T.pick [0, 1, 2, 3, 4] rfl) rfl rfl rfl rfl (rn_assign rfl (T.ev 0 rfl)) ?_; clear T ac; intro ac T
                  refine wpList_nil ?_
                  replace T := T.pick [0, 3, 4, 5] rfl
                  refine nm_then ?_
                  have e9 : QL0.length + 1 = (QL0 ++ [(jz0, (Au10 : Option Addr), cu10)]).length := by simp
                  replace M : Mem w noEx wc ((ga2, .row 30 18 (QL0 ++ [(jz0, (Au10 : Option Addr), cu10)]).length (jc (QL0 ++ [(jz0, (Au10 : Option Addr), cu10)])) cga2) :: (g4, .cells [.slice A L.length c, .slice A3 lo1.length c3, .slice (some ⟨go1, 0, none⟩) lo1.length cgo1]) :: (go1, .cells (jc lo1 ++ ysgo1)) :: (Ie ++ Io ++ Iq0 ++ Iu10)) := by rw [← e9, ← jc_snoc]; exact M
                  rw [e9] at T
                  clear e9
                  exact ⟨_, by omega, k0 + 1, (QL0 ++ [(jz0, (Au10 : Option Addr), cu10)]), _, cga2, (Iq0 ++ Iu10), [(ga2, .row 30 18 (QL0 ++ [(jz0, (Au10 : Option Addr), cu10)]).length (jc (QL0 ++ [(jz0, (Au10 : Option Addr), cu10)])) cga2)], rfl, (by omega), (by rw [List.map_append, hQ0, List.take_succ_eq_append_getElem (List.getElem?_eq_some_iff.1 hkz0).1, (List.getElem?_eq_some_iff.1 hkz0).2, List.map_append]; rfl), (by simp only [List.length_append, List.length_cons, List.length_nil]; omega), (hQE0.snoc hfz0 hqu10), (Sl.row _ _ _ _ _ _), T.pick [2, 3, 1, 0] rfl, (by rw [← List.append_assoc (Ie ++ Io)]; exact Mem.swapI (I := [(ga2, .row 30 18 (QL0 ++ [(jz0, (Au10 : Option Addr), cu10)]).length (jc (QL0 ++ [(jz0, (Au10 : Option Addr), cu10)])) cga2)]) (L := ((g4, .cells [.slice A L.length c, .slice A3 lo1.length c3, .slice (some ⟨go1, 0, none⟩) lo1.length cgo1]) :: (go1, .cells (jc lo1 ++ ysgo1)) :: (Ie ++ Io ++ Iq0 ++ Iu10))) (M.permT [0, 1, 2] 3 rfl rfl rfl rfl))⟩
                · intro h6
                  obtain ⟨b50, o50, hS50⟩ := hqs0.spJ (jc_length _)
                  have S50 := hS50 w noEx
                  rw [List.take_of_length_le (by omega)] at hQ0
                  have hQn0 : QL0.length = L.length := by omega
                  refine wp_exit ?_
                  refine ex_then ?_
                  refine ex_then ?_
                  refine ex_hit ?_
                  refine nm_then ?_
                  refine wp_seq ?_
                  refine wp_region_lit ?_
                  refine l_q T rfl rfl rfl rfl (rn_move rfl (T.ev 3 rfl)) ?_; clear T ac; intro ac T
                  refine l_w rfl ?_; intro K hK
                  refine ow_call (first := []) (cap := []) T rfl rfl rfl rfl evf (.cons (T.ev 0 rfl) .nil) Try.func58 rfl rfl ?_
                  refine Calls.mono (Blank_as _ _ QL0 L _ (S50.rd M (.cons _ (.cons _ (List.sublist_append_right _ _)))) (fun x hx => by obtain ⟨h1, b, o, h2⟩ := hQE0 x hx; exact ⟨(h2 w noEx).rd M (.cons _ (.cons _ (subL (List.sublist_append_right _ _)))), by omega⟩) (by omega) hQ0) ?_
                  clear T
                  rintro e wc ⟨rfl, hb⟩
                  intro ac T
                  replace M := M.call hb; clear hb
                  refine sh_out hK _ _ ?_; clear hK K
                  refine l_q T rfl rfl rfl rfl (rn_move rfl (T.ev 0 rfl)) ?_; clear T ac; intro ac T
                  refine l_q T rfl rfl rfl rfl (rn_extract rfl (T.ev 0 rfl) rfl) ?_; clear T ac; intro ac T
                  refine l_q T rfl rfl rfl rfl (rn_extract rfl (T.ev 1 rfl) rfl) ?_; clear T ac; intro ac T
                  refine l_q T rfl rfl rfl rfl (rn_extract rfl (T.ev 2 rfl) rfl) ?_; clear T ac; intro ac T
                  refine l_q T rfl rfl rfl rfl (rn_assign rfl (T.ev 2 rfl)) ?_; clear T ac; intro ac T
                  refine l_q T rfl rfl rfl rfl (rn_assign rfl (T.ev 2 rfl)) ?_; clear T ac; intro ac T
                  refine l_q T rfl rfl rfl rfl (rn_assign rfl (T.ev 2 rfl)) ?_; clear T ac; intro ac T
                  refine wpList_nil ?_
                  replace T := T.pick [0, 1, 2, 10, 11, 12] rfl
                  refine nm_then ?_
                  refine wp_seq ?_
                  refine wp_region_lit ?_
                  refine l_q T rfl rfl rfl rfl (rn_move rfl (T.ev 3 rfl)) ?_; clear T ac; intro ac T
                  refine l_q T rfl rfl rfl rfl (rn_move rfl (T.ev 5 rfl)) ?_; clear T ac; intro ac T
                  refine l_q (v := (.pointer (some ⟨g4, 0, none⟩))) T rfl rfl rfl rfl (rn_indexAddr (size := 1) 0 rfl (T.ev 1 rfl) (T.ev 0 rfl) ⟨_, Try.underlying75, by kernel_rfl⟩ rfl (by decide) rfl) ?_; clear T ac; intro ac T
                  refine l_q T rfl rfl rfl rfl (rn_one (Mem.nth M 0 rfl) rfl (T.ev 0 rfl) rfl) ?_; clear T ac; intro ac T
                  refine l_w rfl ?_; intro K hK
                  refine ow_call (first := []) (cap := []) T rfl rfl rfl rfl evf (.cons (T.ev 0 rfl) .nil) Try.func59 rfl rfl ?_
                  refine Calls.mono (rBlank_any A c L _ (SL.rd M (List.nil_sublist _)) (fun x hx => by obtain ⟨h1, b, o, h2⟩ := hEL x hx; exact ⟨h2.rd M (List.nil_sublist _), by omega⟩) (by omega)) ?_
                  clear T
                  rintro e wc ⟨rfl, hb⟩
                  intro ac T
                  replace M := M.call hb; clear hb
                  refine sh_out hK _ _ ?_; clear hK K
                  refine l_q T rfl rfl rfl rfl (rn_move rfl (T.ev 0 rfl)) ?_; clear T ac; intro ac T
                  refine l_q T rfl rfl rfl rfl (rn_extract rfl (T.ev 0 rfl) rfl) ?_; clear T ac; intro ac T
                  refine l_q T rfl rfl rfl rfl (rn_extract rfl (T.ev 1 rfl) rfl) ?_; clear T ac; intro ac T
                  refine l_q T rfl rfl rfl rfl (rn_extract rfl (T.ev 2 rfl) rfl) ?_; clear T ac; intro ac T
                  refine l_q T rfl rfl rfl rfl (rn_assign rfl (T.ev 2 rfl)) ?_; clear T ac; intro ac T
                  refine l_q T rfl rfl rfl rfl (rn_assign rfl (T.ev 2 rfl)) ?_; clear T ac; intro ac T
                  refine l_q T rfl rfl rfl rfl (rn_assign rfl (T.ev 2 rfl)) ?_; clear T ac; intro ac T
                  refine wpList_nil ?_
                  replace T := T.pick [0, 1, 2, 12, 13, 14, 15, 16, 17] rfl
                  refine nm_then ?_
                  refine wp_seq ?_
                  refine wp_seq ?_
                  refine wp_region_lit ?_
                  refine l_q T rfl rfl rfl rfl (rn_move rfl (T.ev 5 rfl)) ?_; clear T ac; intro ac T
                  refine l_q T rfl rfl rfl rfl (rn_move rfl (T.ev 3 rfl)) ?_; clear T ac; intro ac T
                  refine l_q (v := (.bool false)) T rfl rfl rfl rfl (rn_neqof (rn_neq rfl (T.ev 1 rfl) (T.ev 0 rfl)) (by simp)) ?_; clear T ac; intro ac T
                  refine l_q T rfl rfl rfl rfl (rn_move rfl (T.ev 0 rfl)) ?_; clear T ac; intro ac T
                  refine l_q T (wanted_yes rfl rfl (T.ev 0 rfl) rfl) rfl rfl rfl (rn_move rfl (T.ev 8 rfl)) ?_; clear T ac; intro ac T
                  refine l_q T (wanted_yes rfl rfl (T.ev 1 rfl) rfl) rfl rfl rfl (rn_move rfl (T.ev 6 rfl)) ?_; clear T ac; intro ac T
                  refine l_q (v := (.bool false)) T (wanted_yes rfl rfl (T.ev 2 rfl) rfl) rfl rfl rfl (rn_neqof (rn_neq rfl (T.ev 1 rfl) (T.ev 0 rfl)) (by simp)) ?_; clear T ac; intro ac T
                  refine l_q T rfl rfl rfl rfl (rn_pick0 rfl (T.ev 3 rfl) rfl (T.ev 0 rfl)) ?_; clear T ac; intro ac T
                  refine l_q T rfl rfl rfl rfl (rn_move rfl (T.ev 0 rfl)) ?_; clear T ac; intro ac T
                  refine l_q T (wanted_yes rfl rfl (T.ev 0 rfl) rfl) rfl rfl rfl (rn_move rfl (T.ev 12 rfl)) ?_; clear T ac; intro ac T
                  refine l_q T (wanted_yes rfl rfl (T.ev 1 rfl) rfl) rfl rfl rfl (rn_move rfl (T.ev 10 rfl)) ?_; clear T ac; intro ac T
                  refine l_q (v := (.bool false)) T (wanted_yes rfl rfl (T.ev 2 rfl) rfl) rfl rfl rfl (rn_neqof (rn_neq rfl (T.ev 1 rfl) (T.ev 0 rfl)) (by simp)) ?_; clear T ac; intro ac T
                  refine l_q T rfl rfl rfl rfl (rn_pick0 rfl (T.ev 3 rfl) rfl (T.ev 0 rfl)) ?_; clear T ac; intro ac T
                  refine wpList_nil ?_
                  replace T := T.pick [0, 1, 2, 3, 6, 7, 8, 19, 20, 21] rfl
                  refine nm_then ?_
                  refine wp_cond_false (T.ev 0 rfl) ?_
                  refine wp_skip ?_
                  refine nm_then ?_
                  refine wp_seq ?_
                  refine wp_region_lit ?_
                  refine l_q T rfl rfl rfl rfl (rn_assign rfl evc) ?_; clear T ac; intro ac T
                  refine wpList_nil ?_
                  replace T := T.pick [0, 2, 3, 4, 5, 6, 7, 8, 9, 10] rfl
                  refine nm_then ?_
                  refine wp_block ?_
                  refine wp_loop_n (fun mz ac wc => ∃ (m0 : Nat), mz = L.length - m0 ∧ (m0 ≤ L.length) ∧ Tm ac 146 [(14, .slice (some ⟨g4, 0, none⟩) 3 3), (15, .int .i64 0), (16, .slice A50 QL0.length c50), (24, .int .i64 (m0 : Int)), (117, .int .i64 ((blankT L).2.1)), (118, .int .i64 ((blankT L).2.1)), (119, .bool false), (122, .int .i64 ((blankT L).2.2)), (123, .int .i64 ((blankT L).2.2)), (124, .bool false)] ∧ Mem w noEx wc ((g4, .cells [.slice A L.length c, .slice A3 lo1.length c3, .slice (some ⟨go1, 0, none⟩) lo1.length cgo1]) :: (go1, .cells (jc lo1 ++ ysgo1)) :: (Ie ++ Io ++ Iq0 ++ Ip0))) ?_ ?_
                  · exact ⟨_, 0, rfl, (Nat.zero_le _), T.pick [7, 8, 9, 0, 6, 5, 4, 3, 2, 1] rfl, M.mask [true, true] rfl⟩
                  · clear T M
                    rintro mz ac wc ⟨m0, hmm5, hmk0, T, M⟩
                    refine wp_seq ?_
                    refine wp_seq ?_
                    refine wp_region_lit ?_
                    refine l_q T rfl rfl rfl rfl (rn_move rfl (T.ev 3 rfl)) ?_; clear T ac; intro ac T
                    refine l_q T rfl rfl rfl rfl (rn_move rfl (T.ev 3 rfl)) ?_; clear T ac; intro ac T
                    refine l_q T rfl rfl rfl rfl (rn_lenS rfl Try.underlying36 (T.ev 0 rfl)) ?_; clear T ac; intro ac T
                    refine l_q T rfl rfl rfl rfl (rn_lss rfl (T.ev 2 rfl) (T.ev 0 rfl)) ?_; clear T ac; intro ac T
                    refine wpList_nil ?_
                    replace T := T.pick [0, 4, 5, 6, 7, 8, 9, 10, 11, 12, 13] rfl
                    refine nm_then ?_
                    refine wp_if (T.ev 0 rfl) ?_ ?_
                    · intro h7
                      obtain ⟨jy0, Ay0, cy0, hky0, hdy0⟩ := jel (L := L) (k := m0) (by omega)
                      obtain ⟨hfy0, by0, oy0, Sy0⟩ := hEL _ (List.mem_of_getElem? hky0)
                      replace hfy0 : jy0.sh.length ≤ 20 := hfy0
                      replace Sy0 : Sp w noEx [] Ay0 jy0.sh.length 2 by0 oy0 (rc jy0.sh) := Sy0
                      obtain ⟨jw, Awy0, cwy0, hkwy0, hdwy0⟩ := jel (L := QL0) (k := m0) (by omega)
                      obtain rfl : jy0 = jw := by have h8 := congrArg (fun z : List Jb => z[m0]?) hQ0; simp only [List.getElem?_map, hkwy0, hky0, Option.map_some, Option.some.injEq] at h8; exact h8.symm
                      obtain ⟨hfw, bwy0, owy0, Sww⟩ := hQE0 _ (List.mem_of_getElem? hkwy0)
                      have Swy0 : Sp w noEx Iq0 Awy0 jy0.sh.length 2 bwy0 owy0 (rc jy0.sh) := Sww w noEx
                      refine wp_skip ?_
                      refine nm_then ?_
                      refine wp_seq ?_
                      refine wp_block ?_
                      refine wp_seq ?_
                      refine g_start2 M (M.mask [true, true] rfl) 13 (by kernel_rfl) rfl (by kernel_rfl) ?_
                      clear M; intro wc M
                      refine g_q (T := T) (i := 0) rfl (by kernel_rfl) (by kernel_rfl : (pbits 13 0).setIfInBounds 0 true = pbits 13 1) si_U (fun _ _ _ h => h) rfl rfl rfl rfl (fun _ _ _ _ _ => (rn_move rfl (T.ev 3 rfl))) ?_; clear T ac; intro ac T
                      refine g_q (T := T) (i := 1) rfl (by kernel_rfl) (by kernel_rfl : (pbits 13 1).setIfInBounds 1 true = pbits 13 3) si_U (fun _ _ _ h => h) rfl rfl rfl rfl (fun _ _ _ _ _ => (rn_move rfl (T.ev 5 rfl))) ?_; clear T ac; intro ac T
                      refine g_q (T := T) (i := 2) rfl (by kernel_rfl) (by kernel_rfl : (pbits 13 3).setIfInBounds 2 true = pbits 13 7) si_U (fun _ _ _ h => h) rfl rfl rfl rfl (fun _ _ _ _ _ => (rn_indexAddr (size := 18) m0 rfl (T.ev 1 rfl) (T.ev 0 rfl) ⟨_, Try.underlying36, by kernel_rfl⟩ rfl (by omega) (S50.at0 (by omega)))) ?_; clear T ac; intro ac T
                      refine g_q (v := (.agg #[.int .i64 jy0.p0, .int .i64 jy0.p1, .int .i64 jy0.t0, .int .i64 jy0.t1, .int .i64 jy0.r0, .int .i64 jy0.r1, .int .i64 jy0.u0, .int .i64 jy0.u1, .int .i64 jy0.d0, .int .i64 jy0.d1, .int .i64 jy0.a0, .int .i64 jy0.a1, .int .i64 jy0.b0, .int .i64 jy0.b1, .int .i64 jy0.le, .slice Awy0 jy0.sh.length cwy0, .int .i64 jy0.wi, .int .i64 jy0.me])) (T := T) (i := 3) rfl (by kernel_rfl) (by kernel_rfl : (pbits 13 7).setIfInBounds 3 true = pbits 13 15) si_U (fun _ _ _ h => h) rfl rfl rfl rfl (fun B w' hD hl hS => (rn_rowat (Sp.jcR S50 (show Mem w noEx w' _ from hS) (.cons _ (.cons _ (List.sublist_append_right _ _))) hkwy0) rfl (T.ev 0 rfl) rfl)) ?_; clear T ac; intro ac T
                      refine g_q (T := T) (i := 4) rfl (by kernel_rfl) (by kernel_rfl : (pbits 13 15).setIfInBounds 4 true = pbits 13 31) si_U (fun _ _ _ h => h) rfl rfl rfl rfl (fun _ _ _ _ _ => (rn_move rfl (T.ev 5 rfl))) ?_; clear T ac; intro ac T
                      refine g_q (T := T) (i := 5) rfl (by kernel_rfl) (by kernel_rfl : (pbits 13 31).setIfInBounds 5 true = pbits 13 63) si_U (fun _ _ _ h => h) rfl rfl rfl rfl (fun _ _ _ _ _ => (rn_move rfl (T.ev 7 rfl))) ?_; clear T ac; intro ac T
                      refine g_q (v := (.pointer (some ⟨g4, 0, none⟩))) (T := T) (i := 6) rfl (by kernel_rfl) (by kernel_rfl : (pbits 13 63).setIfInBounds 6 true = pbits 13 127) si_U (fun _ _ _ h => h) rfl rfl rfl rfl (fun _ _ _ _ _ => (rn_indexAddr (size := 1) 0 rfl (T.ev 1 rfl) (T.ev 0 rfl) ⟨_, Try.underlying75, by kernel_rfl⟩ rfl (by decide) rfl)) ?_; clear T ac; intro ac T
                      refine g_q (T := T) (i := 7) rfl (by kernel_rfl) (by kernel_rfl : (pbits 13 127).setIfInBounds 7 true = pbits 13 255) si_U (fun _ _ _ h => h) rfl rfl rfl rfl (fun B w' hD hl hS => (rn_one (Mem.nth (show Mem w noEx w' _ from hS) 0 rfl) rfl (T.ev 0 rfl) rfl)) ?_; clear T ac; intro ac T
                      refine g_q (T := T) (i := 8) rfl (by kernel_rfl) (by kernel_rfl : (pbits 13 255).setIfInBounds 8 true = pbits 13 511) si_U (fun _ _ _ h => h) rfl rfl rfl rfl (fun _ _ _ _ _ => (rn_move rfl (T.ev 12 rfl))) ?_; clear T ac; intro ac T
                      refine g_q (T := T) (i := 9) rfl (by kernel_rfl) (by kernel_rfl : (pbits 13 511).setIfInBounds 9 true = pbits 13 1023) si_U (fun _ _ _ h => h) rfl rfl rfl rfl (fun _ _ _ _ _ => (rn_indexAddr (size := 18) m0 rfl (T.ev 1 rfl) (T.ev 0 rfl) ⟨_, Try.underlying36, by kernel_rfl⟩ rfl (by omega) (SL.at0 (by omega)))) ?_; clear T ac; intro ac T
                      refine g_q (v := (.agg #[.int .i64 jy0.p0, .int .i64 jy0.p1, .int .i64 jy0.t0, .int .i64 jy0.t1, .int .i64 jy0.r0, .int .i64 jy0.r1, .int .i64 jy0.u0, .int .i64 jy0.u1, .int .i64 jy0.d0, .int .i64 jy0.d1, .int .i64 jy0.a0, .int .i64 jy0.a1, .int .i64 jy0.b0, .int .i64 jy0.b1, .int .i64 jy0.le, .slice Ay0 jy0.sh.length cy0, .int .i64 jy0.wi, .int .i64 jy0.me])) (T := T) (i := 10) rfl (by kernel_rfl) (by kernel_rfl : (pbits 13 1023).setIfInBounds 10 true = pbits 13 2047) si_U (fun _ _ _ h => h) rfl rfl rfl rfl (fun B w' hD hl hS => (rn_rowat (Sp.jcR SL (show Mem w noEx w' _ from hS) (List.nil_sublist _) hky0) rfl (T.ev 0 rfl) rfl)) ?_; clear T ac; intro ac T
                      refine g_w (i := 11) (by kernel_rfl) rfl (by kernel_rfl : (pbits 13 2047).setIfInBounds 11 true = pbits 13 4095) rfl ?_; intro K hK
                      refine ow_call (first := []) (cap := []) T rfl rfl rfl rfl evf (.cons (T.ev 7 rfl) (.cons (T.ev 0 rfl) .nil)) Try.func22 rfl rfl ?_
                      refine Calls.mono (sameJobs_same jy0 _ _ _ _ _ (Swy0.rd M (.cons _ (.cons _ (subL (List.sublist_append_right _ _))))) (Sy0.rd M (List.nil_sublist _)) (by omega)) ?_
                      clear T
                      rintro e wc ⟨rfl, hb⟩
                      intro ac T
                      replace M := M.call hb; clear hb
                      refine sh_out hK _ _ (M.mask [true, true] rfl) ?_; clear hK K
                      refine g_q (v := (.bool false)) (T := T) (i := 12) rfl (by kernel_rfl) (by kernel_rfl : (pbits 13 4095).setIfInBounds 12 true = pbits 13 8191) si_U (fun _ _ _ h => h) rfl rfl rfl rfl (fun _ _ _ _ _ => (rn_neqof (rn_not rfl (T.ev 0 rfl)) (by simp))) ?_; clear T ac; intro ac T
                      refine g_done (by kernel_rfl) ?_
                      replace T := T.pick [0, 14, 15, 16, 17, 18, 19, 20, 21, 22, 23] rfl
                      refine nm_then ?_
                      refine wp_cond_false (T.ev 0 rfl) ?_
                      refine wp_skip ?_
                      refine nm_blk ?_
                      refine nm_then ?_
                      refine wp_region_lit ?_
                      refine l_q T rfl rfl rfl rfl (rn_move rfl (T.ev 4 rfl)) ?_; clear T ac; intro ac T
                      refine l_q T rfl rfl rfl rfl (rn_add rfl (T.ev 0 rfl) evc (by omega)) ?_; clear T ac; intro ac T
                      refine l_q (v := (.int .i64 ((m0 : Int) + 1))) (T.pick [0, 1, 2, 3, 4, 5, 7, 8, 9, 10, 11, 12] rfl) rfl rfl rfl rfl (rn_assign rfl (T.ev 0 rfl)) ?_; clear T ac; intro ac T
                      refine wpList_nil ?_
                      replace T := T.pick [0, 4, 5, 6, 7, 8, 9, 10, 11, 12] rfl
                      refine nm_then ?_
                      exact ⟨_, by omega, m0 + 1, rfl, (by omega), T.pick [1, 2, 3, 0, 4, 5, 6, 7, 8, 9] rfl, M.mask [true, true] rfl⟩
                    · intro h7
                      refine wp_exit ?_
                      refine ex_then ?_
                      refine ex_then ?_
                      refine ex_hit ?_
                      refine nm_blk ?_
                      refine nm_then ?_
                      refine wp_region_lit ?_
                      refine l_q T rfl rfl rfl rfl (rn_move rfl (T.ev 2 rfl)) ?_; clear T ac; intro ac T
                      refine l_q (v := (.int .i64 1)) T rfl rfl rfl rfl (rn_ofI (rn_add rfl (T.ev 0 rfl) evc (by omega)) (by rfl)) ?_; clear T ac; intro ac T
                      refine l_q (v := (.int .i64 1)) (T.pick [0, 1, 2, 3, 5, 6, 7, 8, 9, 10, 11, 12] rfl) rfl rfl rfl rfl (rn_assign rfl (T.ev 0 rfl)) ?_; clear T ac; intro ac T
                      refine wpList_nil ?_
                      replace T := T.pick [0, 4, 7, 8, 9, 10, 11, 12] rfl
                      refine nm_then ?_
                      refine rounds_S ?_
                      refine wp_seq ?_
                      refine wp_seq ?_
                      refine wp_region_lit ?_
                      refine l_q T rfl rfl rfl rfl (rn_move rfl (T.ev 0 rfl)) ?_; clear T ac; intro ac T
                      refine l_q T rfl rfl rfl rfl (rn_move rfl (T.ev 2 rfl)) ?_; clear T ac; intro ac T
                      refine l_q (v := (.int .i64 3)) T rfl rfl rfl rfl (rn_lenS rfl Try.underlying75 (T.ev 0 rfl)) ?_; clear T ac; intro ac T
                      refine l_q (v := (.bool true)) T rfl rfl rfl rfl (rn_neqof (rn_lss rfl (T.ev 2 rfl) (T.ev 0 rfl)) (by simp)) ?_; clear T ac; intro ac T
                      refine wpList_nil ?_
                      replace T := T.pick [0, 4, 5, 6, 7, 8, 9, 10, 11] rfl
                      refine nm_then ?_
                      refine wp_cond_true (T.ev 0 rfl) ?_
                      refine wp_skip ?_
                      refine nm_then ?_
                      refine wp_seq ?_
                      refine wp_block ?_
                      refine wp_seq ?_
                      refine wp_region_lit ?_
                      refine l_q T rfl rfl rfl rfl (rn_assign rfl evc) ?_; clear T ac; intro ac T
                      refine wpList_nil ?_
                      replace T := T.pick [0, 2, 3, 4, 5, 6, 7, 8, 9] rfl
                      refine nm_then ?_
                      refine wp_seq ?_
                      refine wp_seq ?_
                      refine wp_region_lit ?_
                      refine l_q T rfl rfl rfl rfl (rn_assign rfl evc) ?_; clear T ac; intro ac T
                      refine wpList_nil ?_
                      refine nm_then ?_
                      refine wp_block ?_
                      have hEO : ∀ x ∈ OL, x.1.sh.length ≤ 20 ∧ ∃ b o, Sp w noEx Ie x.2.1 x.1.sh.length 2 b o (rc x.1.sh) := fun x hx => by obtain ⟨h1, b, o, h2⟩ := hOE x hx; exact ⟨h1, b, o, h2 w noEx⟩
                      refine wp_loop_n (fun mz ac wc => ∃ (k1 : Nat) (QL1 : List JE) (A51 : Option Addr) (c51 : Nat) (Iq1 Ip1 : List (Nat × BA)), mz = OL.length - k1 ∧ (k1 ≤ OL.length) ∧ (QL1.map (·.1) = (OL.take k1).map (·.1)) ∧ (QL1.length = k1) ∧ (ElsJ QL1 Iq1) ∧ (Sl 30 18 (.slice A51 QL1.length c51) QL1.length (jc QL1) Ip1) ∧ Tm ac 146 [(14, .slice (some ⟨g4, 0, none⟩) 3 3), (15, .int .i64 1), (16, .slice A51 QL1.length c51), (17, .int .i64 (k1 : Int)), (117, .int .i64 ((blankT L).2.1)), (118, .int .i64 ((blankT L).2.1)), (119, .bool false), (122, .int .i64 ((blankT L).2.2)), (123, .int .i64 ((blankT L).2.2)), (124, .bool false)] ∧ Mem w noEx wc ((g4, .cells [.slice A L.length c, .slice A3 lo1.length c3, .slice (some ⟨go1, 0, none⟩) lo1.length cgo1]) :: (go1, .cells (jc lo1 ++ ysgo1)) :: (Ie ++ Io ++ Iq0 ++ Ip0 ++ Iq1 ++ Ip1))) ?_ ?_
                      · exact ⟨_, 0, [], none, 0, [], [], rfl, (Nat.zero_le _), rfl, rfl, (fun x hx => by cases hx), (Sl.nil _ _), T.pick [3, 2, 1, 0, 4, 5, 6, 7, 8, 9] rfl, (by simp only [List.append_nil]; exact M)⟩
                      · clear T M
                        rintro mz ac wc ⟨k1, QL1, A51, c51, Iq1, Ip1, hmm4, hk1, hQ1, hQl1, hQE1, hqs1, T, M⟩
                        refine wp_seq ?_
                        refine wp_seq ?_
                        refine wp_region_lit ?_
                        refine l_q T rfl rfl rfl rfl (rn_move rfl (T.ev 3 rfl)) ?_; clear T ac; intro ac T
                        refine l_q T rfl rfl rfl rfl (rn_move rfl (T.ev 1 rfl)) ?_; clear T ac; intro ac T
                        refine l_q T rfl rfl rfl rfl (rn_move rfl (T.ev 3 rfl)) ?_; clear T ac; intro ac T
                        refine l_q (v := (.pointer (some ⟨g4, 1, none⟩))) T rfl rfl rfl rfl (rn_indexAddr (size := 1) 1 rfl (T.ev 1 rfl) (T.ev 0 rfl) ⟨_, Try.underlying75, by kernel_rfl⟩ rfl (by decide) rfl) ?_; clear T ac; intro ac T
                        refine l_q T rfl rfl rfl rfl (rn_one (Mem.nth M 0 rfl) rfl (T.ev 0 rfl) rfl) ?_; clear T ac; intro ac T
                        refine l_q T rfl rfl rfl rfl (rn_lenS rfl Try.underlying36 (T.ev 0 rfl)) ?_; clear T ac; intro ac T
                        refine l_q T rfl rfl rfl rfl (rn_lss rfl (T.ev 5 rfl) (T.ev 0 rfl)) ?_; clear T ac; intro ac T
                        refine wpList_nil ?_
                        replace T := T.pick [0, 7, 8, 9, 10, 11, 12, 13, 14, 15, 16] rfl
                        refine nm_then ?_
                        refine wp_if (T.ev 0 rfl) ?_ ?_
                        · intro h8
                          obtain ⟨jz1, Az1, cz1, hkz1, hdz1⟩ := jel (L := OL) (k := k1) (by omega)
                          obtain ⟨hfz1, bz1, oz1, Sz1⟩ := hEO _ (List.mem_of_getElem? hkz1)
                          replace hfz1 : jz1.sh.length ≤ 20 := hfz1
                          replace Sz1 : Sp w noEx Ie Az1 jz1.sh.length 2 bz1 oz1 (rc jz1.sh) := Sz1
                          refine wp_skip ?_
                          refine nm_then ?_
                          refine wp_seq ?_
                          refine wp_block ?_
                          refine wp_region_lit ?_
                          refine l_q T rfl rfl rfl rfl (rn_move rfl (T.ev 3 rfl)) ?_; clear T ac; intro ac T
                          refine l_q T rfl rfl rfl rfl (rn_move rfl (T.ev 2 rfl)) ?_; clear T ac; intro ac T
                          refine l_q T rfl rfl rfl rfl (rn_move rfl (T.ev 4 rfl)) ?_; clear T ac; intro ac T
                          refine l_q (v := (.pointer (some ⟨g4, 1, none⟩))) T rfl rfl rfl rfl (rn_indexAddr (size := 1) 1 rfl (T.ev 1 rfl) (T.ev 0 rfl) ⟨_, Try.underlying75, by kernel_rfl⟩ rfl (by decide) rfl) ?_; clear T ac; intro ac T
                          refine l_q T rfl rfl rfl rfl (rn_one (Mem.nth M 0 rfl) rfl (T.ev 0 rfl) rfl) ?_; clear T ac; intro ac T
                          refine l_q T rfl rfl rfl rfl (rn_move rfl (T.ev 9 rfl)) ?_; clear T ac; intro ac T
                          refine l_q T rfl rfl rfl rfl (rn_indexAddr (size := 18) k1 rfl (T.ev 1 rfl) (T.ev 0 rfl) ⟨_, Try.underlying36, by kernel_rfl⟩ rfl (by omega) (S3.at0 (by omega))) ?_; clear T ac; intro ac T
                          refine l_q (v := (.agg #[.int .i64 jz1.p0, .int .i64 jz1.p1, .int .i64 jz1.t0, .int .i64 jz1.t1, .int .i64 jz1.r0, .int .i64 jz1.r1, .int .i64 jz1.u0, .int .i64 jz1.u1, .int .i64 jz1.d0, .int .i64 jz1.d1, .int .i64 jz1.a0, .int .i64 jz1.a1, .int .i64 jz1.b0, .int .i64 jz1.b1, .int .i64 jz1.le, .slice Az1 jz1.sh.length cz1, .int .i64 jz1.wi, .int .i64 jz1.me])) T rfl rfl rfl rfl (rn_rowat (Sp.jcR S3 M (.cons _ (.cons _ (subL (subL (subL (subL (List.sublist_append_right _ _))))))) hkz1) rfl (T.ev 0 rfl) rfl) ?_; clear T ac; intro ac T
                          refine l_w rfl ?_; intro K hK
                          refine ow_call (first := []) (cap := []) T rfl rfl rfl rfl evf (.cons (T.ev 0 rfl) .nil) Try.func18 rfl rfl ?_
                          refine Calls.mono (copyJob_own jz1 _ _ _ (Sz1.rd M (.cons _ (.cons _ (subL (subL (subL (subL (subL (List.Sublist.refl _))))))))) (by first | omega | (dsimp only [Jb.one]; omega))) ?_
                          clear T
                          rintro e wc ⟨Au14, cu14, Iu14, rfl, hsnu14, N⟩
                          intro ac T
                          obtain ⟨bu14, ou14, hqu14⟩ := hsnu14.spJ (rc_length _)
                          have Su14 := hqu14 w noEx
                          replace M := (M.join N).swapI
                          replace M : Mem w noEx wc ((g4, .cells [.slice A L.length c, .slice A3 lo1.length c3, .slice (some ⟨go1, 0, none⟩) lo1.length cgo1]) :: (go1, .cells (jc lo1 ++ ysgo1)) :: (Ie ++ Io ++ Iq0 ++ Ip0 ++ Iq1 ++ Ip1 ++ Iu14)) := M
                          clear N
                          replace M : Mem w noEx wc ((g4, .cells [.slice A L.length c, .slice A3 lo1.length c3, .slice (some ⟨go1, 0, none⟩) lo1.length cgo1]) :: (go1, .cells (jc lo1 ++ ysgo1)) :: (Ie ++ Io ++ Iq0 ++ Ip0 ++ Iq1 ++ Iu14 ++ Ip1)) := Mem.swapT [(g4, .cells [.slice A L.length c, .slice A3 lo1.length c3, .slice (some ⟨go1, 0, none⟩) lo1.length cgo1]), (go1, .cells (jc lo1 ++ ysgo1))] (Ie ++ Io ++ Iq0 ++ Ip0 ++ Iq1) Ip1 Iu14 M
                          refine sh_out hK _ _ ?_; clear hK K
                          refine l_w rfl ?_; intro K hK
                          refine ow_bs (e := 30) [.int .i64 jz1.p0, .int .i64 jz1.p1, .int .i64 jz1.t0, .int .i64 jz1.t1, .int .i64 jz1.r0, .int .i64 jz1.r1, .int .i64 jz1.u0, .int .i64 jz1.u1, .int .i64 jz1.d0, .int .i64 jz1.d1, .int .i64 jz1.a0, .int .i64 jz1.a1, .int .i64 jz1.b0, .int .i64 jz1.b1, .int .i64 jz1.le, .slice Au14 jz1.sh.length cu14, .int .i64 jz1.wi, .int .i64 jz1.me] M T rfl rfl rfl rfl (.cons (T.ev 0 rfl) .nil) (fun _ => by kernel_rfl) ?_; clear M T; intro g6 wc ac M T
                          refine sh_out hK _ _ ?_; clear hK K
                          refine l_w rfl ?_; intro K hK
                          refine ow_app (((g6, .cells (jobL jz1 Au14 cu14)) :: (g4, .cells [.slice A L.length c, .slice A3 lo1.length c3, .slice (some ⟨go1, 0, none⟩) lo1.length cgo1]) :: (go1, .cells (jc lo1 ++ ysgo1)) :: (Ie ++ Io ++ Iq0 ++ Ip0 ++ Iq1 ++ Iu14))) Try.info30 hqs1 M (by first | rfl | simp) T rfl rfl rfl rfl Try.underlying36 rfl rfl rfl (by omega) (T.ev 9 rfl) (T.ev 0 rfl) (nthE_mem (i := 0) rfl) rfl rfl ?_; clear M T; intro ga3 cga3 wc ac M T
                          refine sh_out hK _ _ ?_; clear hK K
                          refine l_q (v := (.slice (some ⟨ga3, 0, none⟩) (QL1.length + 1) cga3)) (T.pick [0, 1, 2, 3, 4, 5, 6, 7, 8, 9, 10, 11, 12, 13, 15, 16, 17, 18, 19, 20, 21] rfl) rfl rfl rfl rfl (rn_assign rfl (T.ev 0 rfl)) ?_; clear T ac; intro ac T
                          refine wpList_nil ?_
                          replace T := T.pick [0, 13, 14, 15, 16, 17, 18, 19, 20, 21] rfl
                          replace M := M.mask [true, false, true, true] rfl
                          refine nm_blk ?_
                          refine nm_then ?_
                          refine wp_region_lit ?_
                          refine l_q T rfl rfl rfl rfl (rn_move rfl (T.ev 3 rfl)) ?_; clear T ac; intro ac T
                          refine l_q T rfl rfl rfl rfl (rn_add rfl (T.ev 0 rfl) evc (by omega)) ?_; clear T ac; intro ac T
                          refine l_q (v := (.int .i64 ((k1 : Int) + 1))) (T.pick [0, 1, 2, 3, 4, 6, 7, 8, 9, 10, 11] rfl) rfl rfl rfl rfl (rn_assign rfl (T.ev 0 rfl)) ?_; clear T ac; intro ac T
                          refine wpList_nil ?_
                          replace T := T.pick [0, 3, 4, 5, 6, 7, 8, 9, 10, 11] rfl
                          refine nm_then ?_
                          have e9 : QL1.length + 1 = (QL1 ++ [(jz1, (Au14 : Option Addr), cu14)]).length := by simp
                          replace M : Mem w noEx wc ((ga3, .row 30 18 (QL1 ++ [(jz1, (Au14 : Option Addr), cu14)]).length (jc (QL1 ++ [(jz1, (Au14 : Option Addr), cu14)])) cga3) :: (g4, .cells [.slice A L.length c, .slice A3 lo1.length c3, .slice (some ⟨go1, 0, none⟩) lo1.length cgo1]) :: (go1, .cells (jc lo1 ++ ysgo1)) :: (Ie ++ Io ++ Iq0 ++ Ip0 ++ Iq1 ++ Iu14)) := by rw [← e9, ← jc_snoc]; exact M
                          rw [e9] at T
                          clear e9
                          exact ⟨_, by omega, k1 + 1, (QL1 ++ [(jz1, (Au14 : Option Addr), cu14)]), _, cga3, (Iq1 ++ Iu14), [(ga3, .row 30 18 (QL1 ++ [(jz1, (Au14 : Option Addr), cu14)]).length (jc (QL1 ++ [(jz1, (Au14 : Option Addr), cu14)])) cga3)], rfl, (by omega), (by rw [List.map_append, hQ1, List.take_succ_eq_append_getElem (List.getElem?_eq_some_iff.1 hkz1).1, (List.getElem?_eq_some_iff.1 hkz1).2, List.map_append]; rfl), (by simp only [List.length_append, List.length_cons, List.length_nil]; omega), (hQE1.snoc hfz1 hqu14), (Sl.row _ _ _ _ _ _), T.pick [2, 3, 1, 0, 4, 5, 6, 7, 8, 9] rfl, (by rw [← List.append_assoc (Ie ++ Io ++ Iq0 ++ Ip0)]; exact Mem.swapI (I := [(ga3, .row 30 18 (QL1 ++ [(jz1, (Au14 : Option Addr), cu14)]).length (jc (QL1 ++ [(jz1, (Au14 : Option Addr), cu14)])) cga3)]) (L := ((g4, .cells [.slice A L.length c, .slice A3 lo1.length c3, .slice (some ⟨go1, 0, none⟩) lo1.length cgo1]) :: (go1, .cells (jc lo1 ++ ysgo1)) :: (Ie ++ Io ++ Iq0 ++ Ip0 ++ Iq1 ++ Iu14))) (M.permT [0, 1, 2] 3 rfl rfl rfl rfl))⟩
                        · intro h8
                          obtain ⟨b51, o51, hS51⟩ := hqs1.spJ (jc_length _)
                          have S51 := hS51 w noEx
                          rw [List.take_of_length_le (by omega)] at hQ1
                          have hQn1 : QL1.length = OL.length := by omega
                          refine wp_exit ?_
                          refine ex_then ?_
                          refine ex_then ?_
                          refine ex_hit ?_
                          refine nm_then ?_
                          refine wp_seq ?_
                          refine wp_region_lit ?_
                          refine l_q T rfl rfl rfl rfl (rn_move rfl (T.ev 3 rfl)) ?_; clear T ac; intro ac T
                          refine l_w rfl ?_; intro K hK
                          refine ow_call (first := []) (cap := []) T rfl rfl rfl rfl evf (.cons (T.ev 0 rfl) .nil) Try.func58 rfl rfl ?_
                          refine Calls.mono (Blank_as _ _ QL1 OL _ (S51.rd M (.cons _ (.cons _ (List.sublist_append_right _ _)))) (fun x hx => by obtain ⟨h1, b, o, h2⟩ := hQE1 x hx; exact ⟨(h2 w noEx).rd M (.cons _ (.cons _ (subL (List.sublist_append_right _ _)))), by omega⟩) (by omega) hQ1) ?_
                          clear T
                          rintro e wc ⟨rfl, hb⟩
                          intro ac T
                          replace M := M.call hb; clear hb
                          refine sh_out hK _ _ ?_; clear hK K
                          refine l_q T rfl rfl rfl rfl (rn_move rfl (T.ev 0 rfl)) ?_; clear T ac; intro ac T
                          refine l_q T rfl rfl rfl rfl (rn_extract rfl (T.ev 0 rfl) rfl) ?_; clear T ac; intro ac T
                          refine l_q T rfl rfl rfl rfl (rn_extract rfl (T.ev 1 rfl) rfl) ?_; clear T ac; intro ac T
                          refine l_q T rfl rfl rfl rfl (rn_extract rfl (T.ev 2 rfl) rfl) ?_; clear T ac; intro ac T
                          refine l_q T rfl rfl rfl rfl (rn_assign rfl (T.ev 2 rfl)) ?_; clear T ac; intro ac T
                          refine l_q T rfl rfl rfl rfl (rn_assign rfl (T.ev 2 rfl)) ?_; clear T ac; intro ac T
                          refine l_q T rfl rfl rfl rfl (rn_assign rfl (T.ev 2 rfl)) ?_; clear T ac; intro ac T
                          refine wpList_nil ?_
                          replace T := T.pick [0, 1, 2, 10, 11, 12, 14, 15, 16, 17, 18, 19] rfl
                          refine nm_then ?_
                          refine wp_seq ?_
                          refine wp_region_lit ?_
                          refine l_q T rfl rfl rfl rfl (rn_move rfl (T.ev 3 rfl)) ?_; clear T ac; intro ac T
                          refine l_q T rfl rfl rfl rfl (rn_move rfl (T.ev 5 rfl)) ?_; clear T ac; intro ac T
                          refine l_q (v := (.pointer (some ⟨g4, 1, none⟩))) T rfl rfl rfl rfl (rn_indexAddr (size := 1) 1 rfl (T.ev 1 rfl) (T.ev 0 rfl) ⟨_, Try.underlying75, by kernel_rfl⟩ rfl (by decide) rfl) ?_; clear T ac; intro ac T
                          refine l_q T rfl rfl rfl rfl (rn_one (Mem.nth M 0 rfl) rfl (T.ev 0 rfl) rfl) ?_; clear T ac; intro ac T
                          refine l_w rfl ?_; intro K hK
                          refine ow_call (first := []) (cap := []) T rfl rfl rfl rfl evf (.cons (T.ev 0 rfl) .nil) Try.func59 rfl rfl ?_
                          refine Calls.mono (Calls.cast (by rw [lhlo1]; rfl) (rBlank_any A3 c3 OL _ (S3.rd M (.cons _ (.cons _ (subL (subL (subL (subL (List.sublist_append_right _ _)))))))) (fun x hx => by obtain ⟨h1, b, o, h2⟩ := hEO x hx; exact ⟨h2.rd M (.cons _ (.cons _ (subL (subL (subL (subL (subL (List.Sublist.refl _)))))))), by omega⟩) (by omega))) ?_
                          clear T
                          rintro e wc ⟨rfl, hb⟩
                          intro ac T
                          replace M := M.call hb; clear hb
                          refine sh_out hK _ _ ?_; clear hK K
                          refine l_q T rfl rfl rfl rfl (rn_move rfl (T.ev 0 rfl)) ?_; clear T ac; intro ac T
                          refine l_q T rfl rfl rfl rfl (rn_extract rfl (T.ev 0 rfl) rfl) ?_; clear T ac; intro ac T
                          refine l_q T rfl rfl rfl rfl (rn_extract rfl (T.ev 1 rfl) rfl) ?_; clear T ac; intro ac T
                          refine l_q T rfl rfl rfl rfl (rn_extract rfl (T.ev 2 rfl) rfl) ?_; clear T ac; intro ac T
                          refine l_q T rfl rfl rfl rfl (rn_assign rfl (T.ev 2 rfl)) ?_; clear T ac; intro ac T
                          refine l_q T rfl rfl rfl rfl (rn_assign rfl (T.ev 2 rfl)) ?_; clear T ac; intro ac T
                          refine l_q T rfl rfl rfl rfl (rn_assign rfl (T.ev 2 rfl)) ?_; clear T ac; intro ac T
                          refine wpList_nil ?_
                          replace T := T.pick [0, 1, 2, 12, 13, 14, 15, 16, 17, 18, 19, 20, 21, 22, 23] rfl
                          refine nm_then ?_
                          refine wp_seq ?_
                          refine wp_seq ?_
                          refine wp_region_lit ?_
                          refine l_q T rfl rfl rfl rfl (rn_move rfl (T.ev 5 rfl)) ?_; clear T ac; intro ac T
                          refine l_q T rfl rfl rfl rfl (rn_move rfl (T.ev 3 rfl)) ?_; clear T ac; intro ac T
                          refine l_q (v := (.bool false)) T rfl rfl rfl rfl (rn_neqof (rn_neq rfl (T.ev 1 rfl) (T.ev 0 rfl)) (by simp)) ?_; clear T ac; intro ac T
                          refine l_q T rfl rfl rfl rfl (rn_move rfl (T.ev 0 rfl)) ?_; clear T ac; intro ac T
                          refine l_q (v := (.int .i64 ((blankT OL).2.1))) (T.pick [0, 1, 2, 3, 4, 5, 6, 7, 8, 9, 10, 11, 12, 14, 15, 16, 17, 18] rfl) (wanted_yes rfl rfl (T.ev 0 rfl) rfl) rfl rfl rfl (rn_move rfl (T.ev 8 rfl)) ?_; clear T ac; intro ac T
                          refine l_q (v := (.int .i64 ((blankT OL).2.1))) (T.pick [0, 1, 2, 3, 4, 5, 6, 7, 8, 9, 10, 11, 12, 13, 15, 16, 17, 18] rfl) (wanted_yes rfl rfl (T.ev 1 rfl) rfl) rfl rfl rfl (rn_move rfl (T.ev 6 rfl)) ?_; clear T ac; intro ac T
                          refine l_q (v := (.bool false)) (T.pick [0, 1, 2, 3, 4, 5, 6, 7, 8, 9, 10, 11, 12, 13, 14, 16, 17, 18] rfl) (wanted_yes rfl rfl (T.ev 2 rfl) rfl) rfl rfl rfl (rn_neqof (rn_neq rfl (T.ev 1 rfl) (T.ev 0 rfl)) (by simp)) ?_; clear T ac; intro ac T
                          refine l_q T rfl rfl rfl rfl (rn_pick0 rfl (T.ev 3 rfl) rfl (T.ev 0 rfl)) ?_; clear T ac; intro ac T
                          refine l_q T rfl rfl rfl rfl (rn_move rfl (T.ev 0 rfl)) ?_; clear T ac; intro ac T
                          refine l_q (v := (.int .i64 ((blankT OL).2.2))) (T.pick [0, 1, 2, 3, 4, 5, 6, 7, 8, 9, 10, 11, 12, 13, 14, 15, 16, 17, 19, 20] rfl) (wanted_yes rfl rfl (T.ev 0 rfl) rfl) rfl rfl rfl (rn_move rfl (T.ev 12 rfl)) ?_; clear T ac; intro ac T
                          refine l_q (v := (.int .i64 ((blankT OL).2.2))) (T.pick [0, 1, 2, 3, 4, 5, 6, 7, 8, 9, 10, 11, 12, 13, 14, 15, 16, 17, 18, 20] rfl) (wanted_yes rfl rfl (T.ev 1 rfl) rfl) rfl rfl rfl (rn_move rfl (T.ev 10 rfl)) ?_; clear T ac; intro ac T
                          refine l_q (v := (.bool false)) (T.pick [0, 1, 2, 3, 4, 5, 6, 7, 8, 9, 10, 11, 12, 13, 14, 15, 16, 17, 18, 19] rfl) (wanted_yes rfl rfl (T.ev 2 rfl) rfl) rfl rfl rfl (rn_neqof (rn_neq rfl (T.ev 1 rfl) (T.ev 0 rfl)) (by simp)) ?_; clear T ac; intro ac T
                          refine l_q T rfl rfl rfl rfl (rn_pick0 rfl (T.ev 3 rfl) rfl (T.ev 0 rfl)) ?_; clear T ac; intro ac T
                          refine wpList_nil ?_
                          replace T := T.pick [0, 1, 2, 3, 6, 7, 8, 19, 20, 21] rfl
                          refine nm_then ?_
                          refine wp_cond_false (T.ev 0 rfl) ?_
                          refine wp_skip ?_
                          refine nm_then ?_
                          refine wp_seq ?_
                          refine wp_region_lit ?_
                          refine l_q T rfl rfl rfl rfl (rn_assign rfl evc) ?_; clear T ac; intro ac T
                          refine wpList_nil ?_
                          replace T := T.pick [0, 2, 3, 4, 5, 6, 7, 8, 9, 10] rfl
                          refine nm_then ?_
                          refine wp_block ?_
                          refine wp_loop_n (fun mz ac wc => ∃ (m1 : Nat), mz = OL.length - m1 ∧ (m1 ≤ OL.length) ∧ Tm ac 146 [(14, .slice (some ⟨g4, 0, none⟩) 3 3), (15, .int .i64 1), (16, .slice A51 QL1.length c51), (24, .int .i64 (m1 : Int)), (117, .int .i64 ((blankT OL).2.1)), (118, .int .i64 ((blankT OL).2.1)), (119, .bool false), (122, .int .i64 ((blankT OL).2.2)), (123, .int .i64 ((blankT OL).2.2)), (124, .bool false)] ∧ Mem w noEx wc ((g4, .cells [.slice A L.length c, .slice A3 lo1.length c3, .slice (some ⟨go1, 0, none⟩) lo1.length cgo1]) :: (go1, .cells (jc lo1 ++ ysgo1)) :: (Ie ++ Io ++ Iq0 ++ Ip0 ++ Iq1 ++ Ip1))) ?_ ?_
                          · exact ⟨_, 0, rfl, (Nat.zero_le _), T.pick [7, 8, 9, 0, 6, 5, 4, 3, 2, 1] rfl, M.mask [true, true] rfl⟩
                          · clear T M
                            rintro mz ac wc ⟨m1, hmm5, hmk1, T, M⟩
                            refine wp_seq ?_
                            refine wp_seq ?_
                            refine wp_region_lit ?_
                            refine l_q T rfl rfl rfl rfl (rn_move rfl (T.ev 3 rfl)) ?_; clear T ac; intro ac T
                            refine l_q T rfl rfl rfl rfl (rn_move rfl (T.ev 3 rfl)) ?_; clear T ac; intro ac T
                            refine l_q T rfl rfl rfl rfl (rn_lenS rfl Try.underlying36 (T.ev 0 rfl)) ?_; clear T ac; intro ac T
                            refine l_q T rfl rfl rfl rfl (rn_lss rfl (T.ev 2 rfl) (T.ev 0 rfl)) ?_; clear T ac; intro ac T
                            refine wpList_nil ?_
                            replace T := T.pick [0, 4, 5, 6, 7, 8, 9, 10, 11, 12, 13] rfl
                            refine nm_then ?_
                            refine wp_if (T.ev 0 rfl) ?_ ?_
                            · intro h9
                              obtain ⟨jy1, Ay1, cy1, hky1, hdy1⟩ := jel (L := OL) (k := m1) (by omega)
                              obtain ⟨hfy1, by1, oy1, Sy1⟩ := hEO _ (List.mem_of_getElem? hky1)
                              replace hfy1 : jy1.sh.length ≤ 20 := hfy1
                              replace Sy1 : Sp w noEx Ie Ay1 jy1.sh.length 2 by1 oy1 (rc jy1.sh) := Sy1
                              obtain ⟨jw, Awy1, cwy1, hkwy1, hdwy1⟩ := jel (L := QL1) (k := m1) (by omega)
                              obtain rfl : jy1 = jw := by have h8 := congrArg (fun z : List Jb => z[m1]?) hQ1; simp only [List.getElem?_map, hkwy1, hky1, Option.map_some, Option.some.injEq] at h8; exact h8.symm
                              obtain ⟨hfw, bwy1, owy1, Sww⟩ := hQE1 _ (List.mem_of_getElem? hkwy1)
                              have Swy1 : Sp w noEx Iq1 Awy1 jy1.sh.length 2 bwy1 owy1 (rc jy1.sh) := Sww w noEx
                              refine wp_skip ?_
                              refine nm_then ?_
                              refine wp_seq ?_
                              refine wp_block ?_
                              refine wp_seq ?_
                              refine g_start2 M (M.mask [true, true] rfl) 13 (by kernel_rfl) rfl (by kernel_rfl) ?_
                              clear M; intro wc M
                              refine g_q (T := T) (i := 0) rfl (by kernel_rfl) (by kernel_rfl : (pbits 13 0).setIfInBounds 0 true = pbits 13 1) si_U (fun _ _ _ h => h) rfl rfl rfl rfl (fun _ _ _ _ _ => (rn_move rfl (T.ev 3 rfl))) ?_; clear T ac; intro ac T
                              refine g_q (T := T) (i := 1) rfl (by kernel_rfl) (by kernel_rfl : (pbits 13 1).setIfInBounds 1 true = pbits 13 3) si_U (fun _ _ _ h => h) rfl rfl rfl rfl (fun _ _ _ _ _ => (rn_move rfl (T.ev 5 rfl))) ?_; clear T ac; intro ac T
                              refine g_q (T := T) (i := 2) rfl (by kernel_rfl) (by kernel_rfl : (pbits 13 3).setIfInBounds 2 true = pbits 13 7) si_U (fun _ _ _ h => h) rfl rfl rfl rfl (fun _ _ _ _ _ => (rn_indexAddr (size := 18) m1 rfl (T.ev 1 rfl) (T.ev 0 rfl) ⟨_, Try.underlying36, by kernel_rfl⟩ rfl (by omega) (S51.at0 (by omega)))) ?_; clear T ac; intro ac T
                              refine g_q (v := (.agg #[.int .i64 jy1.p0, .int .i64 jy1.p1, .int .i64 jy1.t0, .int .i64 jy1.t1, .int .i64 jy1.r0, .int .i64 jy1.r1, .int .i64 jy1.u0, .int .i64 jy1.u1, .int .i64 jy1.d0, .int .i64 jy1.d1, .int .i64 jy1.a0, .int .i64 jy1.a1, .int .i64 jy1.b0, .int .i64 jy1.b1, .int .i64 jy1.le, .slice Awy1 jy1.sh.length cwy1, .int .i64 jy1.wi, .int .i64 jy1.me])) (T := T) (i := 3) rfl (by kernel_rfl) (by kernel_rfl : (pbits 13 7).setIfInBounds 3 true = pbits 13 15) si_U (fun _ _ _ h => h) rfl rfl rfl rfl (fun B w' hD hl hS => (rn_rowat (Sp.jcR S51 (show Mem w noEx w' _ from hS) (.cons _ (.cons _ (List.sublist_append_right _ _))) hkwy1) rfl (T.ev 0 rfl) rfl)) ?_; clear T ac; intro ac T
                              refine g_q (T := T) (i := 4) rfl (by kernel_rfl) (by kernel_rfl : (pbits 13 15).setIfInBounds 4 true = pbits 13 31) si_U (fun _ _ _ h => h) rfl rfl rfl rfl (fun _ _ _ _ _ => (rn_move rfl (T.ev 5 rfl))) ?_; clear T ac; intro ac T
                              refine g_q (T := T) (i := 5) rfl (by kernel_rfl) (by kernel_rfl : (pbits 13 31).setIfInBounds 5 true = pbits 13 63) si_U (fun _ _ _ h => h) rfl rfl rfl rfl (fun _ _ _ _ _ => (rn_move rfl (T.ev 7 rfl))) ?_; clear T ac; intro ac T
                              refine g_q (v := (.pointer (some ⟨g4, 1, none⟩))) (T := T) (i := 6) rfl (by kernel_rfl) (by kernel_rfl : (pbits 13 63).setIfInBounds 6 true = pbits 13 127) si_U (fun _ _ _ h => h) rfl rfl rfl rfl (fun _ _ _ _ _ => (rn_indexAddr (size := 1) 1 rfl (T.ev 1 rfl) (T.ev 0 rfl) ⟨_, Try.underlying75, by kernel_rfl⟩ rfl (by decide) rfl)) ?_; clear T ac; intro ac T
                              refine g_q (T := T) (i := 7) rfl (by kernel_rfl) (by kernel_rfl : (pbits 13 127).setIfInBounds 7 true = pbits 13 255) si_U (fun _ _ _ h => h) rfl rfl rfl rfl (fun B w' hD hl hS => (rn_one (Mem.nth (show Mem w noEx w' _ from hS) 0 rfl) rfl (T.ev 0 rfl) rfl)) ?_; clear T ac; intro ac T
                              refine g_q (T := T) (i := 8) rfl (by kernel_rfl) (by kernel_rfl : (pbits 13 255).setIfInBounds 8 true = pbits 13 511) si_U (fun _ _ _ h => h) rfl rfl rfl rfl (fun _ _ _ _ _ => (rn_move rfl (T.ev 12 rfl))) ?_; clear T ac; intro ac T
                              refine g_q (T := T) (i := 9) rfl (by kernel_rfl) (by kernel_rfl : (pbits 13 511).setIfInBounds 9 true = pbits 13 1023) si_U (fun _ _ _ h => h) rfl rfl rfl rfl (fun _ _ _ _ _ => (rn_indexAddr (size := 18) m1 rfl (T.ev 1 rfl) (T.ev 0 rfl) ⟨_, Try.underlying36, by kernel_rfl⟩ rfl (by omega) (S3.at0 (by omega)))) ?_; clear T ac; intro ac T
                              refine g_q (v := (.agg #[.int .i64 jy1.p0, .int .i64 jy1.p1, .int .i64 jy1.t0, .int .i64 jy1.t1, .int .i64 jy1.r0, .int .i64 jy1.r1, .int .i64 jy1.u0, .int .i64 jy1.u1, .int .i64 jy1.d0, .int .i64 jy1.d1, .int .i64 jy1.a0, .int .i64 jy1.a1, .int .i64 jy1.b0, .int .i64 jy1.b1, .int .i64 jy1.le, .slice Ay1 jy1.sh.length cy1, .int .i64 jy1.wi, .int .i64 jy1.me])) (T := T) (i := 10) rfl (by kernel_rfl) (by kernel_rfl : (pbits 13 1023).setIfInBounds 10 true = pbits 13 2047) si_U (fun _ _ _ h => h) rfl rfl rfl rfl (fun B w' hD hl hS => (rn_rowat (Sp.jcR S3 (show Mem w noEx w' _ from hS) (.cons _ (.cons _ (subL (subL (subL (subL (List.sublist_append_right _ _))))))) hky1) rfl (T.ev 0 rfl) rfl)) ?_; clear T ac; intro ac T
                              refine g_w (i := 11) (by kernel_rfl) rfl (by kernel_rfl : (pbits 13 2047).setIfInBounds 11 true = pbits 13 4095) rfl ?_; intro K hK
                              refine ow_call (first := []) (cap := []) T rfl rfl rfl rfl evf (.cons (T.ev 7 rfl) (.cons (T.ev 0 rfl) .nil)) Try.func22 rfl rfl ?_
                              refine Calls.mono (sameJobs_same jy1 _ _ _ _ _ (Swy1.rd M (.cons _ (.cons _ (subL (List.sublist_append_right _ _))))) (Sy1.rd M (.cons _ (.cons _ (subL (subL (subL (subL (subL (List.Sublist.refl _))))))))) (by omega)) ?_
                              clear T
                              rintro e wc ⟨rfl, hb⟩
                              intro ac T
                              replace M := M.call hb; clear hb
                              refine sh_out hK _ _ (M.mask [true, true] rfl) ?_; clear hK K
                              refine g_q (v := (.bool false)) (T := T) (i := 12) rfl (by kernel_rfl) (by kernel_rfl : (pbits 13 4095).setIfInBounds 12 true = pbits 13 8191) si_U (fun _ _ _ h => h) rfl rfl rfl rfl (fun _ _ _ _ _ => (rn_neqof (rn_not rfl (T.ev 0 rfl)) (by simp))) ?_; clear T ac; intro ac T
                              refine g_done (by kernel_rfl) ?_
                              replace T := T.pick [0, 14, 15, 16, 17, 18, 19, 20, 21, 22, 23] rfl
                              refine nm_then ?_
                              refine wp_cond_false (T.ev 0 rfl) ?_
                              refine wp_skip ?_
                              refine nm_blk ?_
                              refine nm_then ?_
                              refine wp_region_lit ?_
                              refine l_q T rfl rfl rfl rfl (rn_move rfl (T.ev 4 rfl)) ?_; clear T ac; intro ac T
                              refine l_q T rfl rfl rfl rfl (rn_add rfl (T.ev 0 rfl) evc (by omega)) ?_; clear T ac; intro ac T
                              refine l_q (v := (.int .i64 ((m1 : Int) + 1))) (T.pick [0, 1, 2, 3, 4, 5, 7, 8, 9, 10, 11, 12] rfl) rfl rfl rfl rfl (rn_assign rfl (T.ev 0 rfl)) ?_; clear T ac; intro ac T
                              refine wpList_nil ?_
                              replace T := T.pick [0, 4, 5, 6, 7, 8, 9, 10, 11, 12] rfl
                              refine nm_then ?_
                              exact ⟨_, by omega, m1 + 1, rfl, (by omega), T.pick [1, 2, 3, 0, 4, 5, 6, 7, 8, 9] rfl, M.mask [true, true] rfl⟩
                            · intro h9
                              refine wp_exit ?_
                              refine ex_then ?_
                              refine ex_then ?_
                              refine ex_hit ?_
                              refine nm_blk ?_
                              refine nm_then ?_
                              refine wp_region_lit ?_
                              refine l_q T rfl rfl rfl rfl (rn_move rfl (T.ev 2 rfl)) ?_; clear T ac; intro ac T
                              refine l_q (v := (.int .i64 2)) T rfl rfl rfl rfl (rn_ofI (rn_add rfl (T.ev 0 rfl) evc (by omega)) (by rfl)) ?_; clear T ac; intro ac T
                              refine l_q (v := (.int .i64 2)) (T.pick [0, 1, 2, 3, 5, 6, 7, 8, 9, 10, 11, 12] rfl) rfl rfl rfl rfl (rn_assign rfl (T.ev 0 rfl)) ?_; clear T ac; intro ac T
                              refine wpList_nil ?_
                              replace T := T.pick [0, 4, 7, 8, 9, 10, 11, 12] rfl
                              refine nm_then ?_
                              refine rounds_S ?_
                              refine wp_seq ?_
                              refine wp_seq ?_
                              refine wp_region_lit ?_
                              refine l_q T rfl rfl rfl rfl (rn_move rfl (T.ev 0 rfl)) ?_; clear T ac; intro ac T
                              refine l_q T rfl rfl rfl rfl (rn_move rfl (T.ev 2 rfl)) ?_; clear T ac; intro ac T
                              refine l_q (v := (.int .i64 3)) T rfl rfl rfl rfl (rn_lenS rfl Try.underlying75 (T.ev 0 rfl)) ?_; clear T ac; intro ac T
                              refine l_q (v := (.bool true)) T rfl rfl rfl rfl (rn_neqof (rn_lss rfl (T.ev 2 rfl) (T.ev 0 rfl)) (by simp)) ?_; clear T ac; intro ac T
                              refine wpList_nil ?_
                              replace T := T.pick [0, 4, 5, 6, 7, 8, 9, 10, 11] rfl
                              refine nm_then ?_
                              refine wp_cond_true (T.ev 0 rfl) ?_
                              refine wp_skip ?_
                              refine nm_then ?_
                              refine wp_seq ?_
                              refine wp_block ?_
                              refine wp_seq ?_
                              refine wp_region_lit ?_
                              refine l_q T rfl rfl rfl rfl (rn_assign rfl evc) ?_; clear T ac; intro ac T
                              refine wpList_nil ?_
                              replace T := T.pick [0, 2, 3, 4, 5, 6, 7, 8, 9] rfl
                              refine nm_then ?_
                              refine wp_seq ?_
                              refine wp_seq ?_
                              refine wp_region_lit ?_
                              refine l_q T rfl rfl rfl rfl (rn_assign rfl evc) ?_; clear T ac; intro ac T
                              refine wpList_nil ?_
                              refine nm_then ?_
                              refine wp_block ?_
                              have hEX : ∀ x ∈ lo1, x.1.sh.length ≤ 20 ∧ ∃ b o, Sp w noEx Ie x.2.1 x.1.sh.length 2 b o (rc x.1.sh) := fun x hx => by
                                rw [hlo1] at hx
                                rcases List.mem_or_eq_of_mem_set hx with h8 | rfl
                                · exact hEO x h8
                                · exact ⟨by show j.sh.length ≤ 20; omega, bJ, oJ, SJ.mono (List.nil_sublist _)⟩
                              refine wp_loop_n (fun mz ac wc => ∃ (k2 : Nat) (QL2 : List JE) (A52 : Option Addr) (c52 : Nat) (Iq2 Ip2 : List (Nat × BA)), mz = lo1.length - k2 ∧ (k2 ≤ lo1.length) ∧ (QL2.map (·.1) = (lo1.take k2).map (·.1)) ∧ (QL2.length = k2) ∧ (ElsJ QL2 Iq2) ∧ (Sl 30 18 (.slice A52 QL2.length c52) QL2.length (jc QL2) Ip2) ∧ Tm ac 146 [(14, .slice (some ⟨g4, 0, none⟩) 3 3), (15, .int .i64 2), (16, .slice A52 QL2.length c52), (17, .int .i64 (k2 : Int)), (117, .int .i64 ((blankT OL).2.1)), (118, .int .i64 ((blankT OL).2.1)), (119, .bool false), (122, .int .i64 ((blankT OL).2.2)), (123, .int .i64 ((blankT OL).2.2)), (124, .bool false)] ∧ Mem w noEx wc ((g4, .cells [.slice A L.length c, .slice A3 lo1.length c3, .slice (some ⟨go1, 0, none⟩) lo1.length cgo1]) :: (go1, .cells (jc lo1 ++ ysgo1)) :: (Ie ++ Io ++ Iq0 ++ Ip0 ++ Iq1 ++ Ip1 ++ Iq2 ++ Ip2))) ?_ ?_
                              · exact ⟨_, 0, [], none, 0, [], [], rfl, (Nat.zero_le _), rfl, rfl, (fun x hx => by cases hx), (Sl.nil _ _), T.pick [3, 2, 1, 0, 4, 5, 6, 7, 8, 9] rfl, (by simp only [List.append_nil]; exact M)⟩
                              · clear T M
                                rintro mz ac wc ⟨k2, QL2, A52, c52, Iq2, Ip2, hmm4, hk2, hQ2, hQl2, hQE2, hqs2, T, M⟩
                                refine wp_seq ?_
                                refine wp_seq ?_
                                refine wp_region_lit ?_
                                refine l_q T rfl rfl rfl rfl (rn_move rfl (T.ev 3 rfl)) ?_; clear T ac; intro ac T
                                refine l_q T rfl rfl rfl rfl (rn_move rfl (T.ev 1 rfl)) ?_; clear T ac; intro ac T
                                refine l_q T rfl rfl rfl rfl (rn_move rfl (T.ev 3 rfl)) ?_; clear T ac; intro ac T
                                refine l_q (v := (.pointer (some ⟨g4, 2, none⟩))) T rfl rfl rfl rfl (rn_indexAddr (size := 1) 2 rfl (T.ev 1 rfl) (T.ev 0 rfl) ⟨_, Try.underlying75, by kernel_rfl⟩ rfl (by decide) rfl) ?_; clear T ac; intro ac T
                                refine l_q T rfl rfl rfl rfl (rn_one (Mem.nth M 0 rfl) rfl (T.ev 0 rfl) rfl) ?_; clear T ac; intro ac T
                                refine l_q T rfl rfl rfl rfl (rn_lenS rfl Try.underlying36 (T.ev 0 rfl)) ?_; clear T ac; intro ac T
                                refine l_q T rfl rfl rfl rfl (rn_lss rfl (T.ev 5 rfl) (T.ev 0 rfl)) ?_; clear T ac; intro ac T
                                refine wpList_nil ?_
                                replace T := T.pick [0, 7, 8, 9, 10, 11, 12, 13, 14, 15, 16] rfl
                                refine nm_then ?_
                                refine wp_if (T.ev 0 rfl) ?_ ?_
                                · intro h10
                                  obtain ⟨jz2, Az2, cz2, hkz2, hdz2⟩ := jel (L := lo1) (k := k2) (by omega)
                                  obtain ⟨hfz2, bz2, oz2, Sz2⟩ := hEX _ (List.mem_of_getElem? hkz2)
                                  replace hfz2 : jz2.sh.length ≤ 20 := hfz2
                                  replace Sz2 : Sp w noEx Ie Az2 jz2.sh.length 2 bz2 oz2 (rc jz2.sh) := Sz2
                                  refine wp_skip ?_
                                  refine nm_then ?_
                                  refine wp_seq ?_
                                  refine wp_block ?_
                                  refine wp_region_lit ?_
                                  refine l_q T rfl rfl rfl rfl (rn_move rfl (T.ev 3 rfl)) ?_; clear T ac; intro ac T
                                  refine l_q T rfl rfl rfl rfl (rn_move rfl (T.ev 2 rfl)) ?_; clear T ac; intro ac T
                                  refine l_q T rfl rfl rfl rfl (rn_move rfl (T.ev 4 rfl)) ?_; clear T ac; intro ac T
                                  refine l_q (v := (.pointer (some ⟨g4, 2, none⟩))) T rfl rfl rfl rfl (rn_indexAddr (size := 1) 2 rfl (T.ev 1 rfl) (T.ev 0 rfl) ⟨_, Try.underlying75, by kernel_rfl⟩ rfl (by decide) rfl) ?_; clear T ac; intro ac T
                                  refine l_q T rfl rfl rfl rfl (rn_one (Mem.nth M 0 rfl) rfl (T.ev 0 rfl) rfl) ?_; clear T ac; intro ac T
                                  refine l_q T rfl rfl rfl rfl (rn_move rfl (T.ev 9 rfl)) ?_; clear T ac; intro ac T
                                  refine l_q T rfl rfl rfl rfl (rn_indexAddr (size := 18) k2 rfl (T.ev 1 rfl) (T.ev 0 rfl) ⟨_, Try.underlying36, by kernel_rfl⟩ rfl (by omega) (Ss1.at0 (by omega))) ?_; clear T ac; intro ac T
                                  refine l_q (v := (.agg #[.int .i64 jz2.p0, .int .i64 jz2.p1, .int .i64 jz2.t0, .int .i64 jz2.t1, .int .i64 jz2.r0, .int .i64 jz2.r1, .int .i64 jz2.u0, .int .i64 jz2.u1, .int .i64 jz2.d0, .int .i64 jz2.d1, .int .i64 jz2.a0, .int .i64 jz2.a1, .int .i64 jz2.b0, .int .i64 jz2.b1, .int .i64 jz2.le, .slice Az2 jz2.sh.length cz2, .int .i64 jz2.wi, .int .i64 jz2.me])) T rfl rfl rfl rfl (rn_rowat (Sp.jcR Ss1 M (.cons _ (List.Sublist.cons_cons _ (List.nil_sublist _))) hkz2) rfl (T.ev 0 rfl) rfl) ?_; clear T ac; intro ac T
                                  refine l_w rfl ?_; intro K hK
                                  refine ow_call (first := []) (cap := []) T rfl rfl rfl rfl evf (.cons (T.ev 0 rfl) .nil) Try.func18 rfl rfl ?_
                                  refine Calls.mono (copyJob_own jz2 _ _ _ (Sz2.rd M (.cons _ (.cons _ (subL (subL (subL (subL (subL (subL (subL (List.Sublist.refl _))))))))))) (by first | omega | (dsimp only [Jb.one]; omega))) ?_
                                  clear T
                                  rintro e wc ⟨Au18, cu18, Iu18, rfl, hsnu18, N⟩
                                  intro ac T
                                  obtain ⟨bu18, ou18, hqu18⟩ := hsnu18.spJ (rc_length _)
                                  have Su18 := hqu18 w noEx
                                  replace M := (M.join N).swapI
                                  replace M : Mem w noEx wc ((g4, .cells [.slice A L.length c, .slice A3 lo1.length c3, .slice (some ⟨go1, 0, none⟩) lo1.length cgo1]) :: (go1, .cells (jc lo1 ++ ysgo1)) :: (Ie ++ Io ++ Iq0 ++ Ip0 ++ Iq1 ++ Ip1 ++ Iq2 ++ Ip2 ++ Iu18)) := M
                                  clear N
                                  replace M : Mem w noEx wc ((g4, .cells [.slice A L.length c, .slice A3 lo1.length c3, .slice (some ⟨go1, 0, none⟩) lo1.length cgo1]) :: (go1, .cells (jc lo1 ++ ysgo1)) :: (Ie ++ Io ++ Iq0 ++ Ip0 ++ Iq1 ++ Ip1 ++ Iq2 ++ Iu18 ++ Ip2)) := Mem.swapT [(g4, .cells [.slice A L.length c, .slice A3 lo1.length c3, .slice (some ⟨go1, 0, none⟩) lo1.length cgo1]), (go1, .cells (jc lo1 ++ ysgo1))] (Ie ++ Io ++ Iq0 ++ Ip0 ++ Iq1 ++ Ip1 ++ Iq2) Ip2 Iu18 M
                                  refine sh_out hK _ _ ?_; clear hK K
                                  refine l_w rfl ?_; intro K hK
                                  refine ow_bs (e := 30) [.int .i64 jz2.p0, .int .i64 jz2.p1, .int .i64 jz2.t0, .int .i64 jz2.t1, .int .i64 jz2.r0, .int .i64 jz2.r1, .int .i64 jz2.u0, .int .i64 jz2.u1, .int .i64 jz2.d0, .int .i64 jz2.d1, .int .i64 jz2.a0, .int .i64 jz2.a1, .int .i64 jz2.b0, .int .i64 jz2.b1, .int .i64 jz2.le, .slice Au18 jz2.sh.length cu18, .int .i64 jz2.wi, .int .i64 jz2.me] M T rfl rfl rfl rfl (.cons (T.ev 0 rfl) .nil) (fun _ => by kernel_rfl) ?_; clear M T; intro g7 wc ac M T
                                  refine sh_out hK _ _ ?_; clear hK K
                                  refine l_w rfl ?_; intro K hK
                                  refine ow_app (((g7, .cells (jobL jz2 Au18 cu18)) :: (g4, .cells [.slice A L.length c, .slice A3 lo1.length c3, .slice (some ⟨go1, 0, none⟩) lo1.length cgo1]) :: (go1, .cells (jc lo1 ++ ysgo1)) :: (Ie ++ Io ++ Iq0 ++ Ip0 ++ Iq1 ++ Ip1 ++ Iq2 ++ Iu18))) Try.info30 hqs2 M (by first | rfl | simp) T rfl rfl rfl rfl Try.underlying36 rfl rfl rfl (by omega) (T.ev 9 rfl) (T.ev 0 rfl) (nthE_mem (i := 0) rfl) rfl rfl ?_; clear M T; intro ga4 cga4 wc ac M T
                                  refine sh_out hK _ _ ?_; clear hK K
                                  refine l_q (v := (.slice (some ⟨ga4, 0, none⟩) (QL2.length + 1) cga4)) (T.pick [0, 1, 2, 3, 4, 5, 6, 7, 8, 9, 10, 11, 12, 13, 15, 16, 17, 18, 19, 20, 21] rfl) rfl rfl rfl rfl (rn_assign rfl (T.ev 0 rfl)) ?_; clear T ac; intro ac T
                                  refine wpList_nil ?_
                                  replace T := T.pick [0, 13, 14, 15, 16, 17, 18, 19, 20, 21] rfl
                                  replace M := M.mask [true, false, true, true] rfl
                                  refine nm_blk ?_
                                  refine nm_then ?_
                                  refine wp_region_lit ?_
                                  refine l_q T rfl rfl rfl rfl (rn_move rfl (T.ev 3 rfl)) ?_; clear T ac; intro ac T
                                  refine l_q T rfl rfl rfl rfl (rn_add rfl (T.ev 0 rfl) evc (by omega)) ?_; clear T ac; intro ac T
                                  refine l_q (v := (.int .i64 ((k2 : Int) + 1))) (T.pick [0, 1, 2, 3, 4, 6, 7, 8, 9, 10, 11] rfl) rfl rfl rfl rfl (rn_assign rfl (T.ev 0 rfl)) ?_; clear T ac; intro ac T
                                  refine wpList_nil ?_
                                  replace T := T.pick [0, 3, 4, 5, 6, 7, 8, 9, 10, 11] rfl
                                  refine nm_then ?_
                                  have e9 : QL2.length + 1 = (QL2 ++ [(jz2, (Au18 : Option Addr), cu18)]).length := by simp
                                  replace M : Mem w noEx wc ((ga4, .row 30 18 (QL2 ++ [(jz2, (Au18 : Option Addr), cu18)]).length (jc (QL2 ++ [(jz2, (Au18 : Option Addr), cu18)])) cga4) :: (g4, .cells [.slice A L.length c, .slice A3 lo1.length c3, .slice (some ⟨go1, 0, none⟩) lo1.length cgo1]) :: (go1, .cells (jc lo1 ++ ysgo1)) :: (Ie ++ Io ++ Iq0 ++ Ip0 ++ Iq1 ++ Ip1 ++ Iq2 ++ Iu18)) := by rw [← e9, ← jc_snoc]; exact M
                                  rw [e9] at T
                                  clear e9
                                  exact ⟨_, by omega, k2 + 1, (QL2 ++ [(jz2, (Au18 : Option Addr), cu18)]), _, cga4, (Iq2 ++ Iu18), [(ga4, .row 30 18 (QL2 ++ [(jz2, (Au18 : Option Addr), cu18)]).length (jc (QL2 ++ [(jz2, (Au18 : Option Addr), cu18)])) cga4)], rfl, (by omega), (by rw [List.map_append, hQ2, List.take_succ_eq_append_getElem (List.getElem?_eq_some_iff.1 hkz2).1, (List.getElem?_eq_some_iff.1 hkz2).2, List.map_append]; rfl), (by simp only [List.length_append, List.length_cons, List.length_nil]; omega), (hQE2.snoc hfz2 hqu18), (Sl.row _ _ _ _ _ _), T.pick [2, 3, 1, 0, 4, 5, 6, 7, 8, 9] rfl, (by rw [← List.append_assoc (Ie ++ Io ++ Iq0 ++ Ip0 ++ Iq1 ++ Ip1)]; exact Mem.swapI (I := [(ga4, .row 30 18 (QL2 ++ [(jz2, (Au18 : Option Addr), cu18)]).length (jc (QL2 ++ [(jz2, (Au18 : Option Addr), cu18)])) cga4)]) (L := ((g4, .cells [.slice A L.length c, .slice A3 lo1.length c3, .slice (some ⟨go1, 0, none⟩) lo1.length cgo1]) :: (go1, .cells (jc lo1 ++ ysgo1)) :: (Ie ++ Io ++ Iq0 ++ Ip0 ++ Iq1 ++ Ip1 ++ Iq2 ++ Iu18))) (M.permT [0, 1, 2] 3 rfl rfl rfl rfl))⟩
                                · intro h10
                                  obtain ⟨b52, o52, hS52⟩ := hqs2.spJ (jc_length _)
                                  have S52 := hS52 w noEx
                                  rw [List.take_of_length_le (by omega)] at hQ2
                                  have hQn2 : QL2.length = lo1.length := by omega
                                  refine wp_exit ?_
                                  refine ex_then ?_
                                  refine ex_then ?_
                                  refine ex_hit ?_
                                  refine nm_then ?_
                                  refine wp_seq ?_
                                  refine wp_region_lit ?_
                                  refine l_q T rfl rfl rfl rfl (rn_move rfl (T.ev 3 rfl)) ?_; clear T ac; intro ac T
                                  refine l_w rfl ?_; intro K hK
                                  refine ow_call (first := []) (cap := []) T rfl rfl rfl rfl evf (.cons (T.ev 0 rfl) .nil) Try.func58 rfl rfl ?_
                                  refine Calls.mono (Blank_as _ _ QL2 lo1 _ (S52.rd M (.cons _ (.cons _ (List.sublist_append_right _ _)))) (fun x hx => by obtain ⟨h1, b, o, h2⟩ := hQE2 x hx; exact ⟨(h2 w noEx).rd M (.cons _ (.cons _ (subL (List.sublist_append_right _ _)))), by omega⟩) (by omega) hQ2) ?_
                                  clear T
                                  rintro e wc ⟨rfl, hb⟩
                                  intro ac T
                                  replace M := M.call hb; clear hb
                                  refine sh_out hK _ _ ?_; clear hK K
                                  refine l_q T rfl rfl rfl rfl (rn_move rfl (T.ev 0 rfl)) ?_; clear T ac; intro ac T
                                  refine l_q T rfl rfl rfl rfl (rn_extract rfl (T.ev 0 rfl) rfl) ?_; clear T ac; intro ac T
                                  refine l_q T rfl rfl rfl rfl (rn_extract rfl (T.ev 1 rfl) rfl) ?_; clear T ac; intro ac T
                                  refine l_q T rfl rfl rfl rfl (rn_extract rfl (T.ev 2 rfl) rfl) ?_; clear T ac; intro ac T
                                  refine l_q T rfl rfl rfl rfl (rn_assign rfl (T.ev 2 rfl)) ?_; clear T ac; intro ac T
                                  refine l_q T rfl rfl rfl rfl (rn_assign rfl (T.ev 2 rfl)) ?_; clear T ac; intro ac T
                                  refine l_q T rfl rfl rfl rfl (rn_assign rfl (T.ev 2 rfl)) ?_; clear T ac; intro ac T
                                  refine wpList_nil ?_
                                  replace T := T.pick [0, 1, 2, 10, 11, 12, 14, 15, 16, 17, 18, 19] rfl
                                  refine nm_then ?_
                                  refine wp_seq ?_
                                  refine wp_region_lit ?_
                                  refine l_q T rfl rfl rfl rfl (rn_move rfl (T.ev 3 rfl)) ?_; clear T ac; intro ac T
                                  refine l_q T rfl rfl rfl rfl (rn_move rfl (T.ev 5 rfl)) ?_; clear T ac; intro ac T
                                  refine l_q (v := (.pointer (some ⟨g4, 2, none⟩))) T rfl rfl rfl rfl (rn_indexAddr (size := 1) 2 rfl (T.ev 1 rfl) (T.ev 0 rfl) ⟨_, Try.underlying75, by kernel_rfl⟩ rfl (by decide) rfl) ?_; clear T ac; intro ac T
                                  refine l_q T rfl rfl rfl rfl (rn_one (Mem.nth M 0 rfl) rfl (T.ev 0 rfl) rfl) ?_; clear T ac; intro ac T
                                  refine l_w rfl ?_; intro K hK
                                  refine ow_call (first := []) (cap := []) T rfl rfl rfl rfl evf (.cons (T.ev 0 rfl) .nil) Try.func59 rfl rfl ?_
                                  refine Calls.mono (rBlank_any _ cgo1 lo1 _ (Ss1.rd M (.cons _ (List.Sublist.cons_cons _ (List.nil_sublist _)))) (fun x hx => by obtain ⟨h1, b, o, h2⟩ := hEX x hx; exact ⟨h2.rd M (.cons _ (.cons _ (subL (subL (subL (subL (subL (subL (subL (List.Sublist.refl _)))))))))), by omega⟩) (by omega)) ?_
                                  clear T
                                  rintro e wc ⟨rfl, hb⟩
                                  intro ac T
                                  replace M := M.call hb; clear hb
                                  refine sh_out hK _ _ ?_; clear hK K
                                  refine l_q T rfl rfl rfl rfl (rn_move rfl (T.ev 0 rfl)) ?_; clear T ac; intro ac T
                                  refine l_q T rfl rfl rfl rfl (rn_extract rfl (T.ev 0 rfl) rfl) ?_; clear T ac; intro ac T
                                  refine l_q T rfl rfl rfl rfl (rn_extract rfl (T.ev 1 rfl) rfl) ?_; clear T ac; intro ac T
                                  refine l_q T rfl rfl rfl rfl (rn_extract rfl (T.ev 2 rfl) rfl) ?_; clear T ac; intro ac T
                                  refine l_q T rfl rfl rfl rfl (rn_assign rfl (T.ev 2 rfl)) ?_; clear T ac; intro ac T
                                  refine l_q T rfl rfl rfl rfl (rn_assign rfl (T.ev 2 rfl)) ?_; clear T ac; intro ac T
                                  refine l_q T rfl rfl rfl rfl (rn_assign rfl (T.ev 2 rfl)) ?_; clear T ac; intro ac T
                                  refine wpList_nil ?_
                                  replace T := T.pick [0, 1, 2, 12, 13, 14, 15, 16, 17, 18, 19, 20, 21, 22, 23] rfl
                                  refine nm_then ?_
                                  refine wp_seq ?_
                                  refine wp_seq ?_
                                  refine wp_region_lit ?_
                                  refine l_q T rfl rfl rfl rfl (rn_move rfl (T.ev 5 rfl)) ?_; clear T ac; intro ac T
                                  refine l_q T rfl rfl rfl rfl (rn_move rfl (T.ev 3 rfl)) ?_; clear T ac; intro ac T
                                  refine l_q (v := (.bool false)) T rfl rfl rfl rfl (rn_neqof (rn_neq rfl (T.ev 1 rfl) (T.ev 0 rfl)) (by simp)) ?_; clear T ac; intro ac T
                                  refine l_q T rfl rfl rfl rfl (rn_move rfl (T.ev 0 rfl)) ?_; clear T ac; intro ac T
                                  refine l_q (v := (.int .i64 ((blankT lo1).2.1))) (T.pick [0, 1, 2, 3, 4, 5, 6, 7, 8, 9, 10, 11, 12, 14, 15, 16, 17, 18] rfl) (wanted_yes rfl rfl (T.ev 0 rfl) rfl) rfl rfl rfl (rn_move rfl (T.ev 8 rfl)) ?_; clear T ac; intro ac T
                                  refine l_q (v := (.int .i64 ((blankT lo1).2.1))) (T.pick [0, 1, 2, 3, 4, 5, 6, 7, 8, 9, 10, 11, 12, 13, 15, 16, 17, 18] rfl) (wanted_yes rfl rfl (T.ev 1 rfl) rfl) rfl rfl rfl (rn_move rfl (T.ev 6 rfl)) ?_; clear T ac; intro ac T
                                  refine l_q (v := (.bool false)) (T.pick [0, 1, 2, 3, 4, 5, 6, 7, 8, 9, 10, 11, 12, 13, 14, 16, 17, 18] rfl) (wanted_yes rfl rfl (T.ev 2 rfl) rfl) rfl rfl rfl (rn_neqof (rn_neq rfl (T.ev 1 rfl) (T.ev 0 rfl)) (by simp)) ?_; clear T ac; intro ac T
                                  refine l_q T rfl rfl rfl rfl (rn_pick0 rfl (T.ev 3 rfl) rfl (T.ev 0 rfl)) ?_; clear T ac; intro ac T
                                  refine l_q T rfl rfl rfl rfl (rn_move rfl (T.ev 0 rfl)) ?_; clear T ac; intro ac T
                                  refine l_q (v := (.int .i64 ((blankT lo1).2.2))) (T.pick [0, 1, 2, 3, 4, 5, 6, 7, 8, 9, 10, 11, 12, 13, 14, 15, 16, 17, 19, 20] rfl) (wanted_yes rfl rfl (T.ev 0 rfl) rfl) rfl rfl rfl (rn_move rfl (T.ev 12 rfl)) ?_; clear T ac; intro ac T
                                  refine l_q (v := (.int .i64 ((blankT lo1).2.2))) (T.pick [0, 1, 2, 3, 4, 5, 6, 7, 8, 9, 10, 11, 12, 13, 14, 15, 16, 17, 18, 20] rfl) (wanted_yes rfl rfl (T.ev 1 rfl) rfl) rfl rfl rfl (rn_move rfl (T.ev 10 rfl)) ?_; clear T ac; intro ac T
                                  refine l_q (v := (.bool false)) (T.pick [0, 1, 2, 3, 4, 5, 6, 7, 8, 9, 10, 11, 12, 13, 14, 15, 16, 17, 18, 19] rfl) (wanted_yes rfl rfl (T.ev 2 rfl) rfl) rfl rfl rfl (rn_neqof (rn_neq rfl (T.ev 1 rfl) (T.ev 0 rfl)) (by simp)) ?_; clear T ac; intro ac T
                                  refine l_q T rfl rfl rfl rfl (rn_pick0 rfl (T.ev 3 rfl) rfl (T.ev 0 rfl)) ?_; clear T ac; intro ac T
                                  refine wpList_nil ?_
                                  replace T := T.pick [0, 1, 2, 3, 6, 7, 8, 19, 20, 21] rfl
                                  refine nm_then ?_
                                  refine wp_cond_false (T.ev 0 rfl) ?_
                                  refine wp_skip ?_
                                  refine nm_then ?_
                                  refine wp_seq ?_
                                  refine wp_region_lit ?_
                                  refine l_q T rfl rfl rfl rfl (rn_assign rfl evc) ?_; clear T ac; intro ac T
                                  refine wpList_nil ?_
                                  replace T := T.pick [0, 2, 3, 4, 5, 6, 7, 8, 9, 10] rfl
                                  refine nm_then ?_
                                  refine wp_block ?_
                                  refine wp_loop_n (fun mz ac wc => ∃ (m2 : Nat), mz = lo1.length - m2 ∧ (m2 ≤ lo1.length) ∧ Tm ac 146 [(14, .slice (some ⟨g4, 0, none⟩) 3 3), (15, .int .i64 2), (16, .slice A52 QL2.length c52), (24, .int .i64 (m2 : Int)), (117, .int .i64 ((blankT lo1).2.1)), (118, .int .i64 ((blankT lo1).2.1)), (119, .bool false), (122, .int .i64 ((blankT lo1).2.2)), (123, .int .i64 ((blankT lo1).2.2)), (124, .bool false)] ∧ Mem w noEx wc ((g4, .cells [.slice A L.length c, .slice A3 lo1.length c3, .slice (some ⟨go1, 0, none⟩) lo1.length cgo1]) :: (go1, .cells (jc lo1 ++ ysgo1)) :: (Ie ++ Io ++ Iq0 ++ Ip0 ++ Iq1 ++ Ip1 ++ Iq2 ++ Ip2))) ?_ ?_
                                  · exact ⟨_, 0, rfl, (Nat.zero_le _), T.pick [7, 8, 9, 0, 6, 5, 4, 3, 2, 1] rfl, M.mask [true, true] rfl⟩
                                  · clear T M
                                    rintro mz ac wc ⟨m2, hmm5, hmk2, T, M⟩
                                    refine wp_seq ?_
                                    refine wp_seq ?_
                                    refine wp_region_lit ?_
                                    refine l_q T rfl rfl rfl rfl (rn_move rfl (T.ev 3 rfl)) ?_; clear T ac; intro ac T
                                    refine l_q T rfl rfl rfl rfl (rn_move rfl (T.ev 3 rfl)) ?_; clear T ac; intro ac T
                                    refine l_q T rfl rfl rfl rfl (rn_lenS rfl Try.underlying36 (T.ev 0 rfl)) ?_; clear T ac; intro ac T
                                    refine l_q T rfl rfl rfl rfl (rn_lss rfl (T.ev 2 rfl) (T.ev 0 rfl)) ?_; clear T ac; intro ac T
                                    refine wpList_nil ?_
                                    replace T := T.pick [0, 4, 5, 6, 7, 8, 9, 10, 11, 12, 13] rfl
                                    refine nm_then ?_
                                    refine wp_if (T.ev 0 rfl) ?_ ?_
                                    · intro h11
                                      obtain ⟨jy2, Ay2, cy2, hky2, hdy2⟩ := jel (L := lo1) (k := m2) (by omega)
                                      obtain ⟨hfy2, by2, oy2, Sy2⟩ := hEX _ (List.mem_of_getElem? hky2)
                                      replace hfy2 : jy2.sh.length ≤ 20 := hfy2
                                      replace Sy2 : Sp w noEx Ie Ay2 jy2.sh.length 2 by2 oy2 (rc jy2.sh) := Sy2
                                      obtain ⟨jw, Awy2, cwy2, hkwy2, hdwy2⟩ := jel (L := QL2) (k := m2) (by omega)
                                      obtain rfl : jy2 = jw := by have h8 := congrArg (fun z : List Jb => z[m2]?) hQ2; simp only [List.getElem?_map, hkwy2, hky2, Option.map_some, Option.some.injEq] at h8; exact h8.symm
                                      obtain ⟨hfw, bwy2, owy2, Sww⟩ := hQE2 _ (List.mem_of_getElem? hkwy2)
                                      have Swy2 : Sp w noEx Iq2 Awy2 jy2.sh.length 2 bwy2 owy2 (rc jy2.sh) := Sww w noEx
                                      refine wp_skip ?_
                                      refine nm_then ?_
                                      refine wp_seq ?_
                                      refine wp_block ?_
                                      refine wp_seq ?_
                                      refine g_start2 M (M.mask [true, true] rfl) 13 (by kernel_rfl) rfl (by kernel_rfl) ?_
                                      clear M; intro wc M
                                      refine g_q (T := T) (i := 0) rfl (by kernel_rfl) (by kernel_rfl : (pbits 13 0).setIfInBounds 0 true = pbits 13 1) si_U (fun _ _ _ h => h) rfl rfl rfl rfl (fun _ _ _ _ _ => (rn_move rfl (T.ev 3 rfl))) ?_; clear T ac; intro ac T
                                      refine g_q (T := T) (i := 1) rfl (by kernel_rfl) (by kernel_rfl : (pbits 13 1).setIfInBounds 1 true = pbits 13 3) si_U (fun _ _ _ h => h) rfl rfl rfl rfl (fun _ _ _ _ _ => (rn_move rfl (T.ev 5 rfl))) ?_; clear T ac; intro ac T
                                      refine g_q (T := T) (i := 2) rfl (by kernel_rfl) (by kernel_rfl : (pbits 13 3).setIfInBounds 2 true = pbits 13 7) si_U (fun _ _ _ h => h) rfl rfl rfl rfl (fun _ _ _ _ _ => (rn_indexAddr (size := 18) m2 rfl (T.ev 1 rfl) (T.ev 0 rfl) ⟨_, Try.underlying36, by kernel_rfl⟩ rfl (by omega) (S52.at0 (by omega)))) ?_; clear T ac; intro ac T
                                      refine g_q (v := (.agg #[.int .i64 jy2.p0, .int .i64 jy2.p1, .int .i64 jy2.t0, .int .i64 jy2.t1, .int .i64 jy2.r0, .int .i64 jy2.r1, .int .i64 jy2.u0, .int .i64 jy2.u1, .int .i64 jy2.d0, .int .i64 jy2.d1, .int .i64 jy2.a0, .int .i64 jy2.a1, .int .i64 jy2.b0, .int .i64 jy2.b1, .int .i64 jy2.le, .slice Awy2 jy2.sh.length cwy2, .int .i64 jy2.wi, .int .i64 jy2.me])) (T := T) (i := 3) rfl (by kernel_rfl) (by kernel_rfl : (pbits 13 7).setIfInBounds 3 true = pbits 13 15) si_U (fun _ _ _ h => h) rfl rfl rfl rfl (fun B w' hD hl hS => (rn_rowat (Sp.jcR S52 (show Mem w noEx w' _ from hS) (.cons _ (.cons _ (List.sublist_append_right _ _))) hkwy2) rfl (T.ev 0 rfl) rfl)) ?_; clear T ac; intro ac T
                                      refine g_q (T := T) (i := 4) rfl (by kernel_rfl) (by kernel_rfl : (pbits 13 15).setIfInBounds 4 true = pbits 13 31) si_U (fun _ _ _ h => h) rfl rfl rfl rfl (fun _ _ _ _ _ => (rn_move rfl (T.ev 5 rfl))) ?_; clear T ac; intro ac T
                                      refine g_q (T := T) (i := 5) rfl (by kernel_rfl) (by kernel_rfl : (pbits 13 31).setIfInBounds 5 true = pbits 13 63) si_U (fun _ _ _ h => h) rfl rfl rfl rfl (fun _ _ _ _ _ => (rn_move rfl (T.ev 7 rfl))) ?_; clear T ac; intro ac T
                                      refine g_q (v := (.pointer (some ⟨g4, 2, none⟩))) (T := T) (i := 6) rfl (by kernel_rfl) (by kernel_rfl : (pbits 13 63).setIfInBounds 6 true = pbits 13 127) si_U (fun _ _ _ h => h) rfl rfl rfl rfl (fun _ _ _ _ _ => (rn_indexAddr (size := 1) 2 rfl (T.ev 1 rfl) (T.ev 0 rfl) ⟨_, Try.underlying75, by kernel_rfl⟩ rfl (by decide) rfl)) ?_; clear T ac; intro ac T
                                      refine g_q (T := T) (i := 7) rfl (by kernel_rfl) (by kernel_rfl : (pbits 13 127).setIfInBounds 7 true = pbits 13 255) si_U (fun _ _ _ h => h) rfl rfl rfl rfl (fun B w' hD hl hS => (rn_one (Mem.nth (show Mem w noEx w' _ from hS) 0 rfl) rfl (T.ev 0 rfl) rfl)) ?_; clear T ac; intro ac T
                                      refine g_q (T := T) (i := 8) rfl (by kernel_rfl) (by kernel_rfl : (pbits 13 255).setIfInBounds 8 true = pbits 13 511) si_U (fun _ _ _ h => h) rfl rfl rfl rfl (fun _ _ _ _ _ => (rn_move rfl (T.ev 12 rfl))) ?_; clear T ac; intro ac T
                                      refine g_q (T := T) (i := 9) rfl (by kernel_rfl) (by kernel_rfl : (pbits 13 511).setIfInBounds 9 true = pbits 13 1023) si_U (fun _ _ _ h => h) rfl rfl rfl rfl (fun _ _ _ _ _ => (rn_indexAddr (size := 18) m2 rfl (T.ev 1 rfl) (T.ev 0 rfl) ⟨_, Try.underlying36, by kernel_rfl⟩ rfl (by omega) (Ss1.at0 (by omega)))) ?_; clear T ac; intro ac T
                                      refine g_q (v := (.agg #[.int .i64 jy2.p0, .int .i64 jy2.p1, .int .i64 jy2.t0, .int .i64 jy2.t1, .int .i64 jy2.r0, .int .i64 jy2.r1, .int .i64 jy2.u0, .int .i64 jy2.u1, .int .i64 jy2.d0, .int .i64 jy2.d1, .int .i64 jy2.a0, .int .i64 jy2.a1, .int .i64 jy2.b0, .int .i64 jy2.b1, .int .i64 jy2.le, .slice Ay2 jy2.sh.length cy2, .int .i64 jy2.wi, .int .i64 jy2.me])) (T := T) (i := 10) rfl (by kernel_rfl) (by kernel_rfl : (pbits 13 1023).setIfInBounds 10 true = pbits 13 2047) si_U (fun _ _ _ h => h) rfl rfl rfl rfl (fun B w' hD hl hS => (rn_rowat (Sp.jcR Ss1 (show Mem w noEx w' _ from hS) (.cons _ (List.Sublist.cons_cons _ (List.nil_sublist _))) hky2) rfl (T.ev 0 rfl) rfl)) ?_; clear T ac; intro ac T
                                      refine g_w (i := 11) (by kernel_rfl) rfl (by kernel_rfl : (pbits 13 2047).setIfInBounds 11 true = pbits 13 4095) rfl ?_; intro K hK
                                      refine ow_call (first := []) (cap := []) T rfl rfl rfl rfl evf (.cons (T.ev 7 rfl) (.cons (T.ev 0 rfl) .nil)) Try.func22 rfl rfl ?_
                                      refine Calls.mono (sameJobs_same jy2 _ _ _ _ _ (Swy2.rd M (.cons _ (.cons _ (subL (List.sublist_append_right _ _))))) (Sy2.rd M (.cons _ (.cons _ (subL (subL (subL (subL (subL (subL (subL (List.Sublist.refl _))))))))))) (by omega)) ?_
                                      clear T
                                      rintro e wc ⟨rfl, hb⟩
                                      intro ac T
                                      replace M := M.call hb; clear hb
                                      refine sh_out hK _ _ (M.mask [true, true] rfl) ?_; clear hK K
                                      refine g_q (v := (.bool false)) (T := T) (i := 12) rfl (by kernel_rfl) (by kernel_rfl : (pbits 13 4095).setIfInBounds 12 true = pbits 13 8191) si_U (fun _ _ _ h => h) rfl rfl rfl rfl (fun _ _ _ _ _ => (rn_neqof (rn_not rfl (T.ev 0 rfl)) (by simp))) ?_; clear T ac; intro ac T
                                      refine g_done (by kernel_rfl) ?_
                                      replace T := T.pick [0, 14, 15, 16, 17, 18, 19, 20, 21, 22, 23] rfl
                                      refine nm_then ?_
                                      refine wp_cond_false (T.ev 0 rfl) ?_
                                      refine wp_skip ?_
                                      refine nm_blk ?_
                                      refine nm_then ?_
                                      refine wp_region_lit ?_
                                      refine l_q T rfl rfl rfl rfl (rn_move rfl (T.ev 4 rfl)) ?_; clear T ac; intro ac T
                                      refine l_q T rfl rfl rfl rfl (rn_add rfl (T.ev 0 rfl) evc (by omega)) ?_; clear T ac; intro ac T
                                      refine l_q (v := (.int .i64 ((m2 : Int) + 1))) (T.pick [0, 1, 2, 3, 4, 5, 7, 8, 9, 10, 11, 12] rfl) rfl rfl rfl rfl (rn_assign rfl (T.ev 0 rfl)) ?_; clear T ac; intro ac T
                                      refine wpList_nil ?_
                                      replace T := T.pick [0, 4, 5, 6, 7, 8, 9, 10, 11, 12] rfl
                                      refine nm_then ?_
                                      exact ⟨_, by omega, m2 + 1, rfl, (by omega), T.pick [1, 2, 3, 0, 4, 5, 6, 7, 8, 9] rfl, M.mask [true, true] rfl⟩
                                    · intro h11
                                      refine wp_exit ?_
                                      refine ex_then ?_
                                      refine ex_then ?_
                                      refine ex_hit ?_
                                      refine nm_blk ?_
                                      refine nm_then ?_
                                      refine wp_region_lit ?_
                                      refine l_q T rfl rfl rfl rfl (rn_move rfl (T.ev 2 rfl)) ?_; clear T ac; intro ac T
                                      refine l_q (v := (.int .i64 3)) T rfl rfl rfl rfl (rn_ofI (rn_add rfl (T.ev 0 rfl) evc (by omega)) (by rfl)) ?_; clear T ac; intro ac T
                                      refine l_q (v := (.int .i64 3)) (T.pick [0, 1, 2, 3, 5, 6, 7, 8, 9, 10, 11, 12] rfl) rfl rfl rfl rfl (rn_assign rfl (T.ev 0 rfl)) ?_; clear T ac; intro ac T
                                      refine wpList_nil ?_
                                      replace T := T.pick [0, 4, 7, 8, 9, 10, 11, 12] rfl
                                      refine nm_then ?_
                                      refine rounds_S ?_
                                      refine wp_seq ?_
                                      refine wp_seq ?_
                                      refine wp_region_lit ?_
                                      refine l_q T rfl rfl rfl rfl (rn_move rfl (T.ev 0 rfl)) ?_; clear T ac; intro ac T
                                      refine l_q T rfl rfl rfl rfl (rn_move rfl (T.ev 2 rfl)) ?_; clear T ac; intro ac T
                                      refine l_q (v := (.int .i64 3)) T rfl rfl rfl rfl (rn_lenS rfl Try.underlying75 (T.ev 0 rfl)) ?_; clear T ac; intro ac T
                                      refine l_q (v := (.bool false)) T rfl rfl rfl rfl (rn_neqof (rn_lss rfl (T.ev 2 rfl) (T.ev 0 rfl)) (by simp)) ?_; clear T ac; intro ac T
                                      refine wpList_nil ?_
                                      replace T := T.pick [0, 4, 5, 6, 7, 8, 9, 10, 11] rfl
                                      refine nm_then ?_
                                      refine wp_cond_false (T.ev 0 rfl) ?_
                                      refine wp_exit ?_
                                      refine ex_then ?_
                                      refine ex_then ?_
                                      refine ex_hit ?_
                                      refine nm_then ?_
                                      refine wp_seq ?_
                                      refine wp_region_lit ?_
                                      refine l_w rfl ?_; intro K hK
                                      refine ow_call (first := []) (cap := []) T rfl rfl rfl rfl evf .nil Try.func15 rfl rfl ?_
                                      refine Calls.mono (tuned_any _) ?_
                                      clear T
                                      rintro e wc ⟨rfl, hb⟩
                                      intro ac T
                                      replace M := M.call hb; clear hb
                                      refine sh_out hK _ _ ?_; clear hK K
                                      refine l_q T rfl rfl rfl rfl (rn_assign rfl (T.ev 0 rfl)) ?_; clear T ac; intro ac T
                                      refine wpList_nil ?_
                                      replace T := T.pick [0] rfl
                                      replace M := M.mask [false, true] rfl
                                      refine nm_then ?_
                                      refine wp_ret ?_
                                      refine rt_1 T rfl (T.ev 0 rfl) ?_
                                      exact ⟨rfl, M.below⟩

end Go.Proofs.Ythlpceoajhcliaa

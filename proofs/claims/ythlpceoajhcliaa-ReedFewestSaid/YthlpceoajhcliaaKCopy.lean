/-
  kit: copies of ranges and of jobs.
-/
import Derived.Test.YthlpceoajhcliaaKApp
import Derived.Test.YthlpceoajhcliaaReedA
namespace Go.Proofs.Ythlpceoajhcliaa
set_option linter.unusedSimpArgs false
set_option linter.unusedVariables false
open Go.RowKit

/-- A slice of the call's own, of whatever form where it is empty. -/
def Sn (e size : Nat) (A : Option Addr) (n c : Nat) (xs : List Value) (I : List (Nat × BA)) : Prop := (n = 0 ∧ xs = [] ∧ I = []) ∨ ∃ g, A = some ⟨g, 0, none⟩ ∧ I = [(g, .row e size n xs c)]
theorem Sn.rd {e size n c : Nat} {A : Option Addr} {xs : List Value} {I L : List (Nat × BA)} {w0 w : World} {ex : Nat → Prop} (h : Sn e size A n c xs I) (M : Mem w0 ex w (I ++ L)) : Rd w w.heap.size size A n xs := by
  rcases h with ⟨rfl, rfl, rfl⟩ | ⟨g, rfl, rfl⟩
  · exact Rd.empty
  · exact M.rdRow (g := g) (e := e) (cap := c) (by simp)

def RangesPost (l : List (Int × Int)) (w : World) (e : Ending) (w' : World) : Prop := ∃ A c I, e = .returned (.slice A l.length c) ∧ Sn 23 2 A l.length c (rc l) I ∧ Mem w noEx w' I

theorem Try.append0 (A : Option Addr) (c g : Nat) (ty : TypeId) (w : World) : (Builtin.append_ #[28, 28] ty #[.slice (some ⟨g, 0, none⟩) 0 0, .slice A 0 c]).run Try.prog w = .ok (.slice (some ⟨g, 0, none⟩) 0 0) w := by
  cases A <;> kernel_rfl
theorem app0 {ops : Array Oper} {rest : List Oper} {o : Oper} {a : Act} {Q : Exit → Act → World → Prop} {w : World} {s x : Operand} {A : Option Addr} {c g : Nat} (hw : Region.wanted o (yielded ops a.tmps) = true)
    (ho : o.op = .call { callee := .builtin .append, args := #[s, x], argTypes := #[28, 28] }) (hs : a.eval s = .slice (some ⟨g, 0, none⟩) 0 0) (hx : a.eval x = .slice A 0 c)
    (h : wpList Try.prog ops Q rest (a.put o.dst (.slice (some ⟨g, 0, none⟩) 0 0)) w) : wpList Try.prog ops Q (o :: rest) a w :=
  wpList_wanted hw fun _ hK => by
    unfold Oper.wp execOp
    simp only [ho, resolve, invoke, builtin, Sem.run_bind, Sem.run_pure, Result.andThen_ok, List.map_toArray, List.map_cons, List.map_nil, hs, hx, Try.append0]
    exact hK _ _ h
/-- All of a slice behind an empty one. -/
theorem appN {P : Program} {ops : Array Oper} {rest : List Oper} {o : Oper} {a : Act} {Q : Exit → Act → World → Prop} {s x : Operand} {t e size : Nat} {z : Value} {bytes b off c n g : Nat} {cs : List Value} {w0 w : World} {ex : Nat → Prop} {L : List (Nat × BA)}
    (ht : P.underlying t = some (.slice e)) (hinfo : (P.info? e).map (fun i => (i.zero, i.size, i.bytes)) = some (some z, size, bytes)) (hzs : z.cells.size = size) (hsz : 0 < size) (hby : bytes ≤ 1000) (hn : 0 < n) (hn1 : n ≤ 1000000)
    (M : Mem w0 ex w ((g, .cells []) :: L)) (hw : Region.wanted o (yielded ops a.tmps) = true)
    (ho : o.op = .call { callee := .builtin .append, args := #[s, x], argTypes := #[t, t] }) (hs : a.eval s = .slice (some ⟨g, 0, none⟩) 0 0) (hx : a.eval x = .slice (some ⟨b, off, none⟩) n c) (hl : cs.length = n * size) (h1 : ∀ u ∈ cs, u.oneCell' = true) (hr : w.rangeAt b off cs)
    (hg : ∃ ty, w.heap[g]? = some (.cells #[] ty)) (hge : w.heap[g]? = some (.cells #[] e))
    (h : ∀ g' cap w', Mem w0 ex w' ((g', .row e size n cs cap) :: L) → wpList P ops Q rest (a.put o.dst (.slice (some ⟨g', 0, none⟩) n cap)) w') : wpList P ops Q (o :: rest) a w := by
  refine wpList_wanted hw fun K hK => ?_
  obtain ⟨i, hi, hz0, hz1, hz2⟩ := info_parts hinfo
  have hbb : (0 + n) * bytes ≤ 140737488355328 := by
    have : (0 + n) * bytes ≤ 1000000 * 1000 := Nat.mul_le_mul (by omega) hby
    omega
  refine wp_append_lies w s x t ho g e i z size bytes ht hi hz0 hz1 hz2 hzs hsz (.slice (some ⟨g, 0, none⟩) 0 0) 0 [] hs ⟨by simp, .inr ⟨g, 0, #[], rfl, Nat.le_refl _, hge, by omega, by unfold maxLen; omega, by simp, by simp⟩⟩ ⟨b, off, none⟩ n c cs hx hl (fun j u hu => by rw [Addr.add_mid]; exact hr j u hu) h1 hn (by unfold maxLen; omega) hbb (Nat.le_of_lt (BA.lt (M.blk _ List.mem_cons_self).2)) w.heap.size rfl ?_
  intro g' cap w' hown hgr hat hlt
  have hgr : w.grownBy w' (some g) := hgr
  simp only [Nat.zero_add, List.nil_append] at hown
  have hg0 : g < w'.heap.size := Nat.lt_of_lt_of_le (BA.lt (M.blk _ List.mem_cons_self).2) hgr.size
  have e0 : a.put o.dst (.slice (some ⟨g', 0, none⟩) (0 + n) cap) = a.put o.dst (.slice (some ⟨g', 0, none⟩) n cap) := by rw [Nat.zero_add]
  rw [e0]
  refine hK _ _ (h g' cap w' ?_)
  rcases hat with h2 | h2
  · have h2 : some g = some g' := h2
    injection h2 with h2
    subst h2
    exact M.callW (L' := (g, .row e size n cs cap) :: L) .head hgr (own_rebase hown hn)
  · have M1 := M.callW (L' := (g, .any (fun _ => True)) :: L) .head hgr ⟨w'.heap[g], Array.getElem?_eq_getElem hg0, trivial⟩
    exact M1.forget.add (by rw [h2]; exact M.size) (own_rebase hown hn) (fun q hq e => by have := BA.lt (M.blk q (List.mem_cons_of_mem _ hq)).2; omega)

set_option maxHeartbeats 1000000 in
theorem ranges_any (A : Option Addr) (c : Nat) (l : List (Int × Int)) (w : World) (hr : Rd w w.heap.size 2 A l.length (rc l)) (hn : l.length ≤ 1000) :
    Calls Try.prog 67 #[.slice A l.length c] w (RangesPost l w) := by
  rcases Nat.eq_zero_or_pos l.length with h0 | h0
  · obtain rfl : l = [] := List.eq_nil_of_length_eq_zero h0
    clear hr hn h0
    show Calls Try.prog 67 #[.slice A 0 c] w (RangesPost [] w)
    go_enter Try.func67, Try.ntmps67
    refine start noEx ?_
    intro wc M
    go_wp2_with (first | (refine m_ld1 M rfl rfl rfl (by (repeat' (first | exact List.mem_cons_self | refine List.mem_cons_of_mem _ ?_))) (by rfl) ?_) | (refine m_ldr M rfl rfl rfl (by (repeat' (first | exact List.mem_cons_self | refine List.mem_cons_of_mem _ ?_))) (by (try simp only [List.take_succ_cons, List.take_zero, List.take_nil, List.drop_succ_cons, List.drop_zero, List.drop_nil, List.cons_append, List.nil_append, List.append_nil, List.length_cons, List.length_nil, Nat.reduceAdd, Nat.zero_add, Nat.add_zero]); rfl) (by rfl) ?_) | (refine m_st M rfl rfl rfl (by first | exact (rfl : _ = Value.agg _) | exact (rfl : _ = Value.int _ _) | exact (rfl : _ = Value.bool _) | exact (rfl : _ = Value.slice _ _ _) | exact (rfl : _ = Value.pointer _) | exact (rfl : _ = Value.map _) | exact (rfl : _ = Value.func _ _ _) | exact (rfl : _ = Value.string _)) (by rfl) (by (repeat (first | exact Upd.head | apply Upd.tail))) (by (try simp only [List.take_succ_cons, List.take_zero, List.take_nil, List.drop_succ_cons, List.drop_zero, List.drop_nil, List.cons_append, List.nil_append, List.append_nil, List.length_cons, List.length_nil, Nat.reduceAdd, Nat.zero_add, Nat.add_zero]); rfl) (by simp) (by simp [Value.oneCell']) (by kernel_rfl) ?_; clear M; (try clear wc); intro wc M) | (refine m_al M rfl rfl ?_; clear M; (try clear wc); intro g wc M) | (refine m_bx M rfl rfl (by first | exact (rfl : _ = Value.agg _) | exact (rfl : _ = Value.int _ _) | exact (rfl : _ = Value.bool _) | exact (rfl : _ = Value.slice _ _ _) | exact (rfl : _ = Value.pointer _) | exact (rfl : _ = Value.map _) | exact (rfl : _ = Value.func _ _ _) | exact (rfl : _ = Value.string _)) (by rfl) ?_; clear M; (try clear wc); intro g wc M) | (refine absorb M ?_; intro M'; clear M; (obtain ⟨M, -⟩ : _ ∧ True := ⟨M', trivial⟩); clear M'; revert M; generalize World.alloc _ _ = wn; generalize wc.heap.size = g; (try clear wc); intro M; (obtain ⟨wc, rfl⟩ : ∃ x : World, x = wn := ⟨_, rfl⟩)) | (refine app0 rfl rfl rfl rfl ?_))
    go_ret
    exact ⟨_, _, [], rfl, .inl ⟨rfl, rfl, rfl⟩, M.forget⟩
  · obtain ⟨b, o, rfl, hb, hc⟩ := hr.cells h0
    have HC := Lib.hid hc
    have HL := Lib.hid hr.1
    clear hc hr
    have H1 : Hid (∀ u ∈ rc l, u.oneCell' = true) := by
      intro u hu
      obtain ⟨p, _, hp⟩ := List.mem_flatMap.1 hu
      simp only [List.mem_cons, List.not_mem_nil, or_false] at hp
      rcases hp with rfl | rfl <;> rfl
    go_enter Try.func67, Try.ntmps67
    have M := (Mem.init w noEx).new [] 23
    have hge : (w.alloc (.cells #[] 23)).heap[w.heap.size]? = some (.cells #[] 23) := heap_alloc_new w _
    have HGE := Lib.hid hge
    clear hge
    have HRA : Hid ((w.alloc (.cells #[] 23)).rangeAt b o (rc l)) := fun j v hv => (((Below.refl w.heap.size w).alloc (Nat.le_refl _) (.cells #[] 23)).cell (p := ⟨b, o + j, none⟩) hb).trans (HC.out j v hv)
    go_wp2_with (refine appN Try.underlying28 Try.infoRange rfl (by omega) (by omega) h0 (by omega) M rfl rfl rfl rfl HL.out H1.out HRA.out ⟨_, HGE.out⟩ HGE.out ?_; intro g' cap w' M')
    go_ret
    exact ⟨_, _, _, rfl, .inr ⟨g', rfl, rfl⟩, M'⟩

def CopyPost (j : Jb) (w : World) (e : Ending) (w' : World) : Prop := ∃ A c I, e = .returned (jobV j A c) ∧ Sn 23 2 A j.sh.length c (rc j.sh) I ∧ Mem w noEx w' I

set_option maxRecDepth 100000 in
set_option maxHeartbeats 1000000 in
theorem copyJob_any (j : Jb) (A : Option Addr) (c : Nat) (w : World) (hr : Rd w w.heap.size 2 A j.sh.length (rc j.sh)) (hn : j.sh.length ≤ 1000) :
    Calls Try.prog 18 #[jobV j A c] w (CopyPost j w) := by
  have HR := Lib.hid hr
  clear hr
  go_enter Try.func18, Try.ntmps18
  refine start noEx ?_
  intro wc M
  go_wp2_with (first | (refine m_ld1 M rfl rfl rfl (by (repeat' (first | exact List.mem_cons_self | refine List.mem_cons_of_mem _ ?_))) (by rfl) ?_) | (refine m_ldr M rfl rfl rfl (by (repeat' (first | exact List.mem_cons_self | refine List.mem_cons_of_mem _ ?_))) (by (try simp only [List.take_succ_cons, List.take_zero, List.take_nil, List.drop_succ_cons, List.drop_zero, List.drop_nil, List.cons_append, List.nil_append, List.append_nil, List.length_cons, List.length_nil, Nat.reduceAdd, Nat.zero_add, Nat.add_zero]); rfl) (by rfl) ?_) | (refine m_st M rfl rfl rfl (by first | exact (rfl : _ = Value.agg _) | exact (rfl : _ = Value.int _ _) | exact (rfl : _ = Value.bool _) | exact (rfl : _ = Value.slice _ _ _) | exact (rfl : _ = Value.pointer _) | exact (rfl : _ = Value.map _) | exact (rfl : _ = Value.func _ _ _) | exact (rfl : _ = Value.string _)) (by rfl) (by (repeat (first | exact Upd.head | apply Upd.tail))) (by (try simp only [List.take_succ_cons, List.take_zero, List.take_nil, List.drop_succ_cons, List.drop_zero, List.drop_nil, List.cons_append, List.nil_append, List.append_nil, List.length_cons, List.length_nil, Nat.reduceAdd, Nat.zero_add, Nat.add_zero]); rfl) (by simp) (by simp [Value.oneCell']) (by kernel_rfl) ?_; clear M; (try clear wc); intro wc M) | (refine m_al M rfl rfl ?_; clear M; (try clear wc); intro g wc M) | (refine m_bx M rfl rfl (by first | exact (rfl : _ = Value.agg _) | exact (rfl : _ = Value.int _ _) | exact (rfl : _ = Value.bool _) | exact (rfl : _ = Value.slice _ _ _) | exact (rfl : _ = Value.pointer _) | exact (rfl : _ = Value.map _) | exact (rfl : _ = Value.func _ _ _) | exact (rfl : _ = Value.string _)) (by rfl) ?_; clear M; (try clear wc); intro g wc M) | (go_at_call 67; refine (ranges_any _ _ j.sh _ (M.rd HR.out (Nat.le_refl _)) hn).mono ?_; rintro e wc ⟨A', c', I, rfl, hsn, N⟩; (rcases hsn with ⟨hn0, hx0, rfl⟩ | ⟨g', rfl, rfl⟩) <;> ((try (have HN0 := Lib.hid hn0; have HX0 := Lib.hid hx0; clear hn0 hx0)); replace M := M.join N; clear N; simp only [List.cons_append, List.nil_append] at M)))
  · refine ret_M (t := 2) (ty := 30) M (by rfl) (by rfl) (by rfl) (by (repeat' (first | exact List.mem_cons_self | refine List.mem_cons_of_mem _ ?_))) (by rfl) ?_
    exact ⟨A', c', [], rfl, .inl ⟨HN0.out, HX0.out, rfl⟩, M.sub (by (repeat (first | exact List.Sublist.slnil | apply List.Sublist.cons_cons | apply List.Sublist.cons)))⟩
  · refine ret_M (t := 2) (ty := 30) M (by rfl) (by rfl) (by rfl) (by (repeat' (first | exact List.mem_cons_self | refine List.mem_cons_of_mem _ ?_))) (by rfl) ?_
    exact ⟨some ⟨g', 0, none⟩, c', [(g', .row 23 2 j.sh.length (rc j.sh) c')], rfl, .inr ⟨g', rfl, rfl⟩, M.sub (by (repeat (first | exact List.Sublist.slnil | apply List.Sublist.cons_cons | apply List.Sublist.cons)))⟩

end Go.Proofs.Ythlpceoajhcliaa

/-
  Slices that are appended to, in a list of blocks.
-/
import Derived.Test.YthlpceoajhcliaaTypes
namespace Go.Proofs.Ythlpceoajhcliaa
set_option linter.unusedSimpArgs false
set_option linter.unusedVariables false
open Go.RowKit

/-- A slice of the call's own: nil, or a row. -/
def Sl (e size : Nat) (v : Value) (n : Nat) (xs : List Value) (I : List (Nat × BA)) : Prop :=
  (v = .slice none 0 0 ∧ n = 0 ∧ xs = [] ∧ I = []) ∨ ∃ g cap, v = .slice (some ⟨g, 0, none⟩) n cap ∧ I = [(g, .row e size n xs cap)]
theorem Sl.nil (e size : Nat) : Sl e size (.slice none 0 0) 0 [] [] := .inl ⟨rfl, rfl, rfl, rfl⟩

section
variable {w0 w w' : World} {ex : Nat → Prop} {L I : List (Nat × BA)} {e size n : Nat} {v : Value} {xs : List Value}

theorem own_rebase {base g cap : Nat} (h : w.ownsRow base e size (.slice (some ⟨g, 0, none⟩) n cap) n xs) (hn : 0 < n) : BA.holds w g (.row e size n xs cap) := by
  refine ⟨⟨h.1, ?_⟩, hn⟩
  rcases h.2 with ⟨h2, _⟩ | ⟨g', c', cur, h2, _, hg, hr⟩
  · cases h2
  · injection h2 with h2 _ hc
    injection h2 with h2
    injection h2 with h2 _ _
    subst h2
    exact .inr ⟨g, c', cur, by rw [hc], Nat.le_refl _, hg, hr⟩
theorem Sl.rd (h : Sl e size v n xs I) (M : Mem w0 ex w (I ++ L)) : ∃ A cap, v = .slice A n cap ∧ Rd w w.heap.size size A n xs := by
  rcases h with ⟨rfl, rfl, rfl, rfl⟩ | ⟨g, cap, rfl, rfl⟩
  · exact ⟨none, 0, rfl, Rd.empty⟩
  · exact ⟨_, cap, rfl, M.rdRow (g := g) (e := e) (cap := cap) (by simp)⟩
theorem Sl.row (e size g n : Nat) (xs : List Value) (cap : Nat) : Sl e size (.slice (some ⟨g, 0, none⟩) n cap) n xs [(g, .row e size n xs cap)] := .inr ⟨g, cap, rfl, rfl⟩
theorem Mem.swap {p q : Nat × BA} (M : Mem w0 ex w (p :: q :: L)) : Mem w0 ex w (q :: p :: L) :=
  ⟨M.os, M.tape, M.output, M.size, M.block, fun r hr => M.blk r (by simp only [List.mem_cons] at hr ⊢; rcases hr with h | h | h <;> simp [h]), by
    have h := M.nd
    simp only [List.map_cons, List.nodup_cons, List.mem_cons, not_or] at h ⊢
    exact ⟨⟨fun e => h.1.1 e.symm, h.2.1⟩, h.1.2, h.2.2⟩⟩
theorem Sl.form (h : Sl e size v n xs I) : ∃ A cap, v = .slice A n cap := by
  rcases h with ⟨rfl, rfl, rfl, rfl⟩ | ⟨g, cap, rfl, rfl⟩
  · exact ⟨none, 0, rfl⟩
  · exact ⟨_, cap, rfl⟩

theorem app_wp {P : Program} {o : Oper} {a : Act} {K : Act → World → Prop} {Q : Exit → Act → World → Prop} {s x : Operand} {t : TypeId} {z : Value} {bytes b c : Nat} {cs : List Value}
    (ht : P.underlying t = some (.slice e)) (hinfo : (P.info? e).map (fun i => (i.zero, i.size, i.bytes)) = some (some z, size, bytes)) (hzs : z.cells.size = size) (hsz : 0 < size) (hby : bytes ≤ 1000)
    (M : Mem w0 ex w (I ++ L)) (hS : Sl e size v n xs I) (hn : n ≤ 1000000)
    (ho : o.op = .call { callee := .builtin .append, args := #[s, x], argTypes := #[t, t] }) (hs : a.eval s = v) (hx : a.eval x = .slice (some ⟨b, 0, none⟩) 1 c) (hm : (b, BA.cells cs) ∈ L) (hl : cs.length = size) (h1 : cs.all (·.oneCell') = true)
    (h : ∀ g cap w', Mem w0 ex w' ((g, .row e size (n + 1) (xs ++ cs) cap) :: L) → K (a.put o.dst (.slice (some ⟨g, 0, none⟩) (n + 1) cap)) w') : o.wp P a w K Q := by
  obtain ⟨i, hi, hz0, hz1, hz2⟩ := info_parts hinfo
  have hb : Bk w b cs.toArray := M.get (List.mem_append_right _ hm)
  have hnews : ∀ j u, cs[j]? = some u → w.cell? ((⟨b, 0, none⟩ : Addr).add j) = some u := fun j u hu => by
    rw [Addr.add_mid, hb.cell, Nat.zero_add]; simpa using hu
  have h1' : ∀ u ∈ cs, u.oneCell' = true := fun u hu => List.all_eq_true.1 h1 u hu
  have hbb : (n + 1) * bytes ≤ 140737488355328 := by
    have : (n + 1) * bytes ≤ 1000001 * 1000 := Nat.mul_le_mul (by omega) hby
    omega
  rcases hS with ⟨rfl, rfl, rfl, rfl⟩ | ⟨g0, cap0, rfl, rfl⟩
  · refine wp_append_lies w s x t ho w.heap.size e i z size bytes ht hi hz0 hz1 hz2 hzs hsz (.slice none 0 0) 0 [] hs ⟨by simp, .inl ⟨rfl, rfl⟩⟩ ⟨b, 0, none⟩ 1 c cs hx (by omega) hnews h1' (by omega) (by unfold maxLen; omega) (by simpa using hbb) (Nat.le_refl _) w.heap.size rfl ?_
    intro g cap w' hown hgr hat hlt
    have hg : g = w.heap.size := by
      rcases hat with h | h
      · cases h
      · exact h
    have M1 : Mem w0 ex w' L := M.call ⟨hgr.os, hgr.tape, hgr.output, hgr.size, fun k hk => hgr.block k hk (fun e => by cases e)⟩
    exact h g cap w' (M1.add (by rw [hg]; exact M.size) (own_rebase hown (by omega)) (fun q hq e => by have := BA.lt (M.blk q hq).2; omega))
  · have hrow := (M.blk (g0, .row e size n xs cap0) (by simp)).2
    have hnp : 0 < n := hrow.2
    refine wp_append_lies w s x t ho g0 e i z size bytes ht hi hz0 hz1 hz2 hzs hsz _ n xs hs hrow.1 ⟨b, 0, none⟩ 1 c cs hx (by omega) hnews h1' (by omega) (by unfold maxLen; omega) hbb (Nat.le_of_lt (BA.lt hrow)) w.heap.size rfl ?_
    intro g cap w' hown hgr hat hlt
    have hgr : w.grownBy w' (some g0) := hgr
    rcases hat with h2 | h2
    · have h2 : some g0 = some g := h2
      injection h2 with h2
      subst h2
      exact h g0 cap w' (M.callW (L' := (g0, .row e size (n + 1) (xs ++ cs) cap) :: L) .head hgr (own_rebase hown (by omega)))
    · have M1 := M.callW (L' := (g0, .any (fun _ => True)) :: L) .head hgr (by
        have hl0 : g0 < w'.heap.size := Nat.lt_of_lt_of_le (BA.lt hrow) hgr.size
        exact ⟨w'.heap[g0], Array.getElem?_eq_getElem hl0, trivial⟩)
      exact h g cap w' (M1.forget.add (by rw [h2]; exact M.size) (own_rebase hown (by omega)) (fun q hq e => by have := BA.lt (M.blk q (List.mem_append_right _ hq)).2; omega))
theorem app {P : Program} {ops : Array Oper} {rest : List Oper} {o : Oper} {a : Act} {Q : Exit → Act → World → Prop} {s x : Operand} {t : TypeId} {z : Value} {bytes b c : Nat} {cs : List Value}
    (ht : P.underlying t = some (.slice e)) (hinfo : (P.info? e).map (fun i => (i.zero, i.size, i.bytes)) = some (some z, size, bytes)) (hzs : z.cells.size = size) (hsz : 0 < size) (hby : bytes ≤ 1000)
    (M : Mem w0 ex w (I ++ L)) (hS : Sl e size v n xs I) (hn : n ≤ 1000000) (hw : Region.wanted o (yielded ops a.tmps) = true)
    (ho : o.op = .call { callee := .builtin .append, args := #[s, x], argTypes := #[t, t] }) (hs : a.eval s = v) (hx : a.eval x = .slice (some ⟨b, 0, none⟩) 1 c) (hm : (b, BA.cells cs) ∈ L) (hl : cs.length = size) (h1 : cs.all (·.oneCell') = true)
    (h : ∀ g cap w', Mem w0 ex w' ((g, .row e size (n + 1) (xs ++ cs) cap) :: L) → wpList P ops Q rest (a.put o.dst (.slice (some ⟨g, 0, none⟩) (n + 1) cap)) w') : wpList P ops Q (o :: rest) a w :=
  wpList_wanted hw fun _ hK => app_wp ht hinfo hzs hsz hby M hS hn ho hs hx hm hl h1 fun g cap w' h1 => hK _ _ (h g cap w' h1)
end
theorem Try.infoRange : (Try.prog.info? 23).map (fun i => (i.zero, i.size, i.bytes)) = some (some (.agg #[.int .i64 0, .int .i64 0]), 2, 16) := by kernel_rfl
end Go.Proofs.Ythlpceoajhcliaa

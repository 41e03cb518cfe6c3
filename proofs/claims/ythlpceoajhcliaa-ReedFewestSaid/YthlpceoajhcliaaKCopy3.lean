/-
  kit: copies of jobs.
-/
import Derived.Test.YthlpceoajhcliaaKCopy
import Derived.Test.YthlpceoajhcliaaK3
namespace Go.Proofs.Ythlpceoajhcliaa
set_option linter.unusedSimpArgs false
set_option linter.unusedVariables false
open Go.RowKit

/-- A slice of the call's own that is not nil: empty and full, or with elements. -/
def Sm (e size : Nat) (A : Option Addr) (n c : Nat) (xs : List Value) (I : List (Nat × BA)) : Prop :=
  (n = 0 ∧ xs = [] ∧ c = 0 ∧ ∃ g, A = some ⟨g, 0, none⟩ ∧ I = [(g, .any fun o => o = .cells #[] e)]) ∨ ∃ g, A = some ⟨g, 0, none⟩ ∧ I = [(g, .row e size n xs c)]
theorem Sm.sp {w : World} {ex : Nat → Prop} {e size n c : Nat} {A : Option Addr} {xs : List Value} {I : List (Nat × BA)} (h : Sm e size A n c xs I) (hl : xs.length = n * size) : ∃ b o, Sp w ex I A n size b o xs := by
  rcases h with ⟨rfl, rfl, _, g, rfl, rfl⟩ | ⟨g, rfl, rfl⟩
  · exact ⟨0, 0, fun h => absurd h (by omega), by simp, fun _ _ _ _ h => absurd h (by omega), fun _ _ _ _ j u hu => by simp at hu⟩
  · exact ⟨g, 0, Sp.row hl⟩
def RangesPost2 (l : List (Int × Int)) (w : World) (e : Ending) (w' : World) : Prop := ∃ A c I, e = .returned (.slice A l.length c) ∧ Sm 23 2 A l.length c (rc l) I ∧ Mem w noEx w' I
def IntsPost2 (l : List Int) (w : World) (e : Ending) (w' : World) : Prop := ∃ A c I, e = .returned (.slice A l.length c) ∧ Sm 3 1 A l.length c (ic l) I ∧ Mem w noEx w' I

set_option maxHeartbeats 1000000 in
theorem ranges_own (A : Option Addr) (c : Nat) (l : List (Int × Int)) (w : World) (hr : Rd w w.heap.size 2 A l.length (rc l)) (hn : l.length ≤ 1000) :
    Calls Try.prog 67 #[.slice A l.length c] w (RangesPost2 l w) := by
  rcases Nat.eq_zero_or_pos l.length with h0 | h0
  · obtain rfl : l = [] := List.eq_nil_of_length_eq_zero h0
    clear hr hn h0
    show Calls Try.prog 67 #[.slice A 0 c] w (RangesPost2 [] w)
    go_enter Try.func67, Try.ntmps67
    have M := (Mem.init w noEx).newAny (.cells #[] 23) (fun o => o = .cells #[] 23) rfl
    go_wp2_with (refine app0 rfl rfl rfl rfl ?_)
    go_ret
    exact ⟨_, _, _, rfl, .inl ⟨rfl, rfl, rfl, _, rfl, rfl⟩, M⟩
  · obtain ⟨b, o, rfl, hb, hc⟩ := hr.cells h0
    have HC := Lib.hid hc
    have HL := Lib.hid hr.1
    clear hc hr
    have H1 : Hid (∀ u ∈ rc l, u.oneCell' = true) := by
      intro u hu
      obtain ⟨p, _, hp⟩ := List.mem_flatMap.1 hu
      simp only [List.mem_cons, List.not_mem_nil, or_false] at hp
      rcases hp with rfl | rfl <;> rfl
    go_enter Try.func67, Try.ntmps67
    have M := (Mem.init w noEx).new [] 23
    have hge : (w.alloc (.cells #[] 23)).heap[w.heap.size]? = some (.cells #[] 23) := heap_alloc_new w _
    have HGE := Lib.hid hge
    clear hge
    have HRA : Hid ((w.alloc (.cells #[] 23)).rangeAt b o (rc l)) := fun j v hv => (((Below.refl w.heap.size w).alloc (Nat.le_refl _) (.cells #[] 23)).cell (p := ⟨b, o + j, none⟩) hb).trans (HC.out j v hv)
    go_wp2_with (refine appN Try.underlying28 Try.infoRange rfl (by omega) (by omega) h0 (by omega) M rfl rfl rfl rfl HL.out H1.out HRA.out ⟨_, HGE.out⟩ HGE.out ?_; intro g' cap w' M')
    go_ret
    exact ⟨_, _, _, rfl, .inr ⟨g', rfl, rfl⟩, M'⟩

theorem Try.append0i (A : Option Addr) (c g : Nat) (ty : TypeId) (w : World) : (Builtin.append_ #[31, 31] ty #[.slice (some ⟨g, 0, none⟩) 0 0, .slice A 0 c]).run Try.prog w = .ok (.slice (some ⟨g, 0, none⟩) 0 0) w := by
  cases A <;> kernel_rfl
theorem app0i {ops : Array Oper} {rest : List Oper} {o : Oper} {a : Act} {Q : Exit → Act → World → Prop} {w : World} {s x : Operand} {A : Option Addr} {c g : Nat} (hw : Region.wanted o (yielded ops a.tmps) = true)
    (ho : o.op = .call { callee := .builtin .append, args := #[s, x], argTypes := #[31, 31] }) (hs : a.eval s = .slice (some ⟨g, 0, none⟩) 0 0) (hx : a.eval x = .slice A 0 c)
    (h : wpList Try.prog ops Q rest (a.put o.dst (.slice (some ⟨g, 0, none⟩) 0 0)) w) : wpList Try.prog ops Q (o :: rest) a w :=
  wpList_wanted hw fun _ hK => by
    unfold Oper.wp execOp
    simp only [ho, resolve, invoke, builtin, Sem.run_bind, Sem.run_pure, Result.andThen_ok, List.map_toArray, List.map_cons, List.map_nil, hs, hx, Try.append0i]
    exact hK _ _ h
set_option maxHeartbeats 1000000 in
theorem ints_own (A : Option Addr) (c : Nat) (l : List Int) (w : World) (hr : Rd w w.heap.size 1 A l.length (ic l)) (hn : l.length ≤ 1000) :
    Calls Try.prog 53 #[.slice A l.length c] w (IntsPost2 l w) := by
  rcases Nat.eq_zero_or_pos l.length with h0 | h0
  · obtain rfl : l = [] := List.eq_nil_of_length_eq_zero h0
    clear hr hn h0
    show Calls Try.prog 53 #[.slice A 0 c] w (IntsPost2 [] w)
    go_enter Try.func53, Try.ntmps53
    have M := (Mem.init w noEx).newAny (.cells #[] 3) (fun o => o = .cells #[] 3) rfl
    go_wp2_with (refine app0i rfl rfl rfl rfl ?_)
    go_ret
    exact ⟨_, _, _, rfl, .inl ⟨rfl, rfl, rfl, _, rfl, rfl⟩, M⟩
  · obtain ⟨b, o, rfl, hb, hc⟩ := hr.cells h0
    have HC := Lib.hid hc
    have HL := Lib.hid hr.1
    clear hc hr
    have H1 : Hid (∀ u ∈ ic l, u.oneCell' = true) := by
      intro u hu
      obtain ⟨p, _, rfl⟩ := List.mem_map.1 hu
      rfl
    go_enter Try.func53, Try.ntmps53
    have M := (Mem.init w noEx).new [] 3
    have hge : (w.alloc (.cells #[] 3)).heap[w.heap.size]? = some (.cells #[] 3) := heap_alloc_new w _
    have HGE := Lib.hid hge
    clear hge
    have HRA : Hid ((w.alloc (.cells #[] 3)).rangeAt b o (ic l)) := fun j v hv => (((Below.refl w.heap.size w).alloc (Nat.le_refl _) (.cells #[] 3)).cell (p := ⟨b, o + j, none⟩) hb).trans (HC.out j v hv)
    go_wp2_with (refine appN Try.underlying31 Try.info3 rfl (by omega) (by omega) h0 (by omega) M rfl rfl rfl rfl HL.out H1.out HRA.out ⟨_, HGE.out⟩ HGE.out ?_; intro g' cap w' M')
    go_ret
    exact ⟨_, _, _, rfl, .inr ⟨g', rfl, rfl⟩, M'⟩

/-- One element is appended to such a slice. -/
theorem ow_appM {P : Program} {op : Oper} {a : Act} {K : Act → World → Prop} {Q : Exit → Act → World → Prop} {s x : Operand} {ty e size bytes b c d m nn t' : Nat} {A : Option Addr} {z : Value} {cs xs : List Value} {w0 w : World} {ex : Nat → Prop} {L0 I : List (Nat × BA)} {E : List (Nat × Value)} (L1 : List (Nat × BA))
    (hinfo : (P.info? e).map (fun i => (i.zero, i.size, i.bytes)) = some (some z, size, bytes)) (hS : Sm e size A m d xs I) (M : Mem w0 ex w L0) (hsp : L0 = L1 ++ I) (T : Tm a nn E)
    (ho : op.op = .call { callee := .builtin .append, args := #[s, x], argTypes := #[ty, ty] }) (hd : op.dst = some t') (hf : freshE E t' = true) (hnn : Nat.blt t' nn = true)
    (ht : P.underlying ty = some (.slice e)) (hzs : z.cells.size = size) (hsz : Nat.blt 0 size = true) (hby : Nat.ble bytes 1000 = true) (hm : m ≤ 1000000)
    (hs : a.eval s = .slice A m d) (hx : a.eval x = .slice (some ⟨b, 0, none⟩) 1 c) (hmem : (b, BA.cells cs) ∈ L1) (hl : cs.length = size) (h1 : cs.all (·.oneCell') = true)
    (h : ∀ g cap w' a', Mem w0 ex w' ((g, .row e size (m + 1) (xs ++ cs) cap) :: L1) → Tm a' nn ((t', .slice (some ⟨g, 0, none⟩) (m + 1) cap) :: E) → K a' w') : op.wp P a w K Q := by
  rcases hS with ⟨rfl, rfl, rfl, g, rfl, rfl⟩ | ⟨g, rfl, rfl⟩
  · subst hsp
    obtain ⟨i, hi, hz0, hz1, hz2⟩ := info_parts hinfo
    have hsz := Nat.le_of_ble_eq_true hsz
    have hby := Nat.le_of_ble_eq_true hby
    have hbb : (0 + 1) * bytes ≤ 140737488355328 := by omega
    have hB := M.get (List.mem_append_left [(g, BA.any fun o => o = .cells #[] e)] hmem)
    obtain ⟨o, hge, rfl⟩ := (M.blk (g, BA.any fun o => o = .cells #[] e) (List.mem_append_right _ List.mem_cons_self)).2
    have hgl : g < w.heap.size := (Array.getElem?_eq_some_iff.1 hge).1
    refine wp_append_lies w s x ty ho g e i z size bytes ht hi hz0 hz1 hz2 hzs hsz (.slice (some ⟨g, 0, none⟩) 0 0) 0 [] hs ⟨by simp, .inr ⟨g, 0, #[], rfl, Nat.le_refl _, hge, by omega, by unfold maxLen; omega, by simp, by simp⟩⟩ ⟨b, 0, none⟩ 1 c cs hx (by omega) (fun j u hu => by rw [Addr.add_mid, hB.cell, Nat.zero_add]; simpa using hu) (fun u hu => (List.all_eq_true.1 h1) u hu) (by omega) (by unfold maxLen; omega) hbb (Nat.le_of_lt hgl) w.heap.size rfl ?_
    intro g' cap w' hown hgr hat hlt
    have hgr : w.grownBy w' (some g) := hgr
    simp only [Nat.zero_add, List.nil_append] at hown
    have e0 : a.put op.dst (.slice (some ⟨g', 0, none⟩) (0 + 1) cap) = a.put op.dst (.slice (some ⟨g', 0, none⟩) (0 + 1) cap) := rfl
    refine h g' cap w' _ ?_ (by rw [hd]; exact T.put hnn hf _)
    have Ms := Mem.swapI (I := L1) (L := [(g, BA.any fun o => o = .cells #[] e)]) M
    have hg0 : g < w'.heap.size := Nat.lt_of_lt_of_le hgl hgr.size
    rcases hat with h2 | h2
    · have h2 : some g = some g' := h2
      injection h2 with h2
      subst h2
      exact Ms.callW (L' := (g, .row e size (0 + 1) ([] ++ cs) cap) :: L1) .head hgr (own_rebase hown (by omega))
    · have M1 := Ms.callW (L' := (g, .any (fun _ => True)) :: L1) .head hgr ⟨w'.heap[g], Array.getElem?_eq_getElem hg0, trivial⟩
      exact M1.forget.add (by rw [h2]; exact M.size) (own_rebase hown (by omega)) (fun q hq e => by have := BA.lt (Ms.blk q (List.mem_cons_of_mem _ hq)).2; omega)
  · exact ow_app L1 hinfo (.inr ⟨g, d, rfl, rfl⟩) M hsp T ho hd hf hnn ht hzs hsz hby hm hs hx hmem hl h1 h

def CopyPost2 (j : Jb) (w : World) (e : Ending) (w' : World) : Prop := ∃ A c I, e = .returned (jobV j A c) ∧ Sm 23 2 A j.sh.length c (rc j.sh) I ∧ Mem w noEx w' I
/-- A job with a shift more. -/
def Jb.more (j : Jb) (x y : Int) : Jb := { j with sh := j.sh ++ [(x, y)] }
theorem more_length (j : Jb) (x y : Int) : j.sh.length + 1 = (j.more x y).sh.length := by simp [Jb.more]


set_option maxRecDepth 100000 in
set_option maxHeartbeats 1000000 in
theorem copyJob_own (j : Jb) (A : Option Addr) (c : Nat) (w : World) (hr : Rd w w.heap.size 2 A j.sh.length (rc j.sh)) (hn : j.sh.length ≤ 1000) :
    Calls Try.prog 18 #[jobV j A c] w (CopyPost2 j w) := by
  obtain ⟨bJ, oJ, SJ⟩ := Sp.old hr
  refine px_enter noEx Try.func18 rfl 8 rfl [.agg #[.int .i64 j.p0, .int .i64 j.p1, .int .i64 j.t0, .int .i64 j.t1, .int .i64 j.r0, .int .i64 j.r1, .int .i64 j.u0, .int .i64 j.u1, .int .i64 j.d0, .int .i64 j.d1, .int .i64 j.a0, .int .i64 j.a1, .int .i64 j.b0, .int .i64 j.b1, .int .i64 j.le, .slice A j.sh.length c, .int .i64 j.wi, .int .i64 j.me]] rfl rfl (Mem.init w _) ?_
  intro ac wc T M
  refine wp_seq ?_
  refine wp_region_lit ?_
  refine l_w rfl ?_; intro K hK
  refine ow_bx M T rfl rfl rfl rfl (T.ev 0 rfl) rfl ?_; clear M T; intro g1 wc ac M T
  refine sh_out hK _ _ ?_; clear hK K
  refine l_w rfl ?_; intro K hK
  refine ow_al M T rfl rfl rfl rfl ?_; clear M T; intro g2 wc ac M T
  refine sh_out hK _ _ ?_; clear hK K
  refine wpList_nil ?_
  replace T := T.pick [0, 1] rfl
  refine nm_then ?_
  refine wp_seq ?_
  refine wp_region_lit ?_
  refine l_q (v := (.pointer (some ⟨g1, 15, none⟩))) T rfl rfl rfl rfl (rn_fieldAddr (off := 15) rfl (T.ev 1 rfl) (fun _ _ _ => by kernel_rfl)) ?_; clear T ac; intro ac T
  refine l_q T rfl rfl rfl rfl (rn_one (Mem.nth M 1 rfl) rfl (T.ev 0 rfl) rfl) ?_; clear T ac; intro ac T
  refine l_w rfl ?_; intro K hK
  refine ow_call (first := []) (cap := []) T rfl rfl rfl rfl evf (.cons (T.ev 0 rfl) .nil) Try.func67 rfl rfl ?_
  refine Calls.mono (ranges_own _ _ j.sh _ (SJ.rd M (List.nil_sublist _)) (by omega)) ?_
  clear T
  rintro e wc ⟨Au1, cu1, Iu1, rfl, hsmu1, N⟩
  intro ac T
  obtain ⟨bu1, ou1, Su1⟩ := hsmu1.sp (w := w) (ex := noEx) (rc_length _)
  replace M := (M.join N).swapI
  replace M := M.mask [true, true] rfl
  clear N
  refine sh_out hK _ _ ?_; clear hK K
  refine l_q (v := (.pointer (some ⟨g1, 15, none⟩))) T rfl rfl rfl rfl (rn_fieldAddr (off := 15) rfl (T.ev 4 rfl) (fun _ _ _ => by kernel_rfl)) ?_; clear T ac; intro ac T
  refine l_w rfl ?_; intro K hK
  refine ow_stO M T rfl rfl (T.ev 0 rfl) (T.ev 1 rfl) rfl (.tail .head) rfl (by simp) rfl (by kernel_rfl) ?_; clear M T; intro wc ac M T
  refine sh_out hK _ _ ?_; clear hK K
  refine wpList_nil ?_
  replace T := T.pick [4, 5] rfl
  refine nm_then ?_
  refine wp_seq ?_
  refine wp_region_lit ?_
  refine l_q T rfl rfl rfl rfl (rn_rowO (Mem.nth M 1 rfl) rfl (T.ev 1 rfl) rfl) ?_; clear T ac; intro ac T
  refine l_w rfl ?_; intro K hK
  refine ow_stO M T rfl rfl (T.ev 1 rfl) (T.ev 0 rfl) rfl .head rfl (by simp) rfl (by kernel_rfl) ?_; clear M T; intro wc ac M T
  refine sh_out hK _ _ ?_; clear hK K
  refine wpList_nil ?_
  replace T := T.pick [1] rfl
  replace M := M.mask [true, false] rfl
  refine nm_then ?_
  refine wp_ret ?_
  refine rt_c M T rfl (T.ev 0 rfl) (nthE_mem (i := 0) rfl) rfl ?_
  exact ⟨_, _, _, rfl, hsmu1, M.mask [false] rfl⟩

end Go.Proofs.Ythlpceoajhcliaa
/-
  Walks of functions, and plain laws (texts put together). No condition.
-/
import Derived.Test.YthlpceoajhcliaaMReedBlanks1
import Derived.Test.YthlpceoajhcliaaMReedBlanks2

section
/-
  kit: numbers, ranges, jobs and strokes out of a pot.
-/
namespace Go.Proofs.Ythlpceoajhcliaa
set_option linter.unusedSimpArgs false
set_option linter.unusedVariables false
open Go.RowKit

theorem Mem.nee {w0 w : World} {ex : Nat → Prop} {L : List (Nat × BA)} {g g' : Nat} {p p' : BA} (M : Mem w0 ex w L) (i j : Nat) (h1 : nthE L i = some (g, p)) (h2 : nthE L j = some (g', p')) (hij : Nat.beq i j = false) : ∀ b o, (some ⟨g, 0, none⟩ : Option Addr) = some ⟨b, o, none⟩ → b ≠ g' := by
  intro b o e hb
  injection e with e
  injection e with e _ _
  subst e
  subst hb
  have b1 : (L.map (·.1))[i]? = some g := by rw [List.getElem?_map, nthE_get h1]; rfl
  have b2 : (L.map (·.1))[j]? = some g := by rw [List.getElem?_map, nthE_get h2]; rfl
  have := (List.getElem?_inj (List.getElem?_eq_some_iff.1 b1).1 M.nd).1 (b1.trans b2.symm)
  subst this
  simp at hij
theorem Sp.oldEx {w : World} {size n bp : Nat} {A : Option Addr} {xs : List Value} (h : Rd w w.heap.size size A n xs) (hne : ∀ b o, A = some ⟨b, o, none⟩ → b ≠ bp) : ∃ b o, Sp w (fun b => b = bp) [] A n size b o xs := by
  rcases Nat.eq_zero_or_pos n with rfl | hn
  · refine ⟨0, 0, by omega, h.1, fun _ _ _ _ h => absurd h (by omega), fun _ _ _ _ j u hu => ?_⟩
    have : xs = [] := List.eq_nil_of_length_eq_zero (by have := h.1; omega)
    simp [this] at hu
  · obtain ⟨b, o, h1, h2, h3⟩ := h.2 hn
    exact ⟨b, o, fun _ => h1, h.1, fun w' L M _ _ => Nat.lt_of_lt_of_le h2 M.size, fun w' L M _ j u hu => (World.cell?_of_block (w := w) (a := ⟨b, o + j, none⟩) (M.block b h2 (hne b o h1))).trans (h3 j u hu)⟩
/-- One element, laid into a block of its own, is appended to a slice of the call's own. -/
theorem ow_app {P : Program} {op : Oper} {a : Act} {K : Act → World → Prop} {Q : Exit → Act → World → Prop} {s x : Operand} {ty e size bytes b c m nn t' : Nat} {z : Value} {cs xs : List Value} {v : Value} {w0 w : World} {ex : Nat → Prop} {L0 I : List (Nat × BA)} {E : List (Nat × Value)} (L1 : List (Nat × BA))
    (hinfo : (P.info? e).map (fun i => (i.zero, i.size, i.bytes)) = some (some z, size, bytes)) (hS : Sl e size v m xs I) (M : Mem w0 ex w L0) (hsp : L0 = L1 ++ I) (T : Tm a nn E)
    (ho : op.op = .call { callee := .builtin .append, args := #[s, x], argTypes := #[ty, ty] }) (hd : op.dst = some t') (hf : freshE E t' = true) (hnn : Nat.blt t' nn = true)
    (ht : P.underlying ty = some (.slice e)) (hzs : z.cells.size = size) (hsz : Nat.blt 0 size = true) (hby : Nat.ble bytes 1000 = true) (hm : m ≤ 1000000)
    (hs : a.eval s = v) (hx : a.eval x = .slice (some ⟨b, 0, none⟩) 1 c) (hmem : (b, BA.cells cs) ∈ L1) (hl : cs.length = size) (h1 : cs.all (·.oneCell') = true)
    (h : ∀ g cap w' a', Mem w0 ex w' ((g, .row e size (m + 1) (xs ++ cs) cap) :: L1) → Tm a' nn ((t', .slice (some ⟨g, 0, none⟩) (m + 1) cap) :: E) → K a' w') : op.wp P a w K Q := by
  subst hsp
  exact app_wp ht hinfo hzs (Nat.le_of_ble_eq_true hsz) (Nat.le_of_ble_eq_true hby) (Mem.swapI (I := L1) (L := I) M) hS hm ho hs hx hmem hl h1 fun g cap w' M' => h g cap w' _ M' (by rw [hd]; exact T.put hnn hf _)


set_option maxRecDepth 100000 in
set_option maxHeartbeats 1000000 in
theorem of_any (s : Int) (bp : Nat) (A : Option Addr) (n c : Nat) (l : List Int) (w : World) (hl : Rd w w.heap.size 1 A n (ic l)) (hne : ∀ b o, A = some ⟨b, o, none⟩ → b ≠ bp) (hn0 : 0 < n) (hn : n ≤ 1000) (hp : Bk w bp #[.int .u64 s]) (hs : u64ok s) :
    Calls Try.prog 60 #[.pointer (some ⟨bp, 0, none⟩), .slice A n c] w (PotPost bp (fun x => x ∈ l) .i64 w) := by
  have hll := hl.len1
  obtain ⟨bI, oI, SI⟩ := Sp.oldEx hl hne
  refine px_enter (fun b => b = bp) Try.func60 rfl 16 rfl [.pointer (some ⟨bp, 0, none⟩), .slice A n c] rfl rfl (Mem.initEx (p := .cells [.int .u64 s]) hp) ?_
  intro ac wc T M
  refine wp_seq ?_
  refine wp_region_lit ?_
  refine l_q T rfl rfl rfl rfl (rn_assign rfl evc) ?_; clear T ac; intro ac T
  refine wpList_nil ?_
  replace T := T.pick [1, 2] rfl
  refine nm_then ?_
  refine wp_seq ?_
  refine wp_seq ?_
  refine wp_region_lit ?_
  refine l_q T rfl rfl rfl rfl (rn_move rfl (T.ev 1 rfl)) ?_; clear T ac; intro ac T
  refine l_q T rfl rfl rfl rfl (rn_lenS rfl Try.underlying31 (T.ev 0 rfl)) ?_; clear T ac; intro ac T
  refine l_q T rfl rfl rfl rfl (rn_eql rfl (T.ev 0 rfl) evc) ?_; clear T ac; intro ac T
  refine wpList_nil ?_
  replace T := T.pick [0, 3, 4] rfl
  refine nm_then ?_
  refine wp_if (T.ev 0 rfl) ?_ ?_
  · intro h1
    refine wp_seq ?_
    refine wp_region_lit ?_
    refine l_q T rfl rfl rfl rfl (rn_assign rfl evc) ?_; clear T ac; intro ac T
    refine wpList_nil ?_
    replace T := T.pick [0] rfl
    refine nm_then ?_
    refine wp_ret ?_
    refine rt_then ?_
    refine rt_1 T rfl (T.ev 0 rfl) ?_
    exfalso
    omega
  · intro h1
    refine wp_skip ?_
    refine nm_then ?_
    refine wp_seq ?_
    refine wp_region_lit ?_
    refine l_q T rfl rfl rfl rfl (rn_move rfl (T.ev 2 rfl)) ?_; clear T ac; intro ac T
    refine l_q T rfl rfl rfl rfl (rn_move rfl (T.ev 2 rfl)) ?_; clear T ac; intro ac T
    refine l_q T rfl rfl rfl rfl (rn_move rfl (T.ev 4 rfl)) ?_; clear T ac; intro ac T
    refine l_q T rfl rfl rfl rfl (rn_lenS rfl Try.underlying31 (T.ev 0 rfl)) ?_; clear T ac; intro ac T
    refine l_q T rfl rfl rfl rfl (rn_sub rfl (T.ev 0 rfl) evc (by omega)) ?_; clear T ac; intro ac T
    refine l_w rfl ?_; intro K hK
    refine ow_call (first := []) (cap := []) T rfl rfl rfl rfl evf (.cons (T.ev 3 rfl) (.cons (T.ev 0 rfl) .nil)) Try.func28 rfl rfl ?_
    refine Calls.mono (upto_any _ bp (((n : Nat) : Int) - 1) _ (by omega) (by omega) (M.nth 0 rfl) hs) ?_
    clear T
    rintro e wc ⟨xu1, su1, hxu1, hsu1, rfl, hgr, hbk⟩
    intro ac T
    replace M := M.callC (cs' := [.int .u64 su1]) .head hgr hbk
    clear hgr hbk
    obtain ⟨ku1, hku1⟩ : ∃ k : Nat, xu1 = (k : Int) := ⟨xu1.toNat, by omega⟩
    obtain ⟨y, hk1, -⟩ := ic_next (l := l) (k := ku1) (by omega)
    refine sh_out hK _ _ ?_; clear hK K
    refine l_q T rfl rfl rfl rfl (rn_indexAddr (size := 1) ku1 rfl (T.ev 5 rfl) (T.ev 0 rfl) ⟨_, Try.underlying31, by kernel_rfl⟩ hku1 (by omega) (SI.at0 (by omega))) ?_; clear T ac; intro ac T
    refine l_q T rfl rfl rfl rfl (rn_cell (Sp.ic0 SI M (List.nil_sublist _) hk1) rfl (T.ev 0 rfl)) ?_; clear T ac; intro ac T
    refine l_q T rfl rfl rfl rfl (rn_assign rfl (T.ev 0 rfl)) ?_; clear T ac; intro ac T
    refine wpList_nil ?_
    replace T := T.pick [0] rfl
    refine nm_then ?_
    refine wp_ret ?_
    refine rt_1 T rfl (T.ev 0 rfl) ?_
    exact ⟨_, _, List.mem_of_getElem? hk1, hsu1, rfl, M.grown, M.nth 0 rfl⟩

set_option maxRecDepth 100000 in
set_option maxHeartbeats 1000000 in
theorem inner_any (s : Int) (bp : Nat) (x0 x1 : Int) (w : World) (h0 : -1000 ≤ x0) (h1 : x0 ≤ x1) (h2 : x1 ≤ 1000) (hp : Bk w bp #[.int .u64 s]) (hs : u64ok s) :
    Calls Try.prog 43 #[.pointer (some ⟨bp, 0, none⟩), .agg #[.int .i64 x0, .int .i64 x1]] w (PotPost bp (fun n => x0 ≤ n ∧ n ≤ x1) .i64 w) := by
  refine px_enter (fun b => b = bp) Try.func43 rfl 18 rfl [.pointer (some ⟨bp, 0, none⟩), .agg #[.int .i64 x0, .int .i64 x1]] rfl rfl (Mem.initEx (p := .cells [.int .u64 s]) hp) ?_
  intro ac wc T M
  refine wp_seq ?_
  refine wp_region_lit ?_
  refine l_w rfl ?_; intro K hK
  refine ow_bx M T rfl rfl rfl rfl (T.ev 1 rfl) rfl ?_; clear M T; intro g1 wc ac M T
  refine sh_out hK _ _ ?_; clear hK K
  refine l_q T rfl rfl rfl rfl (rn_assign rfl evc) ?_; clear T ac; intro ac T
  refine wpList_nil ?_
  replace T := T.pick [1, 2] rfl
  refine nm_then ?_
  refine wp_seq ?_
  refine g_start2 M (M.perm [0] rfl rfl) 14 (by kernel_rfl) rfl (by kernel_rfl) ?_
  clear M; intro wc M
  refine g_addG 10 M ?_
  refine g_q (T := T) (i := 0) rfl (by kernel_rfl) (by kernel_rfl : (pbits 14 0).setIfInBounds 0 true = pbits 14 1) (si_and (si_G rfl) si_U) (fun _ _ _ h => h) rfl rfl rfl rfl (fun _ _ _ _ _ => (rn_move rfl (T.ev 1 rfl))) ?_; clear T ac; intro ac T
  refine g_q (v := (.pointer (some ⟨g1, 0, none⟩))) (T := T) (i := 1) rfl (by kernel_rfl) (by kernel_rfl : (pbits 14 1).setIfInBounds 1 true = pbits 14 3) (si_and (si_G rfl) si_U) (fun _ _ _ h => h) rfl rfl rfl rfl (fun _ _ _ _ _ => (rn_fieldAddr (off := 0) rfl (T.ev 1 rfl) (fun _ _ _ => by kernel_rfl))) ?_; clear T ac; intro ac T
  refine g_q (T := T) (i := 2) rfl (by kernel_rfl) (by kernel_rfl : (pbits 14 3).setIfInBounds 2 true = pbits 14 7) (si_and (si_G rfl) si_U) (fun _ _ _ h => h) rfl rfl rfl rfl (fun B w' hD hl hS => (rn_one (Mem.nth (show Mem w (fun b => b = bp) w' _ from (MA.rgt hS)) 0 rfl) rfl (T.ev 0 rfl) rfl)) ?_; clear T ac; intro ac T
  refine g_q (v := (.pointer (some ⟨g1, 1, none⟩))) (T := T) (i := 3) rfl (by kernel_rfl) (by kernel_rfl : (pbits 14 7).setIfInBounds 3 true = pbits 14 15) (si_and (si_G rfl) si_U) (fun _ _ _ h => h) rfl rfl rfl rfl (fun _ _ _ _ _ => (rn_fieldAddr (off := 1) rfl (T.ev 3 rfl) (fun _ _ _ => by kernel_rfl))) ?_; clear T ac; intro ac T
  refine g_q (T := T) (i := 4) rfl (by kernel_rfl) (by kernel_rfl : (pbits 14 15).setIfInBounds 4 true = pbits 14 31) (si_and (si_G rfl) si_U) (fun _ _ _ h => h) rfl rfl rfl rfl (fun B w' hD hl hS => (rn_one (Mem.nth (show Mem w (fun b => b = bp) w' _ from (MA.rgt hS)) 0 rfl) rfl (T.ev 0 rfl) rfl)) ?_; clear T ac; intro ac T
  refine g_q (T := T) (i := 5) rfl (by kernel_rfl) (by kernel_rfl : (pbits 14 31).setIfInBounds 5 true = pbits 14 63) (si_and (si_G rfl) si_U) (fun _ _ _ h => h) rfl rfl rfl rfl (fun _ _ _ _ _ => (rn_move rfl (T.ev 6 rfl))) ?_; clear T ac; intro ac T
  refine g_q (v := (.pointer (some ⟨g1, 0, none⟩))) (T := T) (i := 6) rfl (by kernel_rfl) (by kernel_rfl : (pbits 14 63).setIfInBounds 6 true = pbits 14 127) (si_and (si_G rfl) si_U) (fun _ _ _ h => h) rfl rfl rfl rfl (fun _ _ _ _ _ => (rn_fieldAddr (off := 0) rfl (T.ev 6 rfl) (fun _ _ _ => by kernel_rfl))) ?_; clear T ac; intro ac T
  refine g_q (T := T) (i := 7) rfl (by kernel_rfl) (by kernel_rfl : (pbits 14 127).setIfInBounds 7 true = pbits 14 255) (si_and (si_G rfl) si_U) (fun _ _ _ h => h) rfl rfl rfl rfl (fun B w' hD hl hS => (rn_one (Mem.nth (show Mem w (fun b => b = bp) w' _ from ((MA.lft hS) (hD.wait (i := 7) (m := 10) (by kernel_rfl) hl))) 0 rfl) rfl (T.ev 0 rfl) rfl)) ?_; clear T ac; intro ac T
  refine g_q (v := (.pointer (some ⟨g1, 1, none⟩))) (T := T) (i := 8) rfl (by kernel_rfl) (by kernel_rfl : (pbits 14 255).setIfInBounds 8 true = pbits 14 511) (si_and (si_G rfl) si_U) (fun _ _ _ h => h) rfl rfl rfl rfl (fun _ _ _ _ _ => (rn_fieldAddr (off := 1) rfl (T.ev 8 rfl) (fun _ _ _ => by kernel_rfl))) ?_; clear T ac; intro ac T
  refine g_q (T := T) (i := 9) rfl (by kernel_rfl) (by kernel_rfl : (pbits 14 511).setIfInBounds 9 true = pbits 14 1023) (si_and (si_G rfl) si_U) (fun _ _ _ h => h) rfl rfl rfl rfl (fun B w' hD hl hS => (rn_one (Mem.nth (show Mem w (fun b => b = bp) w' _ from ((MA.lft hS) (hD.wait (i := 9) (m := 10) (by kernel_rfl) hl))) 0 rfl) rfl (T.ev 0 rfl) rfl)) ?_; clear T ac; intro ac T
  refine g_w (i := 10) (by kernel_rfl) rfl (by kernel_rfl : (pbits 14 1023).setIfInBounds 10 true = pbits 14 2047) rfl ?_; intro K hK
  refine ow_call (first := []) (cap := []) T rfl rfl rfl rfl evf (.cons (T.ev 4 rfl) (.cons (T.ev 2 rfl) (.cons (T.ev 0 rfl) .nil))) Try.func38 rfl rfl ?_
  refine Calls.mono (within_pot _ bp x0 x1 _ (by omega) (by omega) (by omega) (M.nth 1 rfl) hs) ?_
  clear T
  rintro e wc ⟨xu1, su1, hxu1, hsu1, rfl, hgr, hbk⟩
  intro ac T
  replace M := M.callC (cs' := [.int .u64 su1]) (.tail .head) hgr hbk
  clear hgr hbk
  refine sh_out hK _ _ (MA.mk (fun h => (no_of (by kernel_rfl) h).elim) (M.mask [true, false] rfl)) ?_; clear hK K
  refine g_w (i := 11) (by kernel_rfl) rfl (by kernel_rfl : (pbits 14 2047).setIfInBounds 11 true = pbits 14 4095) rfl ?_; intro K hK
  refine ow_bs (e := 3) [.int .i64 x0, .int .i64 x1, .int .i64 xu1] M T rfl rfl rfl rfl (.cons (T.ev 8 rfl) (.cons (T.ev 6 rfl) (.cons (T.ev 0 rfl) .nil))) (fun _ => by kernel_rfl) ?_; clear M T; intro g2 wc ac M T
  refine sh_out hK _ _ (MA.mk (fun h => (no_of (by kernel_rfl) h).elim) (M.mask [false, true, false] rfl)) ?_; clear hK K
  refine g_w (i := 12) (by kernel_rfl) rfl (by kernel_rfl : (pbits 14 4095).setIfInBounds 12 true = pbits 14 8191) rfl ?_; intro K hK
  refine ow_call (first := []) (cap := []) T rfl rfl rfl rfl evf (.cons (T.ev 11 rfl) (.cons (T.ev 0 rfl) .nil)) Try.func60 rfl rfl ?_
  refine Calls.mono (of_any _ bp _ 3 3 [x0, x1, xu1] _ (M.rdOwn (nthE_mem (i := 0) rfl) rfl rfl) (M.nee 0 2 rfl rfl rfl) (by decide) (by decide) (M.nth 2 rfl) hsu1) ?_
  clear T
  rintro e wc ⟨xu2, su2, hxu2, hsu2, rfl, hgr, hbk⟩
  intro ac T
  replace M := M.callC (cs' := [.int .u64 su2]) (.tail (.tail .head)) hgr hbk
  clear hgr hbk
  simp only [List.mem_cons, List.not_mem_nil, or_false] at hxu2
  refine sh_out hK _ _ (MA.mk (fun h => (no_of (by kernel_rfl) h).elim) (M.mask [false, true, false] rfl)) ?_; clear hK K
  refine g_q (T := T) (i := 13) rfl (by kernel_rfl) (by kernel_rfl : (pbits 14 8191).setIfInBounds 13 true = pbits 14 16383) (si_and (si_G rfl) si_U) (fun _ _ _ h => h) rfl rfl rfl rfl (fun _ _ _ _ _ => (rn_assign rfl (T.ev 0 rfl))) ?_; clear T ac; intro ac T
  refine g_done (by kernel_rfl) ?_
  replace T := T.pick [0] rfl
  replace M := M.mask [false, false, true] rfl
  refine nm_then ?_
  refine wp_ret ?_
  refine rt_1 T rfl (T.ev 0 rfl) ?_
  exact ⟨_, _, (by omega), hsu2, rfl, M.grown, M.nth 0 rfl⟩

def NarrowPost (bp : Nat) (x0 x1 n : Int) (w : World) (e : Ending) (w' : World) : Prop := ∃ a b s' : Int, (x0 ≤ a ∧ a ≤ n ∧ n ≤ b ∧ b ≤ x1) ∧ u64ok s' ∧ e = .returned (R2 a b) ∧ w.grownBy w' (some bp) ∧ Bk w' bp #[.int .u64 s']

set_option maxRecDepth 100000 in
set_option maxHeartbeats 1000000 in
theorem narrow_any (s : Int) (bp : Nat) (x0 x1 n : Int) (w : World) (h0 : -1000 ≤ x0) (h1 : x0 ≤ n) (h2 : n ≤ x1) (h3 : x1 ≤ 1000) (hp : Bk w bp #[.int .u64 s]) (hs : u64ok s) :
    Calls Try.prog 42 #[.pointer (some ⟨bp, 0, none⟩), .agg #[.int .i64 x0, .int .i64 x1], .int .i64 n] w (NarrowPost bp x0 x1 n w) := by
  refine px_enter (fun b => b = bp) Try.func42 rfl 30 rfl [.pointer (some ⟨bp, 0, none⟩), .agg #[.int .i64 x0, .int .i64 x1], .int .i64 n] rfl rfl (Mem.initEx (p := .cells [.int .u64 s]) hp) ?_
  intro ac wc T M
  refine wp_seq ?_
  refine wp_region_lit ?_
  refine l_w rfl ?_; intro K hK
  refine ow_bx M T rfl rfl rfl rfl (T.ev 1 rfl) rfl ?_; clear M T; intro g1 wc ac M T
  refine sh_out hK _ _ ?_; clear hK K
  refine l_w rfl ?_; intro K hK
  refine ow_al M T rfl rfl rfl rfl ?_; clear M T; intro g2 wc ac M T
  refine sh_out hK _ _ ?_; clear hK K
  refine wpList_nil ?_
  replace T := T.pick [0, 1, 2, 4] rfl
  refine nm_then ?_
  refine wp_seq ?_
  refine g_start2 M (M.perm [1] rfl rfl) 24 (by kernel_rfl) rfl (by kernel_rfl) ?_
  clear M; intro wc M
  refine g_addG 8 M ?_
  refine g_addG 23 (M.perm [0, 1] rfl rfl) ?_
  refine g_q (T := T) (i := 0) rfl (by kernel_rfl) (by kernel_rfl : (pbits 24 0).setIfInBounds 0 true = pbits 24 1) (si_and (si_G rfl) (si_and (si_G rfl) si_U)) (fun _ _ _ h => h) rfl rfl rfl rfl (fun _ _ _ _ _ => (rn_move rfl (T.ev 2 rfl))) ?_; clear T ac; intro ac T
  refine g_q (v := (.pointer (some ⟨g1, 0, none⟩))) (T := T) (i := 1) rfl (by kernel_rfl) (by kernel_rfl : (pbits 24 1).setIfInBounds 1 true = pbits 24 3) (si_and (si_G rfl) (si_and (si_G rfl) si_U)) (fun _ _ _ h => h) rfl rfl rfl rfl (fun _ _ _ _ _ => (rn_fieldAddr (off := 0) rfl (T.ev 2 rfl) (fun _ _ _ => by kernel_rfl))) ?_; clear T ac; intro ac T
  refine g_q (T := T) (i := 2) rfl (by kernel_rfl) (by kernel_rfl : (pbits 24 3).setIfInBounds 2 true = pbits 24 7) (si_and (si_G rfl) (si_and (si_G rfl) si_U)) (fun _ _ _ h => h) rfl rfl rfl rfl (fun B w' hD hl hS => (rn_one (Mem.nth (show Mem w (fun b => b = bp) w' _ from ((MA.lft hS) (hD.wait (i := 2) (m := 23) (by kernel_rfl) hl))) 1 rfl) rfl (T.ev 0 rfl) rfl)) ?_; clear T ac; intro ac T
  refine g_q (T := T) (i := 3) rfl (by kernel_rfl) (by kernel_rfl : (pbits 24 7).setIfInBounds 3 true = pbits 24 15) (si_and (si_G rfl) (si_and (si_G rfl) si_U)) (fun _ _ _ h => h) rfl rfl rfl rfl (fun _ _ _ _ _ => (rn_move rfl (T.ev 6 rfl))) ?_; clear T ac; intro ac T
  refine g_q (T := T) (i := 4) rfl (by kernel_rfl) (by kernel_rfl : (pbits 24 15).setIfInBounds 4 true = pbits 24 31) (si_and (si_G rfl) (si_and (si_G rfl) si_U)) (fun _ _ _ h => h) rfl rfl rfl rfl (fun _ _ _ _ _ => (rn_move rfl (T.ev 6 rfl))) ?_; clear T ac; intro ac T
  refine g_q (v := (.pointer (some ⟨g1, 0, none⟩))) (T := T) (i := 5) rfl (by kernel_rfl) (by kernel_rfl : (pbits 24 31).setIfInBounds 5 true = pbits 24 63) (si_and (si_G rfl) (si_and (si_G rfl) si_U)) (fun _ _ _ h => h) rfl rfl rfl rfl (fun _ _ _ _ _ => (rn_fieldAddr (off := 0) rfl (T.ev 6 rfl) (fun _ _ _ => by kernel_rfl))) ?_; clear T ac; intro ac T
  refine g_q (T := T) (i := 6) rfl (by kernel_rfl) (by kernel_rfl : (pbits 24 63).setIfInBounds 6 true = pbits 24 127) (si_and (si_G rfl) (si_and (si_G rfl) si_U)) (fun _ _ _ h => h) rfl rfl rfl rfl (fun B w' hD hl hS => (rn_one (Mem.nth (show Mem w (fun b => b = bp) w' _ from ((MA.lft hS) (hD.wait (i := 6) (m := 23) (by kernel_rfl) hl))) 1 rfl) rfl (T.ev 0 rfl) rfl)) ?_; clear T ac; intro ac T
  refine g_q (T := T) (i := 7) rfl (by kernel_rfl) (by kernel_rfl : (pbits 24 127).setIfInBounds 7 true = pbits 24 255) (si_and (si_G rfl) (si_and (si_G rfl) si_U)) (fun _ _ _ h => h) rfl rfl rfl rfl (fun _ _ _ _ _ => (rn_move rfl (T.ev 10 rfl))) ?_; clear T ac; intro ac T
  refine g_q (T := T) (i := 11) rfl (by kernel_rfl) (by kernel_rfl : (pbits 24 255).setIfInBounds 11 true = pbits 24 2303) (si_and (si_G rfl) (si_and (si_G rfl) si_U)) (fun _ _ _ h => h) rfl rfl rfl rfl (fun _ _ _ _ _ => (rn_move rfl (T.ev 10 rfl))) ?_; clear T ac; intro ac T
  refine g_q (v := (.pointer (some ⟨g1, 1, none⟩))) (T := T) (i := 12) rfl (by kernel_rfl) (by kernel_rfl : (pbits 24 2303).setIfInBounds 12 true = pbits 24 6399) (si_and (si_G rfl) (si_and (si_G rfl) si_U)) (fun _ _ _ h => h) rfl rfl rfl rfl (fun _ _ _ _ _ => (rn_fieldAddr (off := 1) rfl (T.ev 10 rfl) (fun _ _ _ => by kernel_rfl))) ?_; clear T ac; intro ac T
  refine g_q (T := T) (i := 13) rfl (by kernel_rfl) (by kernel_rfl : (pbits 24 6399).setIfInBounds 13 true = pbits 24 14591) (si_and (si_G rfl) (si_and (si_G rfl) si_U)) (fun _ _ _ h => h) rfl rfl rfl rfl (fun B w' hD hl hS => (rn_one (Mem.nth (show Mem w (fun b => b = bp) w' _ from ((MA.lft hS) (hD.wait (i := 13) (m := 23) (by kernel_rfl) hl))) 1 rfl) rfl (T.ev 0 rfl) rfl)) ?_; clear T ac; intro ac T
  refine g_q (T := T) (i := 14) rfl (by kernel_rfl) (by kernel_rfl : (pbits 24 14591).setIfInBounds 14 true = pbits 24 30975) (si_and (si_G rfl) (si_and (si_G rfl) si_U)) (fun _ _ _ h => h) rfl rfl rfl rfl (fun _ _ _ _ _ => (rn_move rfl (T.ev 14 rfl))) ?_; clear T ac; intro ac T
  refine g_q (T := T) (i := 15) rfl (by kernel_rfl) (by kernel_rfl : (pbits 24 30975).setIfInBounds 15 true = pbits 24 63743) (si_and (si_G rfl) (si_and (si_G rfl) si_U)) (fun _ _ _ h => h) rfl rfl rfl rfl (fun _ _ _ _ _ => (rn_move rfl (T.ev 14 rfl))) ?_; clear T ac; intro ac T
  refine g_q (T := T) (i := 16) rfl (by kernel_rfl) (by kernel_rfl : (pbits 24 63743).setIfInBounds 16 true = pbits 24 129279) (si_and (si_G rfl) (si_and (si_G rfl) si_U)) (fun _ _ _ h => h) rfl rfl rfl rfl (fun _ _ _ _ _ => (rn_move rfl (T.ev 16 rfl))) ?_; clear T ac; intro ac T
  refine g_q (v := (.pointer (some ⟨g1, 1, none⟩))) (T := T) (i := 17) rfl (by kernel_rfl) (by kernel_rfl : (pbits 24 129279).setIfInBounds 17 true = pbits 24 260351) (si_and (si_G rfl) (si_and (si_G rfl) si_U)) (fun _ _ _ h => h) rfl rfl rfl rfl (fun _ _ _ _ _ => (rn_fieldAddr (off := 1) rfl (T.ev 15 rfl) (fun _ _ _ => by kernel_rfl))) ?_; clear T ac; intro ac T
  refine g_q (T := T) (i := 18) rfl (by kernel_rfl) (by kernel_rfl : (pbits 24 260351).setIfInBounds 18 true = pbits 24 522495) (si_and (si_G rfl) (si_and (si_G rfl) si_U)) (fun _ _ _ h => h) rfl rfl rfl rfl (fun B w' hD hl hS => (rn_one (Mem.nth (show Mem w (fun b => b = bp) w' _ from ((MA.lft hS) (hD.wait (i := 18) (m := 23) (by kernel_rfl) hl))) 1 rfl) rfl (T.ev 0 rfl) rfl)) ?_; clear T ac; intro ac T
  refine g_w (i := 8) (by kernel_rfl) rfl (by kernel_rfl : (pbits 24 522495).setIfInBounds 8 true = pbits 24 522751) rfl ?_; intro K hK
  refine ow_call (first := []) (cap := []) T rfl rfl rfl rfl evf (.cons (T.ev 11 rfl) (.cons (T.ev 9 rfl) (.cons (T.ev 8 rfl) .nil))) Try.func38 rfl rfl ?_
  refine Calls.mono (within_pot _ bp x0 n _ (by omega) (by omega) (by omega) (M.nth 2 rfl) hs) ?_
  clear T
  rintro e wc ⟨xu1, su1, hxu1, hsu1, rfl, hgr, hbk⟩
  intro ac T
  replace M := M.callC (cs' := [.int .u64 su1]) (.tail (.tail .head)) hgr hbk
  clear hgr hbk
  refine sh_out hK _ _ (MA.mk (fun _ => M.mask [true, true, false] rfl) (MA.mk (fun h => (no_of (by kernel_rfl) h).elim) (M.mask [false, true, false] rfl))) ?_; clear hK K
  refine g_w (i := 9) (by kernel_rfl) rfl (by kernel_rfl : (pbits 24 522751).setIfInBounds 9 true = pbits 24 523263) rfl ?_; intro K hK
  refine ow_bs (e := 3) [.int .i64 x0, .int .i64 n, .int .i64 xu1] M T rfl rfl rfl rfl (.cons (T.ev 14 rfl) (.cons (T.ev 13 rfl) (.cons (T.ev 0 rfl) .nil))) (fun _ => by kernel_rfl) ?_; clear M T; intro g3 wc ac M T
  refine sh_out hK _ _ (MA.mk (fun _ => M.mask [false, true, true, false] rfl) (MA.mk (fun h => (no_of (by kernel_rfl) h).elim) (M.mask [false, false, true, false] rfl))) ?_; clear hK K
  refine g_w (i := 10) (by kernel_rfl) rfl (by kernel_rfl : (pbits 24 523263).setIfInBounds 10 true = pbits 24 524287) rfl ?_; intro K hK
  refine ow_call (first := []) (cap := []) T rfl rfl rfl rfl evf (.cons (T.ev 17 rfl) (.cons (T.ev 0 rfl) .nil)) Try.func60 rfl rfl ?_
  refine Calls.mono (of_any _ bp _ 3 3 [x0, n, xu1] _ (M.rdOwn (nthE_mem (i := 0) rfl) rfl rfl) (M.nee 0 3 rfl rfl rfl) (by decide) (by decide) (M.nth 3 rfl) hsu1) ?_
  clear T
  rintro e wc ⟨xu2, su2, hxu2, hsu2, rfl, hgr, hbk⟩
  intro ac T
  replace M := M.callC (cs' := [.int .u64 su2]) (.tail (.tail (.tail .head))) hgr hbk
  clear hgr hbk
  simp only [List.mem_cons, List.not_mem_nil, or_false] at hxu2
  refine sh_out hK _ _ (MA.mk (fun _ => M.mask [false, true, true, false] rfl) (MA.mk (fun h => (no_of (by kernel_rfl) h).elim) (M.mask [false, false, true, false] rfl))) ?_; clear hK K
  refine g_w (i := 19) (by kernel_rfl) rfl (by kernel_rfl : (pbits 24 524287).setIfInBounds 19 true = pbits 24 1048575) rfl ?_; intro K hK
  refine ow_call (first := []) (cap := []) T rfl rfl rfl rfl evf (.cons (T.ev 6 rfl) (.cons (T.ev 5 rfl) (.cons (T.ev 3 rfl) .nil))) Try.func38 rfl rfl ?_
  refine Calls.mono (within_pot _ bp n x1 _ (by omega) (by omega) (by omega) (M.nth 3 rfl) hsu2) ?_
  clear T
  rintro e wc ⟨xu3, su3, hxu3, hsu3, rfl, hgr, hbk⟩
  intro ac T
  replace M := M.callC (cs' := [.int .u64 su3]) (.tail (.tail (.tail .head))) hgr hbk
  clear hgr hbk
  refine sh_out hK _ _ (MA.mk (fun _ => M.mask [false, true, true, false] rfl) (MA.mk (fun h => (no_of (by kernel_rfl) h).elim) (M.mask [false, false, true, false] rfl))) ?_; clear hK K
  refine g_w (i := 20) (by kernel_rfl) rfl (by kernel_rfl : (pbits 24 1048575).setIfInBounds 20 true = pbits 24 2097151) rfl ?_; intro K hK
  refine ow_bs (e := 3) [.int .i64 x1, .int .i64 n, .int .i64 xu3] M T rfl rfl rfl rfl (.cons (T.ev 9 rfl) (.cons (T.ev 8 rfl) (.cons (T.ev 0 rfl) .nil))) (fun _ => by kernel_rfl) ?_; clear M T; intro g4 wc ac M T
  refine sh_out hK _ _ (MA.mk (fun _ => M.mask [false, false, true, true, false] rfl) (MA.mk (fun h => (no_of (by kernel_rfl) h).elim) (M.mask [false, false, false, true, false] rfl))) ?_; clear hK K
  refine g_w (i := 21) (by kernel_rfl) rfl (by kernel_rfl : (pbits 24 2097151).setIfInBounds 21 true = pbits 24 4194303) rfl ?_; intro K hK
  refine ow_call (first := []) (cap := []) T rfl rfl rfl rfl evf (.cons (T.ev 12 rfl) (.cons (T.ev 0 rfl) .nil)) Try.func60 rfl rfl ?_
  refine Calls.mono (of_any _ bp _ 3 3 [x1, n, xu3] _ (M.rdOwn (nthE_mem (i := 0) rfl) rfl rfl) (M.nee 0 4 rfl rfl rfl) (by decide) (by decide) (M.nth 4 rfl) hsu3) ?_
  clear T
  rintro e wc ⟨xu4, su4, hxu4, hsu4, rfl, hgr, hbk⟩
  intro ac T
  replace M := M.callC (cs' := [.int .u64 su4]) (.tail (.tail (.tail (.tail .head)))) hgr hbk
  clear hgr hbk
  simp only [List.mem_cons, List.not_mem_nil, or_false] at hxu4
  refine sh_out hK _ _ (MA.mk (fun _ => M.mask [false, false, true, true, false] rfl) (MA.mk (fun h => (no_of (by kernel_rfl) h).elim) (M.mask [false, false, false, true, false] rfl))) ?_; clear hK K
  refine g_q (v := (.agg #[.int .i64 xu2, .int .i64 xu4])) (T := T) (i := 22) rfl (by kernel_rfl) (by kernel_rfl : (pbits 24 4194303).setIfInBounds 22 true = pbits 24 8388607) (si_and (si_G rfl) (si_and (si_G rfl) si_U)) (fun _ _ _ h => h) rfl rfl rfl rfl (fun _ _ _ _ _ => (rn_build rfl (.cons (T.ev 3 rfl) (.cons (T.ev 0 rfl) .nil)) (fun _ => by kernel_rfl))) ?_; clear T ac; intro ac T
  refine g_w (i := 23) (by kernel_rfl) rfl (by kernel_rfl : (pbits 24 8388607).setIfInBounds 23 true = pbits 24 16777215) rfl ?_; intro K hK
  refine ow_stO M T rfl rfl (T.ev 23 rfl) (T.ev 0 rfl) rfl (.tail (.tail .head)) rfl (by simp) rfl (by kernel_rfl) ?_; clear M T; intro wc ac M T
  refine sh_out hK _ _ (MA.mk (fun h => (no_of (by kernel_rfl) h).elim) (MA.mk (fun h => (no_of (by kernel_rfl) h).elim) (M.mask [false, false, false, true, false] rfl))) ?_; clear hK K
  refine g_done (by kernel_rfl) ?_
  replace T := T.pick [23] rfl
  replace M := M.mask [false, false, true, false, true] rfl
  refine nm_then ?_
  refine wp_ret ?_
  refine rt_c M T rfl (T.ev 0 rfl) (nthE_mem (i := 0) rfl) rfl ?_
  exact ⟨_, _, _, (by omega), hsu4, rfl, M.grown, M.nth 1 rfl⟩

theorem Try.info23 : (Try.prog.info? 23).map (fun i => (i.zero, i.size, i.bytes)) = some (some (.agg #[.int .i64 0, .int .i64 0]), 2, 16) := by kernel_rfl

theorem Try.info3 : (Try.prog.info? 3).map (fun i => (i.zero, i.size, i.bytes)) = some (some (.int .i64 0), 1, 8) := by kernel_rfl

/-- What is so of every job that is made of numbers. -/
structure Jb.made (j : Jb) (wd ls : Int) : Prop where
  p : -60 ≤ j.p0 ∧ -16 - wd ≤ j.p0 ∧ j.p0 ≤ j.p1 ∧ j.p1 ≤ 16 + wd ∧ j.p1 ≤ 60 ∧ j.p1 - j.p0 ≤ 2 * wd
  t : 18 ≤ j.t0 ∧ j.t0 ≤ j.t1 ∧ j.t1 ≤ 42
  r : 18 ≤ j.r0 ∧ j.r0 ≤ j.r1 ∧ j.r1 ≤ 42
  u : 0 ≤ j.u0 ∧ j.u0 ≤ j.u1 ∧ j.u1 ≤ 12 ∧ j.u1 ≤ 6 + ls ∧ j.u1 - j.u0 ≤ 2 * ls
  d : 0 ≤ j.d0 ∧ j.d0 ≤ j.d1 ∧ j.d1 ≤ 12 ∧ j.d1 ≤ 6 + ls ∧ j.d1 - j.d0 ≤ 2 * ls
  a : 0 ≤ j.a0 ∧ j.a0 ≤ j.a1 ∧ j.a1 ≤ 5
  b : 0 ≤ j.b0 ∧ j.b0 ≤ j.b1 ∧ j.b1 ≤ 5
  le : 10 ≤ j.le ∧ j.le ≤ 30
  few : j.sh.length ≤ 3
  sh : ∀ q ∈ j.sh, -5 ≤ q.1 ∧ q.1 ≤ q.2 ∧ q.2 ≤ 5
  wi : 1 ≤ j.wi ∧ j.wi ≤ 6
  me : 0 ≤ j.me ∧ j.me ≤ 3
theorem Jb.made.good {j : Jb} {wd ls : Int} (h : j.made wd ls) : j.good := by
  obtain ⟨h1, h2, h3, h4, h5, h6, h7, h8, h9, h10, h11, h12⟩ := h
  exact ⟨by omega, by omega, by omega, by omega, by omega, by omega, by omega, by omega, by omega, fun p hp => by have := h10 p hp; omega, by omega, by omega⟩
def JobOfPost (bp : Nat) (wd ls : Int) (w : World) (e : Ending) (w' : World) : Prop :=
  ∃ (j : Jb) (A : Option Addr) (c : Nat) (s : Int) (I : List (Nat × BA)), e = .returned (jobV j A c) ∧ j.made wd ls ∧ u64ok s ∧ Sl 23 2 (.slice A j.sh.length c) j.sh.length (rc j.sh) I ∧ Mem w (fun b => b = bp) w' (I ++ [(bp, .cells [.int .u64 s])])
theorem rc_snoc (l : List (Int × Int)) (x y : Int) : rc l ++ [.int .i64 x, .int .i64 y] = rc (l ++ [(x, y)]) := by rw [rc_append]; rfl


set_option maxRecDepth 100000 in
set_option maxHeartbeats 1000000 in
theorem jobOf_any (s : Int) (bp : Nat) (wd ls : Int) (w : World) (hw0 : 0 ≤ wd) (hw1 : wd ≤ 40) (hl0 : 0 ≤ ls) (hl1 : ls ≤ 40) (hp : Bk w bp #[.int .u64 s]) (hs : u64ok s) :
    Calls Try.prog 17 #[.pointer (some ⟨bp, 0, none⟩), .int .i64 wd, .int .i64 ls] w (JobOfPost bp wd ls w) := by
  refine px_enter (fun b => b = bp) Try.func17 rfl 84 rfl [.pointer (some ⟨bp, 0, none⟩), .int .i64 wd, .int .i64 ls] rfl rfl (Mem.initEx (p := .cells [.int .u64 s]) hp) ?_
  intro ac wc T M
  refine wp_seq ?_
  refine wp_region_lit ?_
  refine l_w rfl ?_; intro K hK
  refine ow_al M T rfl rfl rfl rfl ?_; clear M T; intro g1 wc ac M T
  refine sh_out hK _ _ ?_; clear hK K
  refine wpList_nil ?_
  refine nm_then ?_
  refine wp_seq ?_
  refine wp_region_lit ?_
  refine l_q T rfl rfl rfl rfl (rn_move rfl (T.ev 1 rfl)) ?_; clear T ac; intro ac T
  refine l_w rfl ?_; intro K hK
  refine ow_call (first := []) (cap := []) T rfl rfl rfl rfl evf (.cons (T.ev 0 rfl) (.cons evc (.cons evc .nil))) Try.func38 rfl rfl ?_
  refine Calls.mono (within_pot _ bp 1 6 _ (by omega) (by omega) (by omega) (M.nth 1 rfl) hs) ?_
  clear T
  rintro e wc ⟨xu1, su1, hxu1, hsu1, rfl, hgr, hbk⟩
  intro ac T
  replace M := M.callC (cs' := [.int .u64 su1]) (.tail .head) hgr hbk
  clear hgr hbk
  refine sh_out hK _ _ ?_; clear hK K
  refine l_q T rfl rfl rfl rfl (rn_move rfl (T.ev 3 rfl)) ?_; clear T ac; intro ac T
  refine l_q T rfl rfl rfl rfl (rn_move rfl (T.ev 4 rfl)) ?_; clear T ac; intro ac T
  refine l_w rfl ?_; intro K hK
  refine ow_call (first := []) (cap := []) T rfl rfl rfl rfl evf (.cons (T.ev 0 rfl) (.cons evc .nil)) Try.func28 rfl rfl ?_
  refine Calls.mono (upto_any _ bp 3 _ (by omega) (by omega) (M.nth 1 rfl) hsu1) ?_
  clear T
  rintro e wc ⟨xu2, su2, hxu2, hsu2, rfl, hgr, hbk⟩
  intro ac T
  replace M := M.callC (cs' := [.int .u64 su2]) (.tail .head) hgr hbk
  clear hgr hbk
  refine sh_out hK _ _ ?_; clear hK K
  refine l_w rfl ?_; intro K hK
  refine ow_bs (e := 3) [.int .i64 0, .int .i64 1, .int .i64 xu2] M T rfl rfl rfl rfl (.cons evc (.cons evc (.cons (T.ev 0 rfl) .nil))) (fun _ => by kernel_rfl) ?_; clear M T; intro g2 wc ac M T
  refine sh_out hK _ _ ?_; clear hK K
  refine l_w rfl ?_; intro K hK
  refine ow_call (first := []) (cap := []) T rfl rfl rfl rfl evf (.cons (T.ev 3 rfl) (.cons (T.ev 0 rfl) .nil)) Try.func60 rfl rfl ?_
  refine Calls.mono (of_any _ bp _ 3 3 [0, 1, xu2] _ (M.rdOwn (nthE_mem (i := 0) rfl) rfl rfl) (M.nee 0 2 rfl rfl rfl) (by decide) (by decide) (M.nth 2 rfl) hsu2) ?_
  clear T
  rintro e wc ⟨xu3, su3, hxu3, hsu3, rfl, hgr, hbk⟩
  intro ac T
  replace M := M.callC (cs' := [.int .u64 su3]) (.tail (.tail .head)) hgr hbk
  clear hgr hbk
  simp only [List.mem_cons, List.not_mem_nil, or_false] at hxu3
  refine sh_out hK _ _ ?_; clear hK K
  refine l_q (v := (.agg #[.int .i64 0, .int .i64 0, .int .i64 0, .int .i64 0, .int .i64 0, .int .i64 0, .int .i64 0, .int .i64 0, .int .i64 0, .int .i64 0, .int .i64 0, .int .i64 0, .int .i64 0, .int .i64 0, .int .i64 0, .slice none 0 0, .int .i64 xu1, .int .i64 xu3])) T rfl rfl rfl rfl (rn_build rfl (.cons (T.ev 5 rfl) (.cons (T.ev 0 rfl) .nil)) (fun _ => by kernel_rfl)) ?_; clear T ac; intro ac T
  refine l_w rfl ?_; intro K hK
  refine ow_al M T rfl rfl rfl rfl ?_; clear M T; intro g3 wc ac M T
  refine sh_out hK _ _ ?_; clear hK K
  refine l_w rfl ?_; intro K hK
  refine ow_stO M T rfl rfl (T.ev 0 rfl) (T.ev 1 rfl) rfl .head rfl (by simp) rfl (by kernel_rfl) ?_; clear M T; intro wc ac M T
  refine sh_out hK _ _ ?_; clear hK K
  refine wpList_nil ?_
  replace T := T.pick [0, 9, 10, 11, 12] rfl
  replace M := M.mask [true, false, true, true] rfl
  refine nm_then ?_
  refine wp_seq ?_
  refine wp_region_lit ?_
  refine l_q T rfl rfl rfl rfl (rn_move rfl (T.ev 2 rfl)) ?_; clear T ac; intro ac T
  refine l_w rfl ?_; intro K hK
  refine ow_call (first := []) (cap := []) T rfl rfl rfl rfl evf (.cons (T.ev 0 rfl) (.cons evc (.cons evc .nil))) Try.func38 rfl rfl ?_
  refine Calls.mono (within_pot _ bp (-16) 16 _ (by omega) (by omega) (by omega) (M.nth 2 rfl) hsu3) ?_
  clear T
  rintro e wc ⟨xu4, su4, hxu4, hsu4, rfl, hgr, hbk⟩
  intro ac T
  replace M := M.callC (cs' := [.int .u64 su4]) (.tail (.tail .head)) hgr hbk
  clear hgr hbk
  refine sh_out hK _ _ ?_; clear hK K
  refine l_q T rfl rfl rfl rfl (rn_assign rfl (T.ev 0 rfl)) ?_; clear T ac; intro ac T
  refine wpList_nil ?_
  replace T := T.pick [0, 3, 4, 5, 6, 7] rfl
  refine nm_then ?_
  refine wp_seq ?_
  refine wp_region_lit ?_
  refine l_q T rfl rfl rfl rfl (rn_move rfl (T.ev 3 rfl)) ?_; clear T ac; intro ac T
  refine l_q T rfl rfl rfl rfl (rn_move rfl (T.ev 1 rfl)) ?_; clear T ac; intro ac T
  refine l_q T rfl rfl rfl rfl (rn_move rfl (T.ev 6 rfl)) ?_; clear T ac; intro ac T
  refine l_w rfl ?_; intro K hK
  refine ow_call (first := []) (cap := []) T rfl rfl rfl rfl evf (.cons (T.ev 2 rfl) (.cons (T.ev 1 rfl) (.cons evc (.cons evc (.cons (T.ev 0 rfl) .nil))))) Try.func66 rfl rfl ?_
  refine Calls.mono (near_pot _ bp xu4 (-60) 60 wd _ (by omega) (by omega) (by omega) (by omega) (by omega) (by omega) (M.nth 2 rfl) hsu4) ?_
  clear T
  rintro e wc ⟨xu5, yu5, su5, hxu5, hsu5, rfl, hgr, hbk⟩
  intro ac T
  replace M := M.callC (cs' := [.int .u64 su5]) (.tail (.tail .head)) hgr hbk
  clear hgr hbk
  refine sh_out hK _ _ ?_; clear hK K
  refine l_q (v := (.pointer (some ⟨g3, 0, none⟩))) T rfl rfl rfl rfl (rn_fieldAddr (off := 0) rfl (T.ev 5 rfl) (fun _ _ _ => by kernel_rfl)) ?_; clear T ac; intro ac T
  refine l_q (v := (.pointer (some ⟨g3, 0, none⟩))) T rfl rfl rfl rfl (rn_fieldAddr (off := 0) rfl (T.ev 0 rfl) (fun _ _ _ => by kernel_rfl)) ?_; clear T ac; intro ac T
  refine l_w rfl ?_; intro K hK
  refine ow_stO M T rfl rfl (T.ev 0 rfl) (T.ev 2 rfl) rfl .head rfl (by simp) rfl (by kernel_rfl) ?_; clear M T; intro wc ac M T
  refine sh_out hK _ _ ?_; clear hK K
  refine wpList_nil ?_
  replace T := T.pick [7, 8, 9, 11] rfl
  refine nm_then ?_
  refine wp_seq ?_
  refine wp_region_lit ?_
  refine l_q T rfl rfl rfl rfl (rn_move rfl (T.ev 2 rfl)) ?_; clear T ac; intro ac T
  refine l_q T rfl rfl rfl rfl (rn_move rfl (T.ev 3 rfl)) ?_; clear T ac; intro ac T
  refine l_w rfl ?_; intro K hK
  refine ow_call (first := []) (cap := []) T rfl rfl rfl rfl evf (.cons (T.ev 0 rfl) (.cons evc (.cons evc .nil))) Try.func38 rfl rfl ?_
  refine Calls.mono (within_pot _ bp 20 40 _ (by omega) (by omega) (by omega) (M.nth 2 rfl) hsu5) ?_
  clear T
  rintro e wc ⟨xu6, su6, hxu6, hsu6, rfl, hgr, hbk⟩
  intro ac T
  replace M := M.callC (cs' := [.int .u64 su6]) (.tail (.tail .head)) hgr hbk
  clear hgr hbk
  refine sh_out hK _ _ ?_; clear hK K
  refine l_w rfl ?_; intro K hK
  refine ow_call (first := []) (cap := []) T rfl rfl rfl rfl evf (.cons (T.ev 2 rfl) (.cons (T.ev 0 rfl) (.cons evc (.cons evc (.cons evc .nil))))) Try.func66 rfl rfl ?_
  refine Calls.mono (near_pot _ bp xu6 0 100 2 _ (by omega) (by omega) (by omega) (by omega) (by omega) (by omega) (M.nth 2 rfl) hsu6) ?_
  clear T
  rintro e wc ⟨xu7, yu7, su7, hxu7, hsu7, rfl, hgr, hbk⟩
  intro ac T
  replace M := M.callC (cs' := [.int .u64 su7]) (.tail (.tail .head)) hgr hbk
  clear hgr hbk
  refine sh_out hK _ _ ?_; clear hK K
  refine l_q T rfl rfl rfl rfl (rn_move rfl (T.ev 6 rfl)) ?_; clear T ac; intro ac T
  refine l_q T rfl rfl rfl rfl (rn_move rfl (T.ev 7 rfl)) ?_; clear T ac; intro ac T
  refine l_w rfl ?_; intro K hK
  refine ow_call (first := []) (cap := []) T rfl rfl rfl rfl evf (.cons (T.ev 0 rfl) (.cons evc (.cons evc .nil))) Try.func38 rfl rfl ?_
  refine Calls.mono (within_pot _ bp 20 40 _ (by omega) (by omega) (by omega) (M.nth 2 rfl) hsu7) ?_
  clear T
  rintro e wc ⟨xu8, su8, hxu8, hsu8, rfl, hgr, hbk⟩
  intro ac T
  replace M := M.callC (cs' := [.int .u64 su8]) (.tail (.tail .head)) hgr hbk
  clear hgr hbk
  refine sh_out hK _ _ ?_; clear hK K
  refine l_w rfl ?_; intro K hK
  refine ow_call (first := []) (cap := []) T rfl rfl rfl rfl evf (.cons (T.ev 2 rfl) (.cons (T.ev 0 rfl) (.cons evc (.cons evc (.cons evc .nil))))) Try.func66 rfl rfl ?_
  refine Calls.mono (near_pot _ bp xu8 0 100 2 _ (by omega) (by omega) (by omega) (by omega) (by omega) (by omega) (M.nth 2 rfl) hsu8) ?_
  clear T
  rintro e wc ⟨xu9, yu9, su9, hxu9, hsu9, rfl, hgr, hbk⟩
  intro ac T
  replace M := M.callC (cs' := [.int .u64 su9]) (.tail (.tail .head)) hgr hbk
  clear hgr hbk
  refine sh_out hK _ _ ?_; clear hK K
  refine l_q (v := (.pointer (some ⟨g3, 0, none⟩))) T rfl rfl rfl rfl (rn_fieldAddr (off := 0) rfl (T.ev 8 rfl) (fun _ _ _ => by kernel_rfl)) ?_; clear T ac; intro ac T
  refine l_q (v := (.pointer (some ⟨g3, 2, none⟩))) T rfl rfl rfl rfl (rn_fieldAddr (off := 2) rfl (T.ev 0 rfl) (fun _ _ _ => by kernel_rfl)) ?_; clear T ac; intro ac T
  refine l_w rfl ?_; intro K hK
  refine ow_stO M T rfl rfl (T.ev 0 rfl) (T.ev 6 rfl) rfl .head rfl (by simp) rfl (by kernel_rfl) ?_; clear M T; intro wc ac M T
  refine sh_out hK _ _ ?_; clear hK K
  refine l_q (v := (.pointer (some ⟨g3, 0, none⟩))) T rfl rfl rfl rfl (rn_fieldAddr (off := 0) rfl (T.ev 10 rfl) (fun _ _ _ => by kernel_rfl)) ?_; clear T ac; intro ac T
  refine l_q (v := (.pointer (some ⟨g3, 4, none⟩))) T rfl rfl rfl rfl (rn_fieldAddr (off := 4) rfl (T.ev 0 rfl) (fun _ _ _ => by kernel_rfl)) ?_; clear T ac; intro ac T
  refine l_w rfl ?_; intro K hK
  refine ow_stO M T rfl rfl (T.ev 0 rfl) (T.ev 4 rfl) rfl .head rfl (by simp) rfl (by kernel_rfl) ?_; clear M T; intro wc ac M T
  refine sh_out hK _ _ ?_; clear hK K
  refine wpList_nil ?_
  replace T := T.pick [12, 13, 14, 15] rfl
  refine nm_then ?_
  refine wp_seq ?_
  refine wp_region_lit ?_
  refine l_q T rfl rfl rfl rfl (rn_move rfl (T.ev 2 rfl)) ?_; clear T ac; intro ac T
  refine l_q T rfl rfl rfl rfl (rn_move rfl (T.ev 3 rfl)) ?_; clear T ac; intro ac T
  refine l_w rfl ?_; intro K hK
  refine ow_call (first := []) (cap := []) T rfl rfl rfl rfl evf (.cons (T.ev 0 rfl) (.cons evc (.cons evc .nil))) Try.func38 rfl rfl ?_
  refine Calls.mono (within_pot _ bp 1 6 _ (by omega) (by omega) (by omega) (M.nth 2 rfl) hsu9) ?_
  clear T
  rintro e wc ⟨xu10, su10, hxu10, hsu10, rfl, hgr, hbk⟩
  intro ac T
  replace M := M.callC (cs' := [.int .u64 su10]) (.tail (.tail .head)) hgr hbk
  clear hgr hbk
  refine sh_out hK _ _ ?_; clear hK K
  refine l_q T rfl rfl rfl rfl (rn_move rfl (T.ev 6 rfl)) ?_; clear T ac; intro ac T
  refine l_w rfl ?_; intro K hK
  refine ow_call (first := []) (cap := []) T rfl rfl rfl rfl evf (.cons (T.ev 3 rfl) (.cons (T.ev 1 rfl) (.cons evc (.cons evc (.cons (T.ev 0 rfl) .nil))))) Try.func66 rfl rfl ?_
  refine Calls.mono (near_pot _ bp xu10 0 12 ls _ (by omega) (by omega) (by omega) (by omega) (by omega) (by omega) (M.nth 2 rfl) hsu10) ?_
  clear T
  rintro e wc ⟨xu11, yu11, su11, hxu11, hsu11, rfl, hgr, hbk⟩
  intro ac T
  replace M := M.callC (cs' := [.int .u64 su11]) (.tail (.tail .head)) hgr hbk
  clear hgr hbk
  refine sh_out hK _ _ ?_; clear hK K
  refine l_q T rfl rfl rfl rfl (rn_move rfl (T.ev 7 rfl)) ?_; clear T ac; intro ac T
  refine l_q T rfl rfl rfl rfl (rn_move rfl (T.ev 8 rfl)) ?_; clear T ac; intro ac T
  refine l_w rfl ?_; intro K hK
  refine ow_call (first := []) (cap := []) T rfl rfl rfl rfl evf (.cons (T.ev 0 rfl) (.cons evc (.cons evc .nil))) Try.func38 rfl rfl ?_
  refine Calls.mono (within_pot _ bp 1 6 _ (by omega) (by omega) (by omega) (M.nth 2 rfl) hsu11) ?_
  clear T
  rintro e wc ⟨xu12, su12, hxu12, hsu12, rfl, hgr, hbk⟩
  intro ac T
  replace M := M.callC (cs' := [.int .u64 su12]) (.tail (.tail .head)) hgr hbk
  clear hgr hbk
  refine sh_out hK _ _ ?_; clear hK K
  refine l_q T rfl rfl rfl rfl (rn_move rfl (T.ev 11 rfl)) ?_; clear T ac; intro ac T
  refine l_w rfl ?_; intro K hK
  refine ow_call (first := []) (cap := []) T rfl rfl rfl rfl evf (.cons (T.ev 3 rfl) (.cons (T.ev 1 rfl) (.cons evc (.cons evc (.cons (T.ev 0 rfl) .nil))))) Try.func66 rfl rfl ?_
  refine Calls.mono (near_pot _ bp xu12 0 12 ls _ (by omega) (by omega) (by omega) (by omega) (by omega) (by omega) (M.nth 2 rfl) hsu12) ?_
  clear T
  rintro e wc ⟨xu13, yu13, su13, hxu13, hsu13, rfl, hgr, hbk⟩
  intro ac T
  replace M := M.callC (cs' := [.int .u64 su13]) (.tail (.tail .head)) hgr hbk
  clear hgr hbk
  refine sh_out hK _ _ ?_; clear hK K
  refine l_q (v := (.pointer (some ⟨g3, 6, none⟩))) T rfl rfl rfl rfl (rn_fieldAddr (off := 6) rfl (T.ev 10 rfl) (fun _ _ _ => by kernel_rfl)) ?_; clear T ac; intro ac T
  refine l_q (v := (.pointer (some ⟨g3, 6, none⟩))) T rfl rfl rfl rfl (rn_fieldAddr (off := 0) rfl (T.ev 0 rfl) (fun _ _ _ => by kernel_rfl)) ?_; clear T ac; intro ac T
  refine l_w rfl ?_; intro K hK
  refine ow_stO M T rfl rfl (T.ev 0 rfl) (T.ev 7 rfl) rfl .head rfl (by simp) rfl (by kernel_rfl) ?_; clear M T; intro wc ac M T
  refine sh_out hK _ _ ?_; clear hK K
  refine l_q (v := (.pointer (some ⟨g3, 6, none⟩))) T rfl rfl rfl rfl (rn_fieldAddr (off := 6) rfl (T.ev 12 rfl) (fun _ _ _ => by kernel_rfl)) ?_; clear T ac; intro ac T
  refine l_q (v := (.pointer (some ⟨g3, 8, none⟩))) T rfl rfl rfl rfl (rn_fieldAddr (off := 2) rfl (T.ev 0 rfl) (fun _ _ _ => by kernel_rfl)) ?_; clear T ac; intro ac T
  refine l_w rfl ?_; intro K hK
  refine ow_stO M T rfl rfl (T.ev 0 rfl) (T.ev 4 rfl) rfl .head rfl (by simp) rfl (by kernel_rfl) ?_; clear M T; intro wc ac M T
  refine sh_out hK _ _ ?_; clear hK K
  refine wpList_nil ?_
  replace T := T.pick [14, 15, 16] rfl
  refine nm_then ?_
  refine wp_seq ?_
  refine wp_region_lit ?_
  refine l_q T rfl rfl rfl rfl (rn_move rfl (T.ev 2 rfl)) ?_; clear T ac; intro ac T
  refine l_q T rfl rfl rfl rfl (rn_move rfl (T.ev 3 rfl)) ?_; clear T ac; intro ac T
  refine l_w rfl ?_; intro K hK
  refine ow_call (first := []) (cap := []) T rfl rfl rfl rfl evf (.cons (T.ev 0 rfl) (.cons evc .nil)) Try.func28 rfl rfl ?_
  refine Calls.mono (upto_any _ bp 4 _ (by omega) (by omega) (M.nth 2 rfl) hsu13) ?_
  clear T
  rintro e wc ⟨xu14, su14, hxu14, hsu14, rfl, hgr, hbk⟩
  intro ac T
  replace M := M.callC (cs' := [.int .u64 su14]) (.tail (.tail .head)) hgr hbk
  clear hgr hbk
  refine sh_out hK _ _ ?_; clear hK K
  refine l_w rfl ?_; intro K hK
  refine ow_call (first := []) (cap := []) T rfl rfl rfl rfl evf (.cons (T.ev 2 rfl) (.cons (T.ev 0 rfl) (.cons evc (.cons evc (.cons evc .nil))))) Try.func66 rfl rfl ?_
  refine Calls.mono (near_pot _ bp xu14 0 12 1 _ (by omega) (by omega) (by omega) (by omega) (by omega) (by omega) (M.nth 2 rfl) hsu14) ?_
  clear T
  rintro e wc ⟨xu15, yu15, su15, hxu15, hsu15, rfl, hgr, hbk⟩
  intro ac T
  replace M := M.callC (cs' := [.int .u64 su15]) (.tail (.tail .head)) hgr hbk
  clear hgr hbk
  refine sh_out hK _ _ ?_; clear hK K
  refine l_q T rfl rfl rfl rfl (rn_move rfl (T.ev 6 rfl)) ?_; clear T ac; intro ac T
  refine l_q T rfl rfl rfl rfl (rn_move rfl (T.ev 7 rfl)) ?_; clear T ac; intro ac T
  refine l_w rfl ?_; intro K hK
  refine ow_call (first := []) (cap := []) T rfl rfl rfl rfl evf (.cons (T.ev 0 rfl) (.cons evc .nil)) Try.func28 rfl rfl ?_
  refine Calls.mono (upto_any _ bp 4 _ (by omega) (by omega) (M.nth 2 rfl) hsu15) ?_
  clear T
  rintro e wc ⟨xu16, su16, hxu16, hsu16, rfl, hgr, hbk⟩
  intro ac T
  replace M := M.callC (cs' := [.int .u64 su16]) (.tail (.tail .head)) hgr hbk
  clear hgr hbk
  refine sh_out hK _ _ ?_; clear hK K
  refine l_w rfl ?_; intro K hK
  refine ow_call (first := []) (cap := []) T rfl rfl rfl rfl evf (.cons (T.ev 2 rfl) (.cons (T.ev 0 rfl) (.cons evc (.cons evc (.cons evc .nil))))) Try.func66 rfl rfl ?_
  refine Calls.mono (near_pot _ bp xu16 0 12 1 _ (by omega) (by omega) (by omega) (by omega) (by omega) (by omega) (M.nth 2 rfl) hsu16) ?_
  clear T
  rintro e wc ⟨xu17, yu17, su17, hxu17, hsu17, rfl, hgr, hbk⟩
  intro ac T
  replace M := M.callC (cs' := [.int .u64 su17]) (.tail (.tail .head)) hgr hbk
  clear hgr hbk
  refine sh_out hK _ _ ?_; clear hK K
  refine l_q (v := (.pointer (some ⟨g3, 6, none⟩))) T rfl rfl rfl rfl (rn_fieldAddr (off := 6) rfl (T.ev 8 rfl) (fun _ _ _ => by kernel_rfl)) ?_; clear T ac; intro ac T
  refine l_q (v := (.pointer (some ⟨g3, 10, none⟩))) T rfl rfl rfl rfl (rn_fieldAddr (off := 4) rfl (T.ev 0 rfl) (fun _ _ _ => by kernel_rfl)) ?_; clear T ac; intro ac T
  refine l_w rfl ?_; intro K hK
  refine ow_stO M T rfl rfl (T.ev 0 rfl) (T.ev 6 rfl) rfl .head rfl (by simp) rfl (by kernel_rfl) ?_; clear M T; intro wc ac M T
  refine sh_out hK _ _ ?_; clear hK K
  refine l_q (v := (.pointer (some ⟨g3, 6, none⟩))) T rfl rfl rfl rfl (rn_fieldAddr (off := 6) rfl (T.ev 10 rfl) (fun _ _ _ => by kernel_rfl)) ?_; clear T ac; intro ac T
  refine l_q (v := (.pointer (some ⟨g3, 12, none⟩))) T rfl rfl rfl rfl (rn_fieldAddr (off := 6) rfl (T.ev 0 rfl) (fun _ _ _ => by kernel_rfl)) ?_; clear T ac; intro ac T
  refine l_w rfl ?_; intro K hK
  refine ow_stO M T rfl rfl (T.ev 0 rfl) (T.ev 4 rfl) rfl .head rfl (by simp) rfl (by kernel_rfl) ?_; clear M T; intro wc ac M T
  refine sh_out hK _ _ ?_; clear hK K
  refine wpList_nil ?_
  replace T := T.pick [12, 13, 14] rfl
  refine nm_then ?_
  refine wp_seq ?_
  refine wp_region_lit ?_
  refine l_q T rfl rfl rfl rfl (rn_move rfl (T.ev 2 rfl)) ?_; clear T ac; intro ac T
  refine l_w rfl ?_; intro K hK
  refine ow_call (first := []) (cap := []) T rfl rfl rfl rfl evf (.cons (T.ev 0 rfl) (.cons evc (.cons evc .nil))) Try.func38 rfl rfl ?_
  refine Calls.mono (within_pot _ bp 10 30 _ (by omega) (by omega) (by omega) (M.nth 2 rfl) hsu17) ?_
  clear T
  rintro e wc ⟨xu18, su18, hxu18, hsu18, rfl, hgr, hbk⟩
  intro ac T
  replace M := M.callC (cs' := [.int .u64 su18]) (.tail (.tail .head)) hgr hbk
  clear hgr hbk
  refine sh_out hK _ _ ?_; clear hK K
  refine l_q (v := (.pointer (some ⟨g3, 6, none⟩))) T rfl rfl rfl rfl (rn_fieldAddr (off := 6) rfl (T.ev 2 rfl) (fun _ _ _ => by kernel_rfl)) ?_; clear T ac; intro ac T
  refine l_q (v := (.pointer (some ⟨g3, 14, none⟩))) T rfl rfl rfl rfl (rn_fieldAddr (off := 8) rfl (T.ev 0 rfl) (fun _ _ _ => by kernel_rfl)) ?_; clear T ac; intro ac T
  refine l_w rfl ?_; intro K hK
  refine ow_stO M T rfl rfl (T.ev 0 rfl) (T.ev 2 rfl) rfl .head rfl (by simp) rfl (by kernel_rfl) ?_; clear M T; intro wc ac M T
  refine sh_out hK _ _ ?_; clear hK K
  refine wpList_nil ?_
  replace T := T.pick [4, 5, 6] rfl
  refine nm_then ?_
  refine wp_seq ?_
  refine wp_seq ?_
  refine wp_region_lit ?_
  refine l_q T rfl rfl rfl rfl (rn_move rfl (T.ev 2 rfl)) ?_; clear T ac; intro ac T
  refine l_w rfl ?_; intro K hK
  refine ow_call (first := []) (cap := []) T rfl rfl rfl rfl evf (.cons (T.ev 0 rfl) (.cons evc .nil)) Try.func28 rfl rfl ?_
  refine Calls.mono (upto_any _ bp 3 _ (by omega) (by omega) (M.nth 2 rfl) hsu18) ?_
  clear T
  rintro e wc ⟨xu19, su19, hxu19, hsu19, rfl, hgr, hbk⟩
  intro ac T
  replace M := M.callC (cs' := [.int .u64 su19]) (.tail (.tail .head)) hgr hbk
  clear hgr hbk
  refine sh_out hK _ _ ?_; clear hK K
  refine l_q T rfl rfl rfl rfl (rn_assign rfl (T.ev 0 rfl)) ?_; clear T ac; intro ac T
  refine wpList_nil ?_
  replace T := T.pick [0, 3, 4, 5] rfl
  refine nm_then ?_
  refine wp_block ?_
  obtain ⟨j, M, hsh, hj⟩ : ∃ j : Jb, Mem w (fun b => b = bp) wc [(g3, .cells [.int .i64 j.p0, .int .i64 j.p1, .int .i64 j.t0, .int .i64 j.t1, .int .i64 j.r0, .int .i64 j.r1, .int .i64 j.u0, .int .i64 j.u1, .int .i64 j.d0, .int .i64 j.d1, .int .i64 j.a0, .int .i64 j.a1, .int .i64 j.b0, .int .i64 j.b1, .int .i64 j.le, .slice none 0 0, .int .i64 j.wi, .int .i64 j.me]), (g1, .cells [.int .i64 0, .int .i64 0, .int .i64 0, .int .i64 0, .int .i64 0, .int .i64 0, .int .i64 0, .int .i64 0, .int .i64 0, .int .i64 0, .int .i64 0, .int .i64 0, .int .i64 0, .int .i64 0, .int .i64 0, .slice none 0 0, .int .i64 0, .int .i64 0]), (bp, .cells [.int .u64 su19])] ∧ j.sh = [] ∧ j.made wd ls :=
    ⟨⟨xu5, yu5, xu7, yu7, xu9, yu9, xu11, yu11, xu13, yu13, xu15, yu15, xu17, yu17, xu18, [], xu1, xu3⟩, M.perm [0, 1, 2] rfl rfl, rfl, ⟨by dsimp only; omega, by dsimp only; omega, by dsimp only; omega, by dsimp only; omega, by dsimp only; omega, by dsimp only; omega, by dsimp only; omega, by dsimp only; omega, by simp, by simp, by dsimp only; omega, by dsimp only; omega⟩⟩
  refine wp_loop_n (fun mz ac wc => ∃ (i : Int) (sh : List (Int × Int)) (A : Option Addr) (c : Nat) (s : Int) (I : List (Nat × BA)), mz = i.toNat ∧ (0 ≤ i) ∧ ((sh.length : Int) + i ≤ 3) ∧ (∀ q ∈ sh, -5 ≤ q.1 ∧ q.1 ≤ q.2 ∧ q.2 ≤ 5) ∧ (u64ok s) ∧ (Sl 23 2 (.slice A sh.length c) sh.length (rc sh) I) ∧ Tm ac 84 [(0, .pointer (some ⟨bp, 0, none⟩)), (6, .pointer (some ⟨g1, 0, none⟩)), (7, .pointer (some ⟨g3, 0, none⟩)), (9, .int .i64 i)] ∧ Mem w (fun b => b = bp) wc ((g3, .cells [.int .i64 j.p0, .int .i64 j.p1, .int .i64 j.t0, .int .i64 j.t1, .int .i64 j.r0, .int .i64 j.r1, .int .i64 j.u0, .int .i64 j.u1, .int .i64 j.d0, .int .i64 j.d1, .int .i64 j.a0, .int .i64 j.a1, .int .i64 j.b0, .int .i64 j.b1, .int .i64 j.le, .slice A sh.length c, .int .i64 j.wi, .int .i64 j.me]) :: (g1, .cells [.int .i64 0, .int .i64 0, .int .i64 0, .int .i64 0, .int .i64 0, .int .i64 0, .int .i64 0, .int .i64 0, .int .i64 0, .int .i64 0, .int .i64 0, .int .i64 0, .int .i64 0, .int .i64 0, .int .i64 0, .slice none 0 0, .int .i64 0, .int .i64 0]) :: (bp, .cells [.int .u64 s]) :: I)) ?_ ?_
  · exact ⟨_, _, [], none, 0, _, [], rfl, (by omega), (by simp; omega), (fun q hq => by cases hq), hsu19, (Sl.nil _ _), T.pick [3, 2, 1, 0] rfl, M.mask [true, true, true] rfl⟩
  · clear T M
    rintro mz ac wc ⟨i, sh, A, c, s, I, hmm1, hi, hlen, hq, hs, hsl, T, M⟩
    refine wp_seq ?_
    refine wp_seq ?_
    refine wp_region_lit ?_
    refine l_q T rfl rfl rfl rfl (rn_move rfl (T.ev 3 rfl)) ?_; clear T ac; intro ac T
    refine l_q T rfl rfl rfl rfl (rn_gtr rfl (T.ev 0 rfl) evc) ?_; clear T ac; intro ac T
    refine wpList_nil ?_
    replace T := T.pick [0, 2, 3, 4, 5] rfl
    refine nm_then ?_
    refine wp_if (T.ev 0 rfl) ?_ ?_
    · intro h1
      refine wp_skip ?_
      refine nm_then ?_
      refine wp_seq ?_
      refine wp_block ?_
      refine g_start2 M (M.perm [1] rfl rfl) 10 (by kernel_rfl) rfl (by kernel_rfl) ?_
      clear M; intro wc M
      refine g_addG 4 M ?_
      refine g_addG 9 (M.perm [0, 1] rfl rfl) ?_
      refine g_q (v := (.pointer (some ⟨g3, 15, none⟩))) (T := T) (i := 0) rfl (by kernel_rfl) (by kernel_rfl : (pbits 10 0).setIfInBounds 0 true = pbits 10 1) (si_and (si_G rfl) (si_and (si_G rfl) si_U)) (fun _ _ _ h => h) rfl rfl rfl rfl (fun _ _ _ _ _ => (rn_fieldAddr (off := 15) rfl (T.ev 3 rfl) (fun _ _ _ => by kernel_rfl))) ?_; clear T ac; intro ac T
      refine g_q (T := T) (i := 1) rfl (by kernel_rfl) (by kernel_rfl : (pbits 10 1).setIfInBounds 1 true = pbits 10 3) (si_and (si_G rfl) (si_and (si_G rfl) si_U)) (fun _ _ _ h => h) rfl rfl rfl rfl (fun B w' hD hl hS => (rn_one (Mem.nth (show Mem w (fun b => b = bp) w' _ from ((MA.lft hS) (hD.wait (i := 1) (m := 9) (by kernel_rfl) hl))) 0 rfl) rfl (T.ev 0 rfl) rfl)) ?_; clear T ac; intro ac T
      refine g_q (T := T) (i := 2) rfl (by kernel_rfl) (by kernel_rfl : (pbits 10 3).setIfInBounds 2 true = pbits 10 7) (si_and (si_G rfl) (si_and (si_G rfl) si_U)) (fun _ _ _ h => h) rfl rfl rfl rfl (fun _ _ _ _ _ => (rn_move rfl (T.ev 3 rfl))) ?_; clear T ac; intro ac T
      refine g_q (T := T) (i := 3) rfl (by kernel_rfl) (by kernel_rfl : (pbits 10 7).setIfInBounds 3 true = pbits 10 15) (si_and (si_G rfl) (si_and (si_G rfl) si_U)) (fun _ _ _ h => h) rfl rfl rfl rfl (fun _ _ _ _ _ => (rn_move rfl (T.ev 4 rfl))) ?_; clear T ac; intro ac T
      refine g_w (i := 4) (by kernel_rfl) rfl (by kernel_rfl : (pbits 10 15).setIfInBounds 4 true = pbits 10 31) rfl ?_; intro K hK
      refine ow_call (first := []) (cap := []) T rfl rfl rfl rfl evf (.cons (T.ev 0 rfl) (.cons evc (.cons evc .nil))) Try.func38 rfl rfl ?_
      refine Calls.mono (within_pot _ bp (-3) 3 _ (by omega) (by omega) (by omega) (M.nth 2 rfl) hs) ?_
      clear T
      rintro e wc ⟨xu20, su20, hxu20, hsu20, rfl, hgr, hbk⟩
      intro ac T
      replace M := M.callC (cs' := [.int .u64 su20]) (.tail (.tail .head)) hgr hbk
      clear hgr hbk
      refine sh_out hK _ _ (MA.mk (fun _ => M.perm [0, 1] rfl rfl) (MA.mk (fun h => (no_of (by kernel_rfl) h).elim) (M.perm [1] rfl rfl))) ?_; clear hK K
      refine g_w (i := 5) (by kernel_rfl) rfl (by kernel_rfl : (pbits 10 31).setIfInBounds 5 true = pbits 10 63) rfl ?_; intro K hK
      refine ow_call (first := []) (cap := []) T rfl rfl rfl rfl evf (.cons (T.ev 2 rfl) (.cons (T.ev 0 rfl) (.cons evc (.cons evc (.cons evc .nil))))) Try.func66 rfl rfl ?_
      refine Calls.mono (near_pot _ bp xu20 (-60) 60 2 _ (by omega) (by omega) (by omega) (by omega) (by omega) (by omega) (M.nth 2 rfl) hsu20) ?_
      clear T
      rintro e wc ⟨xu21, yu21, su21, hxu21, hsu21, rfl, hgr, hbk⟩
      intro ac T
      replace M := M.callC (cs' := [.int .u64 su21]) (.tail (.tail .head)) hgr hbk
      clear hgr hbk
      refine sh_out hK _ _ (MA.mk (fun _ => M.perm [0, 1] rfl rfl) (MA.mk (fun h => (no_of (by kernel_rfl) h).elim) (M.perm [1] rfl rfl))) ?_; clear hK K
      refine g_w (i := 6) (by kernel_rfl) rfl (by kernel_rfl : (pbits 10 63).setIfInBounds 6 true = pbits 10 127) rfl ?_; intro K hK
      refine ow_bs (e := 23) [.int .i64 xu21, .int .i64 yu21] M T rfl rfl rfl rfl (.cons (T.ev 0 rfl) .nil) (fun _ => by kernel_rfl) ?_; clear M T; intro g4 wc ac M T
      refine sh_out hK _ _ (MA.mk (fun _ => M.perm [1, 2] rfl rfl) (MA.mk (fun h => (no_of (by kernel_rfl) h).elim) (M.perm [2] rfl rfl))) ?_; clear hK K
      refine g_w (i := 7) (by kernel_rfl) rfl (by kernel_rfl : (pbits 10 127).setIfInBounds 7 true = pbits 10 255) rfl ?_; intro K hK
      refine ow_app ([(g4, .cells [.int .i64 xu21, .int .i64 yu21]), (g3, .cells [.int .i64 j.p0, .int .i64 j.p1, .int .i64 j.t0, .int .i64 j.t1, .int .i64 j.r0, .int .i64 j.r1, .int .i64 j.u0, .int .i64 j.u1, .int .i64 j.d0, .int .i64 j.d1, .int .i64 j.a0, .int .i64 j.a1, .int .i64 j.b0, .int .i64 j.b1, .int .i64 j.le, .slice A sh.length c, .int .i64 j.wi, .int .i64 j.me]), (g1, .cells [.int .i64 0, .int .i64 0, .int .i64 0, .int .i64 0, .int .i64 0, .int .i64 0, .int .i64 0, .int .i64 0, .int .i64 0, .int .i64 0, .int .i64 0, .int .i64 0, .int .i64 0, .int .i64 0, .int .i64 0, .slice none 0 0, .int .i64 0, .int .i64 0]), (bp, .cells [.int .u64 su21])]) Try.info23 hsl M (by first | rfl | simp) T rfl rfl rfl rfl Try.underlying28 rfl rfl rfl (by omega) (T.ev 5 rfl) (T.ev 0 rfl) (nthE_mem (i := 0) rfl) rfl rfl ?_; clear M T; intro ga1 cga1 wc ac M T
      refine sh_out hK _ _ (MA.mk (fun _ => M.mask [false, false, true, true, false] rfl) (MA.mk (fun h => (no_of (by kernel_rfl) h).elim) (M.mask [false, false, false, true, false] rfl))) ?_; clear hK K
      refine g_q (v := (.pointer (some ⟨g3, 15, none⟩))) (T := T) (i := 8) rfl (by kernel_rfl) (by kernel_rfl : (pbits 10 255).setIfInBounds 8 true = pbits 10 511) (si_and (si_G rfl) (si_and (si_G rfl) si_U)) (fun _ _ _ h => h) rfl rfl rfl rfl (fun _ _ _ _ _ => (rn_fieldAddr (off := 15) rfl (T.ev 11 rfl) (fun _ _ _ => by kernel_rfl))) ?_; clear T ac; intro ac T
      refine g_w (i := 9) (by kernel_rfl) rfl (by kernel_rfl : (pbits 10 511).setIfInBounds 9 true = pbits 10 1023) rfl ?_; intro K hK
      refine ow_stO M T rfl rfl (T.ev 0 rfl) (T.ev 1 rfl) rfl (.tail (.tail .head)) rfl (by simp) rfl (by kernel_rfl) ?_; clear M T; intro wc ac M T
      refine sh_out hK _ _ (MA.mk (fun h => (no_of (by kernel_rfl) h).elim) (MA.mk (fun h => (no_of (by kernel_rfl) h).elim) (M.mask [false, false, false, true, false] rfl))) ?_; clear hK K
      refine g_done (by kernel_rfl) ?_
      replace T := T.pick [10, 11, 12, 13] rfl
      replace M := M.mask [true, false, true, true, true] rfl
      refine nm_blk ?_
      refine nm_then ?_
      refine wp_region_lit ?_
      refine l_q T rfl rfl rfl rfl (rn_move rfl (T.ev 3 rfl)) ?_; clear T ac; intro ac T
      refine l_q T rfl rfl rfl rfl (rn_sub rfl (T.ev 0 rfl) evc (by omega)) ?_; clear T ac; intro ac T
      refine l_q (v := (.int .i64 (i - 1))) (T.pick [0, 1, 2, 3, 4] rfl) rfl rfl rfl rfl (rn_assign rfl (T.ev 0 rfl)) ?_; clear T ac; intro ac T
      refine wpList_nil ?_
      replace T := T.pick [0, 3, 4, 5] rfl
      refine nm_then ?_
      exact ⟨_, by omega, (i - 1), (sh ++ [(xu21, yu21)]), some ⟨ga1, 0, none⟩, cga1, su21, [(ga1, .row 23 2 (sh.length + 1) ((rc sh) ++ [.int .i64 xu21, .int .i64 yu21]) cga1)], rfl, (by omega), (by simp only [List.length_append, List.length_cons, List.length_nil]; omega), (fun q hq' => by rcases List.mem_append.1 hq' with h9 | h9; exact hq q h9; simp only [List.mem_cons, List.not_mem_nil, or_false] at h9; subst h9; dsimp only; omega), hsu21, (by rw [← rc_snoc, List.length_append]; exact Sl.row _ _ _ _ _ _), T.pick [1, 2, 3, 0] rfl, (by rw [List.length_append]; exact M.perm [1, 2, 3, 0] rfl rfl)⟩
    · intro h1
      refine wp_exit ?_
      refine ex_then ?_
      refine ex_then ?_
      refine ex_hit ?_
      refine nm_then ?_
      refine wp_seq ?_
      refine wp_region_lit ?_
      refine l_q T rfl rfl rfl rfl (rn_rowO (Mem.nth M 0 rfl) rfl (T.ev 3 rfl) rfl) ?_; clear T ac; intro ac T
      refine l_w rfl ?_; intro K hK
      refine ow_stO M T rfl rfl (T.ev 3 rfl) (T.ev 0 rfl) rfl (.tail .head) rfl (by simp) rfl (by kernel_rfl) ?_; clear M T; intro wc ac M T
      refine sh_out hK _ _ ?_; clear hK K
      refine wpList_nil ?_
      replace T := T.pick [3] rfl
      replace M := M.mask [false, true, true] rfl
      refine nm_then ?_
      refine wp_ret ?_
      refine rt_c M T rfl (T.ev 0 rfl) (nthE_mem (i := 0) rfl) rfl ?_
      exact ⟨{ j with sh := sh }, A, c, _, I, rfl, ⟨hj.p, hj.t, hj.r, hj.u, hj.d, hj.a, hj.b, hj.le, by dsimp only; omega, hq, hj.wi, hj.me⟩, hs, hsl, Mem.swapI (I := [(bp, .cells [.int .u64 s])]) (L := I) (M.mask [false, true] rfl)⟩

end Go.Proofs.Ythlpceoajhcliaa
end

section
/-
  kit: copies of jobs.
-/
namespace Go.Proofs.Ythlpceoajhcliaa
set_option linter.unusedSimpArgs false
set_option linter.unusedVariables false
open Go.RowKit

/-- A slice of the call's own that is not nil: empty and full, or with elements. -/
def Sm (e size : Nat) (A : Option Addr) (n c : Nat) (xs : List Value) (I : List (Nat × BA)) : Prop :=
  (n = 0 ∧ xs = [] ∧ c = 0 ∧ ∃ g, A = some ⟨g, 0, none⟩ ∧ I = [(g, .any fun o => o = .cells #[] e)]) ∨ ∃ g, A = some ⟨g, 0, none⟩ ∧ I = [(g, .row e size n xs c)]
theorem Sm.sp {w : World} {ex : Nat → Prop} {e size n c : Nat} {A : Option Addr} {xs : List Value} {I : List (Nat × BA)} (h : Sm e size A n c xs I) (hl : xs.length = n * size) : ∃ b o, Sp w ex I A n size b o xs := by
  rcases h with ⟨rfl, rfl, _, g, rfl, rfl⟩ | ⟨g, rfl, rfl⟩
  · exact ⟨0, 0, fun h => absurd h (by omega), by simp, fun _ _ _ _ h => absurd h (by omega), fun _ _ _ _ j u hu => by simp at hu⟩
  · exact ⟨g, 0, Sp.row hl⟩
def RangesPost2 (l : List (Int × Int)) (w : World) (e : Ending) (w' : World) : Prop := ∃ A c I, e = .returned (.slice A l.length c) ∧ Sm 23 2 A l.length c (rc l) I ∧ Mem w noEx w' I
def IntsPost2 (l : List Int) (w : World) (e : Ending) (w' : World) : Prop := ∃ A c I, e = .returned (.slice A l.length c) ∧ Sm 3 1 A l.length c (ic l) I ∧ Mem w noEx w' I

set_option maxHeartbeats 1000000 in
theorem ranges_own (A : Option Addr) (c : Nat) (l : List (Int × Int)) (w : World) (hr : Rd w w.heap.size 2 A l.length (rc l)) (hn : l.length ≤ 1000) :
    Calls Try.prog 67 #[.slice A l.length c] w (RangesPost2 l w) := by
  rcases Nat.eq_zero_or_pos l.length with h0 | h0
  · obtain rfl : l = [] := List.eq_nil_of_length_eq_zero h0
    clear hr hn h0
    show Calls Try.prog 67 #[.slice A 0 c] w (RangesPost2 [] w)
    go_enter Try.func67, Try.ntmps67
    have M := (Mem.init w noEx).newAny (.cells #[] 23) (fun o => o = .cells #[] 23) rfl
    go_wp2_with (refine app0 rfl rfl rfl rfl ?_)
    go_ret
    exact ⟨_, _, _, rfl, .inl ⟨rfl, rfl, rfl, _, rfl, rfl⟩, M⟩
  · obtain ⟨b, o, rfl, hb, hc⟩ := hr.cells h0
    have HC := Lib.hid hc
    have HL := Lib.hid hr.1
    clear hc hr
    have H1 : Hid (∀ u ∈ rc l, u.oneCell' = true) := by
      intro u hu
      obtain ⟨p, _, hp⟩ := List.mem_flatMap.1 hu
      simp only [List.mem_cons, List.not_mem_nil, or_false] at hp
      rcases hp with rfl | rfl <;> rfl
    go_enter Try.func67, Try.ntmps67
    have M := (Mem.init w noEx).new [] 23
    have hge : (w.alloc (.cells #[] 23)).heap[w.heap.size]? = some (.cells #[] 23) := heap_alloc_new w _
    have HGE := Lib.hid hge
    clear hge
    have HRA : Hid ((w.alloc (.cells #[] 23)).rangeAt b o (rc l)) := fun j v hv => (((Below.refl w.heap.size w).alloc (Nat.le_refl _) (.cells #[] 23)).cell (p := ⟨b, o + j, none⟩) hb).trans (HC.out j v hv)
    go_wp2_with (refine appN Try.underlying28 Try.infoRange rfl (by omega) (by omega) h0 (by omega) M rfl rfl rfl rfl HL.out H1.out HRA.out ⟨_, HGE.out⟩ HGE.out ?_; intro g' cap w' M')
    go_ret
    exact ⟨_, _, _, rfl, .inr ⟨g', rfl, rfl⟩, M'⟩

theorem Try.append0i (A : Option Addr) (c g : Nat) (ty : TypeId) (w : World) : (Builtin.append_ #[31, 31] ty #[.slice (some ⟨g, 0, none⟩) 0 0, .slice A 0 c]).run Try.prog w = .ok (.slice (some ⟨g, 0, none⟩) 0 0) w := by
  cases A <;> kernel_rfl
theorem app0i {ops : Array Oper} {rest : List Oper} {o : Oper} {a : Act} {Q : Exit → Act → World → Prop} {w : World} {s x : Operand} {A : Option Addr} {c g : Nat} (hw : Region.wanted o (yielded ops a.tmps) = true)
    (ho : o.op = .call { callee := .builtin .append, args := #[s, x], argTypes := #[31, 31] }) (hs : a.eval s = .slice (some ⟨g, 0, none⟩) 0 0) (hx : a.eval x = .slice A 0 c)
    (h : wpList Try.prog ops Q rest (a.put o.dst (.slice (some ⟨g, 0, none⟩) 0 0)) w) : wpList Try.prog ops Q (o :: rest) a w :=
  wpList_wanted hw fun _ hK => by
    unfold Oper.wp execOp
    simp only [ho, resolve, invoke, builtin, Sem.run_bind, Sem.run_pure, Result.andThen_ok, List.map_toArray, List.map_cons, List.map_nil, hs, hx, Try.append0i]
    exact hK _ _ h
set_option maxHeartbeats 1000000 in
theorem ints_own (A : Option Addr) (c : Nat) (l : List Int) (w : World) (hr : Rd w w.heap.size 1 A l.length (ic l)) (hn : l.length ≤ 1000) :
    Calls Try.prog 53 #[.slice A l.length c] w (IntsPost2 l w) := by
  rcases Nat.eq_zero_or_pos l.length with h0 | h0
  · obtain rfl : l = [] := List.eq_nil_of_length_eq_zero h0
    clear hr hn h0
    show Calls Try.prog 53 #[.slice A 0 c] w (IntsPost2 [] w)
    go_enter Try.func53, Try.ntmps53
    have M := (Mem.init w noEx).newAny (.cells #[] 3) (fun o => o = .cells #[] 3) rfl
    go_wp2_with (refine app0i rfl rfl rfl rfl ?_)
    go_ret
    exact ⟨_, _, _, rfl, .inl ⟨rfl, rfl, rfl, _, rfl, rfl⟩, M⟩
  · obtain ⟨b, o, rfl, hb, hc⟩ := hr.cells h0
    have HC := Lib.hid hc
    have HL := Lib.hid hr.1
    clear hc hr
    have H1 : Hid (∀ u ∈ ic l, u.oneCell' = true) := by
      intro u hu
      obtain ⟨p, _, rfl⟩ := List.mem_map.1 hu
      rfl
    go_enter Try.func53, Try.ntmps53
    have M := (Mem.init w noEx).new [] 3
    have hge : (w.alloc (.cells #[] 3)).heap[w.heap.size]? = some (.cells #[] 3) := heap_alloc_new w _
    have HGE := Lib.hid hge
    clear hge
    have HRA : Hid ((w.alloc (.cells #[] 3)).rangeAt b o (ic l)) := fun j v hv => (((Below.refl w.heap.size w).alloc (Nat.le_refl _) (.cells #[] 3)).cell (p := ⟨b, o + j, none⟩) hb).trans (HC.out j v hv)
    go_wp2_with (refine appN Try.underlying31 Try.info3 rfl (by omega) (by omega) h0 (by omega) M rfl rfl rfl rfl HL.out H1.out HRA.out ⟨_, HGE.out⟩ HGE.out ?_; intro g' cap w' M')
    go_ret
    exact ⟨_, _, _, rfl, .inr ⟨g', rfl, rfl⟩, M'⟩

/-- One element is appended to such a slice. -/
theorem ow_appM {P : Program} {op : Oper} {a : Act} {K : Act → World → Prop} {Q : Exit → Act → World → Prop} {s x : Operand} {ty e size bytes b c d m nn t' : Nat} {A : Option Addr} {z : Value} {cs xs : List Value} {w0 w : World} {ex : Nat → Prop} {L0 I : List (Nat × BA)} {E : List (Nat × Value)} (L1 : List (Nat × BA))
    (hinfo : (P.info? e).map (fun i => (i.zero, i.size, i.bytes)) = some (some z, size, bytes)) (hS : Sm e size A m d xs I) (M : Mem w0 ex w L0) (hsp : L0 = L1 ++ I) (T : Tm a nn E)
    (ho : op.op = .call { callee := .builtin .append, args := #[s, x], argTypes := #[ty, ty] }) (hd : op.dst = some t') (hf : freshE E t' = true) (hnn : Nat.blt t' nn = true)
    (ht : P.underlying ty = some (.slice e)) (hzs : z.cells.size = size) (hsz : Nat.blt 0 size = true) (hby : Nat.ble bytes 1000 = true) (hm : m ≤ 1000000)
    (hs : a.eval s = .slice A m d) (hx : a.eval x = .slice (some ⟨b, 0, none⟩) 1 c) (hmem : (b, BA.cells cs) ∈ L1) (hl : cs.length = size) (h1 : cs.all (·.oneCell') = true)
    (h : ∀ g cap w' a', Mem w0 ex w' ((g, .row e size (m + 1) (xs ++ cs) cap) :: L1) → Tm a' nn ((t', .slice (some ⟨g, 0, none⟩) (m + 1) cap) :: E) → K a' w') : op.wp P a w K Q := by
  rcases hS with ⟨rfl, rfl, rfl, g, rfl, rfl⟩ | ⟨g, rfl, rfl⟩
  · subst hsp
    obtain ⟨i, hi, hz0, hz1, hz2⟩ := info_parts hinfo
    have hsz := Nat.le_of_ble_eq_true hsz
    have hby := Nat.le_of_ble_eq_true hby
    have hbb : (0 + 1) * bytes ≤ 140737488355328 := by omega
    have hB := M.get (List.mem_append_left [(g, BA.any fun o => o = .cells #[] e)] hmem)
    obtain ⟨o, hge, rfl⟩ := (M.blk (g, BA.any fun o => o = .cells #[] e) (List.mem_append_right _ List.mem_cons_self)).2
    have hgl : g < w.heap.size := (Array.getElem?_eq_some_iff.1 hge).1
    refine wp_append_lies w s x ty ho g e i z size bytes ht hi hz0 hz1 hz2 hzs hsz (.slice (some ⟨g, 0, none⟩) 0 0) 0 [] hs ⟨by simp, .inr ⟨g, 0, #[], rfl, Nat.le_refl _, hge, by omega, by unfold maxLen; omega, by simp, by simp⟩⟩ ⟨b, 0, none⟩ 1 c cs hx (by omega) (fun j u hu => by rw [Addr.add_mid, hB.cell, Nat.zero_add]; simpa using hu) (fun u hu => (List.all_eq_true.1 h1) u hu) (by omega) (by unfold maxLen; omega) hbb (Nat.le_of_lt hgl) w.heap.size rfl ?_
    intro g' cap w' hown hgr hat hlt
    have hgr : w.grownBy w' (some g) := hgr
    simp only [Nat.zero_add, List.nil_append] at hown
    have e0 : a.put op.dst (.slice (some ⟨g', 0, none⟩) (0 + 1) cap) = a.put op.dst (.slice (some ⟨g', 0, none⟩) (0 + 1) cap) := rfl
    refine h g' cap w' _ ?_ (by rw [hd]; exact T.put hnn hf _)
    have Ms := Mem.swapI (I := L1) (L := [(g, BA.any fun o => o = .cells #[] e)]) M
    have hg0 : g < w'.heap.size := Nat.lt_of_lt_of_le hgl hgr.size
    rcases hat with h2 | h2
    · have h2 : some g = some g' := h2
      injection h2 with h2
      subst h2
      exact Ms.callW (L' := (g, .row e size (0 + 1) ([] ++ cs) cap) :: L1) .head hgr (own_rebase hown (by omega))
    · have M1 := Ms.callW (L' := (g, .any (fun _ => True)) :: L1) .head hgr ⟨w'.heap[g], Array.getElem?_eq_getElem hg0, trivial⟩
      exact M1.forget.add (by rw [h2]; exact M.size) (own_rebase hown (by omega)) (fun q hq e => by have := BA.lt (Ms.blk q (List.mem_cons_of_mem _ hq)).2; omega)
  · exact ow_app L1 hinfo (.inr ⟨g, d, rfl, rfl⟩) M hsp T ho hd hf hnn ht hzs hsz hby hm hs hx hmem hl h1 h

def CopyPost2 (j : Jb) (w : World) (e : Ending) (w' : World) : Prop := ∃ A c I, e = .returned (jobV j A c) ∧ Sm 23 2 A j.sh.length c (rc j.sh) I ∧ Mem w noEx w' I
/-- A job with a shift more. -/
def Jb.more (j : Jb) (x y : Int) : Jb := { j with sh := j.sh ++ [(x, y)] }
theorem more_length (j : Jb) (x y : Int) : j.sh.length + 1 = (j.more x y).sh.length := by simp [Jb.more]


set_option maxRecDepth 100000 in
set_option maxHeartbeats 1000000 in
theorem copyJob_own (j : Jb) (A : Option Addr) (c : Nat) (w : World) (hr : Rd w w.heap.size 2 A j.sh.length (rc j.sh)) (hn : j.sh.length ≤ 1000) :
    Calls Try.prog 18 #[jobV j A c] w (CopyPost2 j w) := by
  obtain ⟨bJ, oJ, SJ⟩ := Sp.old hr
  refine px_enter noEx Try.func18 rfl 8 rfl [.agg #[.int .i64 j.p0, .int .i64 j.p1, .int .i64 j.t0, .int .i64 j.t1, .int .i64 j.r0, .int .i64 j.r1, .int .i64 j.u0, .int .i64 j.u1, .int .i64 j.d0, .int .i64 j.d1, .int .i64 j.a0, .int .i64 j.a1, .int .i64 j.b0, .int .i64 j.b1, .int .i64 j.le, .slice A j.sh.length c, .int .i64 j.wi, .int .i64 j.me]] rfl rfl (Mem.init w _) ?_
  intro ac wc T M
  refine wp_seq ?_
  refine wp_region_lit ?_
  refine l_w rfl ?_; intro K hK
  refine ow_bx M T rfl rfl rfl rfl (T.ev 0 rfl) rfl ?_; clear M T; intro g1 wc ac M T
  refine sh_out hK _ _ ?_; clear hK K
  refine l_w rfl ?_; intro K hK
  refine ow_al M T rfl rfl rfl rfl ?_; clear M T; intro g2 wc ac M T
  refine sh_out hK _ _ ?_; clear hK K
  refine wpList_nil ?_
  replace T := T.pick [0, 1] rfl
  refine nm_then ?_
  refine wp_seq ?_
  refine wp_region_lit ?_
  refine l_q (v := (.pointer (some ⟨g1, 15, none⟩))) T rfl rfl rfl rfl (rn_fieldAddr (off := 15) rfl (T.ev 1 rfl) (fun _ _ _ => by kernel_rfl)) ?_; clear T ac; intro ac T
  refine l_q T rfl rfl rfl rfl (rn_one (Mem.nth M 1 rfl) rfl (T.ev 0 rfl) rfl) ?_; clear T ac; intro ac T
  refine l_w rfl ?_; intro K hK
  refine ow_call (first := []) (cap := []) T rfl rfl rfl rfl evf (.cons (T.ev 0 rfl) .nil) Try.func67 rfl rfl ?_
  refine Calls.mono (ranges_own _ _ j.sh _ (SJ.rd M (List.nil_sublist _)) (by omega)) ?_
  clear T
  rintro e wc ⟨Au1, cu1, Iu1, rfl, hsmu1, N⟩
  intro ac T
  obtain ⟨bu1, ou1, Su1⟩ := hsmu1.sp (w := w) (ex := noEx) (rc_length _)
  replace M := (M.join N).swapI
  replace M := M.mask [true, true] rfl
  clear N
  refine sh_out hK _ _ ?_; clear hK K
  refine l_q (v := (.pointer (some ⟨g1, 15, none⟩))) T rfl rfl rfl rfl (rn_fieldAddr (off := 15) rfl (T.ev 4 rfl) (fun _ _ _ => by kernel_rfl)) ?_; clear T ac; intro ac T
  refine l_w rfl ?_; intro K hK
  refine ow_stO M T rfl rfl (T.ev 0 rfl) (T.ev 1 rfl) rfl (.tail .head) rfl (by simp) rfl (by kernel_rfl) ?_; clear M T; intro wc ac M T
  refine sh_out hK _ _ ?_; clear hK K
  refine wpList_nil ?_
  replace T := T.pick [4, 5] rfl
  refine nm_then ?_
  refine wp_seq ?_
  refine wp_region_lit ?_
  refine l_q T rfl rfl rfl rfl (rn_rowO (Mem.nth M 1 rfl) rfl (T.ev 1 rfl) rfl) ?_; clear T ac; intro ac T
  refine l_w rfl ?_; intro K hK
  refine ow_stO M T rfl rfl (T.ev 1 rfl) (T.ev 0 rfl) rfl .head rfl (by simp) rfl (by kernel_rfl) ?_; clear M T; intro wc ac M T
  refine sh_out hK _ _ ?_; clear hK K
  refine wpList_nil ?_
  replace T := T.pick [1] rfl
  replace M := M.mask [true, false] rfl
  refine nm_then ?_
  refine wp_ret ?_
  refine rt_c M T rfl (T.ev 0 rfl) (nthE_mem (i := 0) rfl) rfl ?_
  exact ⟨_, _, _, rfl, hsmu1, M.mask [false] rfl⟩

end Go.Proofs.Ythlpceoajhcliaa
end

section
/-
  ref1: what is valid; ranges; shifts.
-/
namespace Go.Proofs.Ythlpceoajhcliaa
set_option linter.unusedSimpArgs false
set_option linter.unusedVariables false
open Go.RowKit

abbrev jobL (j : Jb) (A : Option Addr) (c : Nat) : List Value := [.int .i64 j.p0, .int .i64 j.p1, .int .i64 j.t0, .int .i64 j.t1, .int .i64 j.r0, .int .i64 j.r1, .int .i64 j.u0, .int .i64 j.u1, .int .i64 j.d0, .int .i64 j.d1, .int .i64 j.a0, .int .i64 j.a1, .int .i64 j.b0, .int .i64 j.b1, .int .i64 j.le, .slice A j.sh.length c, .int .i64 j.wi, .int .i64 j.me]


set_option maxRecDepth 100000 in
set_option maxHeartbeats 1000000 in
theorem among_any (n lo hi : Int) (w : World)  :
    Calls Try.prog 90 #[.int .i64 n, .int .i64 lo, .int .i64 hi] w fun e w' => e = .returned (.bool (withinB n lo hi)) ∧ Below w.heap.size w w' := by
  refine px_enter noEx Try.func90 rfl 15 rfl [.int .i64 n, .int .i64 lo, .int .i64 hi] rfl rfl (Mem.init w _) ?_
  intro ac wc T M
  refine wp_seq ?_
  refine wp_region_lit ?_
  refine l_q T rfl rfl rfl rfl (rn_assign rfl evc) ?_; clear T ac; intro ac T
  refine wpList_nil ?_
  replace T := T.pick [1, 2, 3] rfl
  refine nm_then ?_
  refine cut_seq (fun ac wc => Tm ac 15 [(6, .bool ((decide (lo ≤ n)) && (decide (n ≤ hi))))] ∧ Mem w noEx wc []) ?_ ?_
  · refine wp_region_lit ?_
    refine l_q T rfl rfl rfl rfl (rn_move rfl (T.ev 0 rfl)) ?_; clear T ac; intro ac T
    refine l_q T rfl rfl rfl rfl (rn_move rfl (T.ev 2 rfl)) ?_; clear T ac; intro ac T
    refine l_q T rfl rfl rfl rfl (rn_geq rfl (T.ev 1 rfl) (T.ev 0 rfl)) ?_; clear T ac; intro ac T
    refine l_q T rfl rfl rfl rfl (rn_move rfl (T.ev 0 rfl)) ?_; clear T ac; intro ac T
    rcases Bool.eq_false_or_eq_true (decide (lo ≤ n)) with h1 | h1
    · replace h1 := of_decide_eq_true h1
      refine l_q T (wanted_yes rfl rfl (T.ev 0 rfl) (decide_eq_true h1)) rfl rfl rfl (rn_move rfl (T.ev 4 rfl)) ?_; clear T ac; intro ac T
      refine l_q T (wanted_yes rfl rfl (T.ev 1 rfl) (decide_eq_true h1)) rfl rfl rfl (rn_move rfl (T.ev 7 rfl)) ?_; clear T ac; intro ac T
      refine l_q T (wanted_yes rfl rfl (T.ev 2 rfl) (decide_eq_true h1)) rfl rfl rfl (rn_leq rfl (T.ev 1 rfl) (T.ev 0 rfl)) ?_; clear T ac; intro ac T
      refine l_q T rfl rfl rfl rfl (rn_pick1 rfl (T.ev 3 rfl) (decide_eq_true h1) (T.ev 0 rfl)) ?_; clear T ac; intro ac T
      refine l_q T rfl rfl rfl rfl (rn_assign rfl (T.ev 0 rfl)) ?_; clear T ac; intro ac T
      refine wpList_nil ?_
      replace T := T.pick [0] rfl
      exact ⟨(T.pick (E' := [(6, .bool (decide (n ≤ hi)))]) [0] rfl).as (by (try rw [show (decide (lo ≤ n)) = true from (decide_eq_true h1)]); rfl), M.mask [] rfl⟩
    · replace h1 := of_decide_eq_false h1
      refine l_pass T (wanted_no rfl rfl (T.ev 0 rfl) (decide_eq_false h1)) rfl rfl rfl ?_; clear T ac; intro ac T
      refine l_pass T (wanted_no rfl rfl (T.ev 1 rfl) (decide_eq_false h1)) rfl rfl rfl ?_; clear T ac; intro ac T
      refine l_pass T (wanted_no rfl rfl (T.ev 2 rfl) (decide_eq_false h1)) rfl rfl rfl ?_; clear T ac; intro ac T
      refine l_q T rfl rfl rfl rfl (rn_pick0 rfl (T.ev 3 rfl) (decide_eq_false h1) evc) ?_; clear T ac; intro ac T
      refine l_q T rfl rfl rfl rfl (rn_assign rfl (T.ev 0 rfl)) ?_; clear T ac; intro ac T
      refine wpList_nil ?_
      replace T := T.pick [0] rfl
      exact ⟨(T.pick (E' := [(6, .bool false)]) [0] rfl).as (by (try rw [show (decide (lo ≤ n)) = false from (decide_eq_false h1)]); rfl), M.mask [] rfl⟩
  · clear T M
    rintro ac wc ⟨T, M⟩
    refine wp_ret ?_
    refine rt_1 T rfl (T.ev 0 rfl) ?_
    exact ⟨ret_bool (by unfold withinB; simp), M.below⟩

set_option maxRecDepth 100000 in
set_option maxHeartbeats 1000000 in
theorem rcheckRange_any (x0 x1 lo hi : Int) (w : World)  :
    Calls Try.prog 94 #[.agg #[.int .i64 x0, .int .i64 x1], .int .i64 lo, .int .i64 hi] w fun e w' => e = .returned (.int .i64 (chkR x0 x1 lo hi)) ∧ Below w.heap.size w w' := by
  refine px_enter noEx Try.func94 rfl 26 rfl [.agg #[.int .i64 x0, .int .i64 x1], .int .i64 lo, .int .i64 hi] rfl rfl (Mem.init w _) ?_
  intro ac wc T M
  refine wp_seq ?_
  refine wp_region_lit ?_
  refine l_w rfl ?_; intro K hK
  refine ow_bx M T rfl rfl rfl rfl (T.ev 0 rfl) rfl ?_; clear M T; intro g1 wc ac M T
  refine sh_out hK _ _ ?_; clear hK K
  refine l_q T rfl rfl rfl rfl (rn_assign rfl evc) ?_; clear T ac; intro ac T
  refine wpList_nil ?_
  replace T := T.pick [1, 3, 4] rfl
  refine nm_then ?_
  refine wp_seq ?_
  refine cut_seq (fun ac wc => Tm ac 26 [(3, .pointer (some ⟨g1, 0, none⟩)), (20, .bool ((!(withinB x0 lo hi)) || (!(withinB x1 lo hi))))] ∧ Mem w noEx wc [(g1, .cells [.int .i64 x0, .int .i64 x1])]) ?_ ?_
  · refine wp_region_lit ?_
    refine l_q (v := (.pointer (some ⟨g1, 0, none⟩))) T rfl rfl rfl rfl (rn_fieldAddr (off := 0) rfl (T.ev 0 rfl) (fun _ _ _ => by kernel_rfl)) ?_; clear T ac; intro ac T
    refine l_q T rfl rfl rfl rfl (rn_one (Mem.nth M 0 rfl) rfl (T.ev 0 rfl) rfl) ?_; clear T ac; intro ac T
    refine l_q T rfl rfl rfl rfl (rn_move rfl (T.ev 3 rfl)) ?_; clear T ac; intro ac T
    refine l_q T rfl rfl rfl rfl (rn_move rfl (T.ev 5 rfl)) ?_; clear T ac; intro ac T
    refine l_w rfl ?_; intro K hK
    refine ow_call (first := []) (cap := []) T rfl rfl rfl rfl evf (.cons (T.ev 2 rfl) (.cons (T.ev 1 rfl) (.cons (T.ev 0 rfl) .nil))) Try.func90 rfl rfl ?_
    refine Calls.mono (among_any x0 lo hi _) ?_
    clear T
    rintro e wc ⟨rfl, hb⟩
    intro ac T
    replace M := M.call hb; clear hb
    refine sh_out hK _ _ ?_; clear hK K
    refine l_q T rfl rfl rfl rfl (rn_not rfl (T.ev 0 rfl)) ?_; clear T ac; intro ac T
    refine l_q T rfl rfl rfl rfl (rn_move rfl (T.ev 0 rfl)) ?_; clear T ac; intro ac T
    rcases Bool.eq_false_or_eq_true (!(withinB x0 lo hi)) with h1 | h1
    · refine l_pass T (wanted_no rfl rfl (T.ev 0 rfl) h1) rfl rfl rfl ?_; clear T ac; intro ac T
      refine l_pass T (wanted_no rfl rfl (T.ev 1 rfl) h1) rfl rfl rfl ?_; clear T ac; intro ac T
      refine l_pass T (wanted_no rfl rfl (T.ev 2 rfl) h1) rfl rfl rfl ?_; clear T ac; intro ac T
      refine l_pass T (wanted_no rfl rfl (T.ev 3 rfl) h1) rfl rfl rfl ?_; clear T ac; intro ac T
      refine l_pass T (wanted_no rfl rfl (T.ev 4 rfl) h1) rfl rfl rfl ?_; clear T ac; intro ac T
      refine l_pass T (wanted_no rfl rfl (T.ev 5 rfl) h1) rfl rfl rfl ?_; clear T ac; intro ac T
      refine l_q T rfl rfl rfl rfl (rn_pick1 rfl (T.ev 6 rfl) h1 evc) ?_; clear T ac; intro ac T
      refine wpList_nil ?_
      replace T := T.pick [0, 14] rfl
      exact ⟨(T.pick (E' := [(3, .pointer (some ⟨g1, 0, none⟩)), (20, .bool true)]) [1, 0] rfl).as (by (try rw [show (!(withinB x0 lo hi)) = true from h1]); rfl), M.mask [true] rfl⟩
    · refine l_q (v := (.pointer (some ⟨g1, 1, none⟩))) T (wanted_yes rfl rfl (T.ev 0 rfl) h1) rfl rfl rfl (rn_fieldAddr (off := 1) rfl (T.ev 7 rfl) (fun _ _ _ => by kernel_rfl)) ?_; clear T ac; intro ac T
      refine l_q T (wanted_yes rfl rfl (T.ev 1 rfl) h1) rfl rfl rfl (rn_one (Mem.nth M 0 rfl) rfl (T.ev 0 rfl) rfl) ?_; clear T ac; intro ac T
      refine l_q T (wanted_yes rfl rfl (T.ev 2 rfl) h1) rfl rfl rfl (rn_move rfl (T.ev 10 rfl)) ?_; clear T ac; intro ac T
      refine l_q T (wanted_yes rfl rfl (T.ev 3 rfl) h1) rfl rfl rfl (rn_move rfl (T.ev 12 rfl)) ?_; clear T ac; intro ac T
      refine l_w (wanted_yes rfl rfl (T.ev 4 rfl) h1) ?_; intro K hK
      refine ow_call (first := []) (cap := []) T rfl rfl rfl rfl evf (.cons (T.ev 2 rfl) (.cons (T.ev 1 rfl) (.cons (T.ev 0 rfl) .nil))) Try.func90 rfl rfl ?_
      refine Calls.mono (among_any x1 lo hi _) ?_
      clear T
      rintro e wc ⟨rfl, hb⟩
      intro ac T
      replace M := M.call hb; clear hb
      refine sh_out hK _ _ ?_; clear hK K
      refine l_q T (wanted_yes rfl rfl (T.ev 5 rfl) h1) rfl rfl rfl (rn_not rfl (T.ev 0 rfl)) ?_; clear T ac; intro ac T
      refine l_q T rfl rfl rfl rfl (rn_pick0 rfl (T.ev 6 rfl) h1 (T.ev 0 rfl)) ?_; clear T ac; intro ac T
      refine wpList_nil ?_
      replace T := T.pick [0, 14] rfl
      exact ⟨(T.pick (E' := [(3, .pointer (some ⟨g1, 0, none⟩)), (20, .bool (!(withinB x1 lo hi)))]) [1, 0] rfl).as (by (try rw [show (!(withinB x0 lo hi)) = false from h1]); rfl), M.mask [true] rfl⟩
  · clear T M
    rintro ac wc ⟨T, M⟩
    refine wp_cond_split (T.ev 1 rfl) ?_ ?_
    · intro h2
      (try have h2' := h2; try simp only [Bool.and_eq_true, Bool.or_eq_true, Bool.not_eq_true', Bool.and_eq_false_imp, Bool.or_eq_false_iff, decide_eq_true_eq, decide_eq_false_iff_not] at h2')
      refine wp_seq ?_
      refine wp_region_lit ?_
      refine l_q T rfl rfl rfl rfl (rn_assign rfl evc) ?_; clear T ac; intro ac T
      refine wpList_nil ?_
      replace T := T.pick [0] rfl
      replace M := M.mask [false] rfl
      refine nm_then ?_
      refine wp_ret ?_
      refine rt_then ?_
      refine rt_1 T rfl (T.ev 0 rfl) ?_
      exact ⟨ret_int (by unfold chkR; first | (simp_all; done) | (simp_all; omega) | (simp_all; intro h8 h9; simp_all)), M.below⟩
    · intro h2
      (try have h2' := h2; try simp only [Bool.and_eq_true, Bool.or_eq_true, Bool.not_eq_true', Bool.and_eq_false_imp, Bool.or_eq_false_iff, decide_eq_true_eq, decide_eq_false_iff_not] at h2')
      refine wp_skip ?_
      refine nm_then ?_
      refine wp_seq ?_
      refine wp_seq ?_
      refine wp_region_lit ?_
      refine l_q (v := (.pointer (some ⟨g1, 0, none⟩))) T rfl rfl rfl rfl (rn_fieldAddr (off := 0) rfl (T.ev 0 rfl) (fun _ _ _ => by kernel_rfl)) ?_; clear T ac; intro ac T
      refine l_q T rfl rfl rfl rfl (rn_one (Mem.nth M 0 rfl) rfl (T.ev 0 rfl) rfl) ?_; clear T ac; intro ac T
      refine l_q (v := (.pointer (some ⟨g1, 1, none⟩))) T rfl rfl rfl rfl (rn_fieldAddr (off := 1) rfl (T.ev 2 rfl) (fun _ _ _ => by kernel_rfl)) ?_; clear T ac; intro ac T
      refine l_q T rfl rfl rfl rfl (rn_one (Mem.nth M 0 rfl) rfl (T.ev 0 rfl) rfl) ?_; clear T ac; intro ac T
      refine l_q T rfl rfl rfl rfl (rn_gtr rfl (T.ev 2 rfl) (T.ev 0 rfl)) ?_; clear T ac; intro ac T
      refine wpList_nil ?_
      replace T := T.pick [0] rfl
      replace M := M.mask [false] rfl
      refine nm_then ?_
      refine wp_if (T.ev 0 rfl) ?_ ?_
      · intro h3
        refine wp_seq ?_
        refine wp_region_lit ?_
        refine l_q T rfl rfl rfl rfl (rn_assign rfl evc) ?_; clear T ac; intro ac T
        refine wpList_nil ?_
        replace T := T.pick [0] rfl
        refine nm_then ?_
        refine wp_ret ?_
        refine rt_then ?_
        refine rt_1 T rfl (T.ev 0 rfl) ?_
        exact ⟨ret_int (by unfold chkR; first | (simp_all; done) | (simp_all; omega) | (simp_all; intro h8 h9; simp_all)), M.below⟩
      · intro h3
        refine wp_skip ?_
        refine nm_then ?_
        refine wp_seq ?_
        refine wp_region_lit ?_
        refine l_q T rfl rfl rfl rfl (rn_assign rfl evc) ?_; clear T ac; intro ac T
        refine wpList_nil ?_
        replace T := T.pick [0] rfl
        refine nm_then ?_
        refine wp_ret ?_
        refine rt_1 T rfl (T.ev 0 rfl) ?_
        exact ⟨ret_int (by unfold chkR; first | (simp_all; done) | (simp_all; omega) | (simp_all; intro h8 h9; simp_all)), M.below⟩

set_option maxRecDepth 100000 in
set_option maxHeartbeats 1000000 in
theorem rcheckAll_any (lo hi : Int) (A : Option Addr) (n c : Nat) (l : List (Int × Int)) (w : World) (hr : Rd w w.heap.size 2 A n (rc l)) (hn : n ≤ 9223372036854775807) :
    Calls Try.prog 95 #[.slice A n c, .int .i64 lo, .int .i64 hi] w fun e w' => e = .returned (.int .i64 (chkAll lo hi l)) ∧ Below w.heap.size w w' := by
  have hl := hr.len2
  obtain ⟨bJ, oJ, SJ⟩ := Sp.old hr
  refine px_enter noEx Try.func95 rfl 25 rfl [.slice A n c, .int .i64 lo, .int .i64 hi] rfl rfl (Mem.init w _) ?_
  intro ac wc T M
  refine wp_seq ?_
  refine wp_region_lit ?_
  refine l_q T rfl rfl rfl rfl (rn_assign rfl evc) ?_; clear T ac; intro ac T
  refine wpList_nil ?_
  replace T := T.pick [1, 2, 3] rfl
  refine nm_then ?_
  refine wp_seq ?_
  refine wp_seq ?_
  refine wp_region_lit ?_
  refine l_q T rfl rfl rfl rfl (rn_assign rfl evc) ?_; clear T ac; intro ac T
  refine wpList_nil ?_
  refine nm_then ?_
  refine wp_block ?_
  refine wp_loop_n (fun mz ac wc => ∃ (k : Nat), mz = n - k ∧ (k ≤ n) ∧ (chkAll lo hi l = chkAll lo hi (l.drop k)) ∧ Tm ac 25 [(0, .slice A n c), (1, .int .i64 lo), (2, .int .i64 hi), (7, .int .i64 (k : Int))] ∧ Mem w noEx wc []) ?_ ?_
  · exact ⟨_, 0, rfl, (by omega), rfl, T.pick [1, 2, 3, 0] rfl, M.mask [] rfl⟩
  · clear T M
    rintro mz ac wc ⟨k, hmm1, hk, H, T, M⟩
    refine wp_seq ?_
    refine wp_seq ?_
    refine wp_region_lit ?_
    refine l_q T rfl rfl rfl rfl (rn_move rfl (T.ev 3 rfl)) ?_; clear T ac; intro ac T
    refine l_q T rfl rfl rfl rfl (rn_move rfl (T.ev 1 rfl)) ?_; clear T ac; intro ac T
    refine l_q T rfl rfl rfl rfl (rn_lenS rfl Try.underlying28 (T.ev 0 rfl)) ?_; clear T ac; intro ac T
    refine l_q T rfl rfl rfl rfl (rn_lss rfl (T.ev 2 rfl) (T.ev 0 rfl)) ?_; clear T ac; intro ac T
    refine wpList_nil ?_
    replace T := T.pick [0, 4, 5, 6, 7] rfl
    refine nm_then ?_
    refine wp_if (T.ev 0 rfl) ?_ ?_
    · intro h1
      obtain ⟨x0, x1, hk1, hd⟩ := rc_next (l := l) (k := k) (by omega)
      rw [hd, chkAll] at H
      refine wp_skip ?_
      refine nm_then ?_
      refine wp_seq ?_
      refine wp_block ?_
      refine wp_seq ?_
      refine wp_region_lit ?_
      refine l_q T rfl rfl rfl rfl (rn_move rfl (T.ev 1 rfl)) ?_; clear T ac; intro ac T
      refine l_q T rfl rfl rfl rfl (rn_move rfl (T.ev 5 rfl)) ?_; clear T ac; intro ac T
      refine l_q T rfl rfl rfl rfl (rn_indexAddr (size := 2) k rfl (T.ev 1 rfl) (T.ev 0 rfl) ⟨_, Try.underlying28, by kernel_rfl⟩ rfl (by omega) (SJ.at0 (by omega))) ?_; clear T ac; intro ac T
      refine l_q (v := (.agg #[.int .i64 x0, .int .i64 x1])) T rfl rfl rfl rfl (rn_rowat (Sp.rcR SJ M (List.nil_sublist _) hk1) rfl (T.ev 0 rfl) rfl) ?_; clear T ac; intro ac T
      refine l_q T rfl rfl rfl rfl (rn_move rfl (T.ev 6 rfl)) ?_; clear T ac; intro ac T
      refine l_q T rfl rfl rfl rfl (rn_move rfl (T.ev 8 rfl)) ?_; clear T ac; intro ac T
      refine l_w rfl ?_; intro K hK
      refine ow_call (first := []) (cap := []) T rfl rfl rfl rfl evf (.cons (T.ev 2 rfl) (.cons (T.ev 1 rfl) (.cons (T.ev 0 rfl) .nil))) Try.func94 rfl rfl ?_
      refine Calls.mono (rcheckRange_any x0 x1 lo hi _) ?_
      clear T
      rintro e wc ⟨rfl, hb⟩
      intro ac T
      replace M := M.call hb; clear hb
      refine sh_out hK _ _ ?_; clear hK K
      refine l_q T rfl rfl rfl rfl (rn_assign rfl (T.ev 0 rfl)) ?_; clear T ac; intro ac T
      refine wpList_nil ?_
      replace T := T.pick [0, 9, 10, 11, 12] rfl
      refine nm_then ?_
      refine wp_seq ?_
      refine wp_region_lit ?_
      refine l_q T rfl rfl rfl rfl (rn_move rfl (T.ev 0 rfl)) ?_; clear T ac; intro ac T
      refine l_q T rfl rfl rfl rfl (rn_neq rfl (T.ev 0 rfl) evc) ?_; clear T ac; intro ac T
      refine wpList_nil ?_
      replace T := T.pick [0, 2, 3, 4, 5, 6] rfl
      refine nm_then ?_
      refine wp_ifn (T.ev 0 rfl) ?_ ?_
      · intro h2
        refine wp_seq ?_
        refine wp_region_lit ?_
        refine l_q T rfl rfl rfl rfl (rn_move rfl (T.ev 1 rfl)) ?_; clear T ac; intro ac T
        refine l_q T rfl rfl rfl rfl (rn_assign rfl (T.ev 0 rfl)) ?_; clear T ac; intro ac T
        refine wpList_nil ?_
        replace T := T.pick [0] rfl
        refine nm_then ?_
        refine wp_ret ?_
        refine rt_blk ?_
        refine rt_then ?_
        refine rt_then ?_
        refine rt_blk ?_
        refine rt_then ?_
        refine rt_1 T rfl (T.ev 0 rfl) ?_
        rw [if_pos (by simp_all)] at H
        exact ⟨ret_int H.symm, M.below⟩
      · intro h2
        refine wp_skip ?_
        refine nm_blk ?_
        refine nm_then ?_
        refine wp_region_lit ?_
        refine l_q T rfl rfl rfl rfl (rn_move rfl (T.ev 5 rfl)) ?_; clear T ac; intro ac T
        refine l_q T rfl rfl rfl rfl (rn_add rfl (T.ev 0 rfl) evc (by omega)) ?_; clear T ac; intro ac T
        refine l_q (v := (.int .i64 ((k : Int) + 1))) (T.pick [0, 1, 2, 3, 4, 5, 6] rfl) rfl rfl rfl rfl (rn_assign rfl (T.ev 0 rfl)) ?_; clear T ac; intro ac T
        refine wpList_nil ?_
        replace T := T.pick [0, 5, 6, 7] rfl
        refine nm_then ?_
        rw [if_neg (by simp_all)] at H
        exact ⟨_, by omega, k + 1, rfl, (by omega), H, T.pick [1, 2, 3, 0] rfl, M.mask [] rfl⟩
    · intro h1
      rw [List.drop_of_length_le (by omega), chkAll] at H
      refine wp_exit ?_
      refine ex_then ?_
      refine ex_then ?_
      refine ex_hit ?_
      refine nm_then ?_
      refine wp_seq ?_
      refine wp_region_lit ?_
      refine l_q T rfl rfl rfl rfl (rn_assign rfl evc) ?_; clear T ac; intro ac T
      refine wpList_nil ?_
      replace T := T.pick [0] rfl
      refine nm_then ?_
      refine wp_ret ?_
      refine rt_1 T rfl (T.ev 0 rfl) ?_
      exact ⟨ret_int H.symm, M.below⟩

set_option maxRecDepth 100000 in
set_option maxHeartbeats 1000000 in
theorem rCheck_any (j : Jb) (A : Option Addr) (c : Nat) (w : World) (hr : Rd w w.heap.size 2 A j.sh.length (rc j.sh)) (hn : j.sh.length ≤ 9223372036854775807) :
    Calls Try.prog 50 #[jobV j A c] w fun e w' => e = .returned (.int .i64 (checkJ j)) ∧ Below w.heap.size w w' := by
  obtain ⟨bJ, oJ, SJ⟩ := Sp.old hr
  refine px_enter noEx Try.func50 rfl 67 rfl [.agg #[.int .i64 j.p0, .int .i64 j.p1, .int .i64 j.t0, .int .i64 j.t1, .int .i64 j.r0, .int .i64 j.r1, .int .i64 j.u0, .int .i64 j.u1, .int .i64 j.d0, .int .i64 j.d1, .int .i64 j.a0, .int .i64 j.a1, .int .i64 j.b0, .int .i64 j.b1, .int .i64 j.le, .slice A j.sh.length c, .int .i64 j.wi, .int .i64 j.me]] rfl rfl (Mem.init w _) ?_
  intro ac wc T M
  refine wp_seq ?_
  refine wp_region_lit ?_
  refine l_w rfl ?_; intro K hK
  refine ow_bx M T rfl rfl rfl rfl (T.ev 0 rfl) rfl ?_; clear M T; intro g1 wc ac M T
  refine sh_out hK _ _ ?_; clear hK K
  refine l_q T rfl rfl rfl rfl (rn_assign rfl evc) ?_; clear T ac; intro ac T
  refine wpList_nil ?_
  replace T := T.pick [1] rfl
  refine nm_then ?_
  refine wp_seq ?_
  refine wp_seq ?_
  refine wp_region_lit ?_
  refine l_q (v := (.pointer (some ⟨g1, 0, none⟩))) T rfl rfl rfl rfl (rn_fieldAddr (off := 0) rfl (T.ev 0 rfl) (fun _ _ _ => by kernel_rfl)) ?_; clear T ac; intro ac T
  refine l_q (v := (.pointer (some ⟨g1, 0, none⟩))) T rfl rfl rfl rfl (rn_fieldAddr (off := 0) rfl (T.ev 0 rfl) (fun _ _ _ => by kernel_rfl)) ?_; clear T ac; intro ac T
  refine l_q T rfl rfl rfl rfl (rn_rowO (Mem.nth M 0 rfl) rfl (T.ev 0 rfl) rfl) ?_; clear T ac; intro ac T
  refine l_w rfl ?_; intro K hK
  refine ow_call (first := []) (cap := []) T rfl rfl rfl rfl evf (.cons (T.ev 0 rfl) (.cons evc (.cons evc .nil))) Try.func94 rfl rfl ?_
  refine Calls.mono (rcheckRange_any j.p0 j.p1 (-60) 60 _) ?_
  clear T
  rintro e wc ⟨rfl, hb⟩
  intro ac T
  replace M := M.call hb; clear hb
  refine sh_out hK _ _ ?_; clear hK K
  refine l_q T rfl rfl rfl rfl (rn_assign rfl (T.ev 0 rfl)) ?_; clear T ac; intro ac T
  refine wpList_nil ?_
  replace T := T.pick [0, 5] rfl
  refine nm_then ?_
  refine wp_seq ?_
  refine wp_region_lit ?_
  refine l_q T rfl rfl rfl rfl (rn_move rfl (T.ev 0 rfl)) ?_; clear T ac; intro ac T
  refine l_q T rfl rfl rfl rfl (rn_neq rfl (T.ev 0 rfl) evc) ?_; clear T ac; intro ac T
  refine wpList_nil ?_
  replace T := T.pick [0, 2, 3] rfl
  refine nm_then ?_
  refine wp_ifn (T.ev 0 rfl) ?_ ?_
  · intro h1
    refine wp_seq ?_
    refine wp_region_lit ?_
    refine l_q T rfl rfl rfl rfl (rn_move rfl (T.ev 1 rfl)) ?_; clear T ac; intro ac T
    refine l_q T rfl rfl rfl rfl (rn_assign rfl (T.ev 0 rfl)) ?_; clear T ac; intro ac T
    refine wpList_nil ?_
    replace T := T.pick [0] rfl
    replace M := M.mask [false] rfl
    refine nm_then ?_
    refine wp_ret ?_
    refine rt_then ?_
    refine rt_1 T rfl (T.ev 0 rfl) ?_
    refine ⟨ret_int ?_, M.below⟩
    unfold checkJ
    first | (simp_all; done) | (simp_all; omega) | (simp_all; intro h9; omega)
  · intro h1
    refine wp_skip ?_
    refine nm_then ?_
    refine wp_seq ?_
    refine wp_seq ?_
    refine wp_region_lit ?_
    refine l_q (v := (.pointer (some ⟨g1, 0, none⟩))) T rfl rfl rfl rfl (rn_fieldAddr (off := 0) rfl (T.ev 2 rfl) (fun _ _ _ => by kernel_rfl)) ?_; clear T ac; intro ac T
    refine l_q (v := (.pointer (some ⟨g1, 2, none⟩))) T rfl rfl rfl rfl (rn_fieldAddr (off := 2) rfl (T.ev 0 rfl) (fun _ _ _ => by kernel_rfl)) ?_; clear T ac; intro ac T
    refine l_q T rfl rfl rfl rfl (rn_rowO (Mem.nth M 0 rfl) rfl (T.ev 0 rfl) rfl) ?_; clear T ac; intro ac T
    refine l_q (v := (.pointer (some ⟨g1, 0, none⟩))) T rfl rfl rfl rfl (rn_fieldAddr (off := 0) rfl (T.ev 5 rfl) (fun _ _ _ => by kernel_rfl)) ?_; clear T ac; intro ac T
    refine l_q (v := (.pointer (some ⟨g1, 4, none⟩))) T rfl rfl rfl rfl (rn_fieldAddr (off := 4) rfl (T.ev 0 rfl) (fun _ _ _ => by kernel_rfl)) ?_; clear T ac; intro ac T
    refine l_q T rfl rfl rfl rfl (rn_rowO (Mem.nth M 0 rfl) rfl (T.ev 0 rfl) rfl) ?_; clear T ac; intro ac T
    refine l_w rfl ?_; intro K hK
    refine ow_bs (e := 23) [.int .i64 j.t0, .int .i64 j.t1, .int .i64 j.r0, .int .i64 j.r1] M T rfl rfl rfl rfl (.cons (T.ev 3 rfl) (.cons (T.ev 0 rfl) .nil)) (fun _ => by kernel_rfl) ?_; clear M T; intro g2 wc ac M T
    refine sh_out hK _ _ ?_; clear hK K
    refine l_w rfl ?_; intro K hK
    refine ow_call (first := []) (cap := []) T rfl rfl rfl rfl evf (.cons (T.ev 0 rfl) (.cons evc (.cons evc .nil))) Try.func95 rfl rfl ?_
    refine Calls.mono (rcheckAll_any 0 100 _ _ _ [(j.t0, j.t1), (j.r0, j.r1)] _ (M.rdOwn (nthE_mem (i := 0) rfl) rfl rfl) (by first | decide | omega)) ?_
    clear T
    rintro e wc ⟨rfl, hb⟩
    intro ac T
    replace M := M.call hb; clear hb
    refine sh_out hK _ _ ?_; clear hK K
    refine l_q T rfl rfl rfl rfl (rn_assign rfl (T.ev 0 rfl)) ?_; clear T ac; intro ac T
    refine wpList_nil ?_
    replace T := T.pick [0, 11] rfl
    replace M := M.mask [false, true] rfl
    refine nm_then ?_
    refine wp_seq ?_
    refine wp_region_lit ?_
    refine l_q T rfl rfl rfl rfl (rn_move rfl (T.ev 0 rfl)) ?_; clear T ac; intro ac T
    refine l_q T rfl rfl rfl rfl (rn_neq rfl (T.ev 0 rfl) evc) ?_; clear T ac; intro ac T
    refine wpList_nil ?_
    replace T := T.pick [0, 2, 3] rfl
    refine nm_then ?_
    refine wp_ifn (T.ev 0 rfl) ?_ ?_
    · intro h2
      refine wp_seq ?_
      refine wp_region_lit ?_
      refine l_q T rfl rfl rfl rfl (rn_move rfl (T.ev 1 rfl)) ?_; clear T ac; intro ac T
      refine l_q T rfl rfl rfl rfl (rn_assign rfl (T.ev 0 rfl)) ?_; clear T ac; intro ac T
      refine wpList_nil ?_
      replace T := T.pick [0] rfl
      replace M := M.mask [false] rfl
      refine nm_then ?_
      refine wp_ret ?_
      refine rt_then ?_
      refine rt_1 T rfl (T.ev 0 rfl) ?_
      refine ⟨ret_int ?_, M.below⟩
      unfold checkJ
      first | (simp_all; done) | (simp_all; omega) | (simp_all; intro h9; omega)
    · intro h2
      refine wp_skip ?_
      refine nm_then ?_
      refine wp_seq ?_
      refine wp_seq ?_
      refine wp_region_lit ?_
      refine l_q (v := (.pointer (some ⟨g1, 6, none⟩))) T rfl rfl rfl rfl (rn_fieldAddr (off := 6) rfl (T.ev 2 rfl) (fun _ _ _ => by kernel_rfl)) ?_; clear T ac; intro ac T
      refine l_q (v := (.pointer (some ⟨g1, 6, none⟩))) T rfl rfl rfl rfl (rn_fieldAddr (off := 0) rfl (T.ev 0 rfl) (fun _ _ _ => by kernel_rfl)) ?_; clear T ac; intro ac T
      refine l_q T rfl rfl rfl rfl (rn_rowO (Mem.nth M 0 rfl) rfl (T.ev 0 rfl) rfl) ?_; clear T ac; intro ac T
      refine l_q (v := (.pointer (some ⟨g1, 6, none⟩))) T rfl rfl rfl rfl (rn_fieldAddr (off := 6) rfl (T.ev 5 rfl) (fun _ _ _ => by kernel_rfl)) ?_; clear T ac; intro ac T
      refine l_q (v := (.pointer (some ⟨g1, 8, none⟩))) T rfl rfl rfl rfl (rn_fieldAddr (off := 2) rfl (T.ev 0 rfl) (fun _ _ _ => by kernel_rfl)) ?_; clear T ac; intro ac T
      refine l_q T rfl rfl rfl rfl (rn_rowO (Mem.nth M 0 rfl) rfl (T.ev 0 rfl) rfl) ?_; clear T ac; intro ac T
      refine l_q (v := (.pointer (some ⟨g1, 6, none⟩))) T rfl rfl rfl rfl (rn_fieldAddr (off := 6) rfl (T.ev 8 rfl) (fun _ _ _ => by kernel_rfl)) ?_; clear T ac; intro ac T
      refine l_q (v := (.pointer (some ⟨g1, 10, none⟩))) T rfl rfl rfl rfl (rn_fieldAddr (off := 4) rfl (T.ev 0 rfl) (fun _ _ _ => by kernel_rfl)) ?_; clear T ac; intro ac T
      refine l_q T rfl rfl rfl rfl (rn_rowO (Mem.nth M 0 rfl) rfl (T.ev 0 rfl) rfl) ?_; clear T ac; intro ac T
      refine l_q (v := (.pointer (some ⟨g1, 6, none⟩))) T rfl rfl rfl rfl (rn_fieldAddr (off := 6) rfl (T.ev 11 rfl) (fun _ _ _ => by kernel_rfl)) ?_; clear T ac; intro ac T
      refine l_q (v := (.pointer (some ⟨g1, 12, none⟩))) T rfl rfl rfl rfl (rn_fieldAddr (off := 6) rfl (T.ev 0 rfl) (fun _ _ _ => by kernel_rfl)) ?_; clear T ac; intro ac T
      refine l_q T rfl rfl rfl rfl (rn_rowO (Mem.nth M 0 rfl) rfl (T.ev 0 rfl) rfl) ?_; clear T ac; intro ac T
      refine l_w rfl ?_; intro K hK
      refine ow_bs (e := 23) [.int .i64 j.u0, .int .i64 j.u1, .int .i64 j.d0, .int .i64 j.d1, .int .i64 j.a0, .int .i64 j.a1, .int .i64 j.b0, .int .i64 j.b1] M T rfl rfl rfl rfl (.cons (T.ev 9 rfl) (.cons (T.ev 6 rfl) (.cons (T.ev 3 rfl) (.cons (T.ev 0 rfl) .nil)))) (fun _ => by kernel_rfl) ?_; clear M T; intro g3 wc ac M T
      refine sh_out hK _ _ ?_; clear hK K
      refine l_w rfl ?_; intro K hK
      refine ow_call (first := []) (cap := []) T rfl rfl rfl rfl evf (.cons (T.ev 0 rfl) (.cons evc (.cons evc .nil))) Try.func95 rfl rfl ?_
      refine Calls.mono (rcheckAll_any 0 12 _ _ _ [(j.u0, j.u1), (j.d0, j.d1), (j.a0, j.a1), (j.b0, j.b1)] _ (M.rdOwn (nthE_mem (i := 0) rfl) rfl rfl) (by first | decide | omega)) ?_
      clear T
      rintro e wc ⟨rfl, hb⟩
      intro ac T
      replace M := M.call hb; clear hb
      refine sh_out hK _ _ ?_; clear hK K
      refine l_q T rfl rfl rfl rfl (rn_assign rfl (T.ev 0 rfl)) ?_; clear T ac; intro ac T
      refine wpList_nil ?_
      replace T := T.pick [0, 17] rfl
      replace M := M.mask [false, true] rfl
      refine nm_then ?_
      refine wp_seq ?_
      refine wp_region_lit ?_
      refine l_q T rfl rfl rfl rfl (rn_move rfl (T.ev 0 rfl)) ?_; clear T ac; intro ac T
      refine l_q T rfl rfl rfl rfl (rn_neq rfl (T.ev 0 rfl) evc) ?_; clear T ac; intro ac T
      refine wpList_nil ?_
      replace T := T.pick [0, 2, 3] rfl
      refine nm_then ?_
      refine wp_ifn (T.ev 0 rfl) ?_ ?_
      · intro h3
        refine wp_seq ?_
        refine wp_region_lit ?_
        refine l_q T rfl rfl rfl rfl (rn_move rfl (T.ev 1 rfl)) ?_; clear T ac; intro ac T
        refine l_q T rfl rfl rfl rfl (rn_assign rfl (T.ev 0 rfl)) ?_; clear T ac; intro ac T
        refine wpList_nil ?_
        replace T := T.pick [0] rfl
        replace M := M.mask [false] rfl
        refine nm_then ?_
        refine wp_ret ?_
        refine rt_then ?_
        refine rt_1 T rfl (T.ev 0 rfl) ?_
        refine ⟨ret_int ?_, M.below⟩
        unfold checkJ
        first | (simp_all; done) | (simp_all; omega) | (simp_all; intro h9; omega)
      · intro h3
        refine wp_skip ?_
        refine nm_then ?_
        refine wp_seq ?_
        refine wp_seq ?_
        refine wp_region_lit ?_
        refine l_q (v := (.pointer (some ⟨g1, 6, none⟩))) T rfl rfl rfl rfl (rn_fieldAddr (off := 6) rfl (T.ev 2 rfl) (fun _ _ _ => by kernel_rfl)) ?_; clear T ac; intro ac T
        refine l_q (v := (.pointer (some ⟨g1, 14, none⟩))) T rfl rfl rfl rfl (rn_fieldAddr (off := 8) rfl (T.ev 0 rfl) (fun _ _ _ => by kernel_rfl)) ?_; clear T ac; intro ac T
        refine l_q T rfl rfl rfl rfl (rn_one (Mem.nth M 0 rfl) rfl (T.ev 0 rfl) rfl) ?_; clear T ac; intro ac T
        refine l_w rfl ?_; intro K hK
        refine ow_call (first := []) (cap := []) T rfl rfl rfl rfl evf (.cons (T.ev 0 rfl) (.cons evc (.cons evc .nil))) Try.func90 rfl rfl ?_
        refine Calls.mono (among_any j.le 0 100 _) ?_
        clear T
        rintro e wc ⟨rfl, hb⟩
        intro ac T
        replace M := M.call hb; clear hb
        refine sh_out hK _ _ ?_; clear hK K
        refine l_q T rfl rfl rfl rfl (rn_not rfl (T.ev 0 rfl)) ?_; clear T ac; intro ac T
        refine wpList_nil ?_
        replace T := T.pick [0, 7] rfl
        refine nm_then ?_
        refine wp_cond_split (T.ev 0 rfl) ?_ ?_
        · intro h4
          (try have h4' := h4; try simp only [Bool.and_eq_true, Bool.or_eq_true, Bool.not_eq_true', Bool.and_eq_false_imp, Bool.or_eq_false_iff, decide_eq_true_eq, decide_eq_false_iff_not] at h4')
          refine wp_seq ?_
          refine wp_region_lit ?_
          refine l_q T rfl rfl rfl rfl (rn_assign rfl evc) ?_; clear T ac; intro ac T
          refine wpList_nil ?_
          replace T := T.pick [0] rfl
          replace M := M.mask [false] rfl
          refine nm_then ?_
          refine wp_ret ?_
          refine rt_then ?_
          refine rt_1 T rfl (T.ev 0 rfl) ?_
          refine ⟨ret_int ?_, M.below⟩
          unfold checkJ
          first | (simp_all; done) | (simp_all; omega) | (simp_all; intro h9; omega)
        · intro h4
          (try have h4' := h4; try simp only [Bool.and_eq_true, Bool.or_eq_true, Bool.not_eq_true', Bool.and_eq_false_imp, Bool.or_eq_false_iff, decide_eq_true_eq, decide_eq_false_iff_not] at h4')
          refine wp_skip ?_
          refine nm_then ?_
          refine wp_seq ?_
          refine wp_seq ?_
          refine wp_region_lit ?_
          refine l_q (v := (.pointer (some ⟨g1, 15, none⟩))) T rfl rfl rfl rfl (rn_fieldAddr (off := 15) rfl (T.ev 1 rfl) (fun _ _ _ => by kernel_rfl)) ?_; clear T ac; intro ac T
          refine l_q T rfl rfl rfl rfl (rn_one (Mem.nth M 0 rfl) rfl (T.ev 0 rfl) rfl) ?_; clear T ac; intro ac T
          refine l_q T rfl rfl rfl rfl (rn_lenS rfl Try.underlying28 (T.ev 0 rfl)) ?_; clear T ac; intro ac T
          refine l_q T rfl rfl rfl rfl (rn_gtr rfl (T.ev 0 rfl) evc) ?_; clear T ac; intro ac T
          refine wpList_nil ?_
          replace T := T.pick [0, 5] rfl
          refine nm_then ?_
          refine wp_if (T.ev 0 rfl) ?_ ?_
          · intro h5
            refine wp_seq ?_
            refine wp_region_lit ?_
            refine l_q T rfl rfl rfl rfl (rn_assign rfl evc) ?_; clear T ac; intro ac T
            refine wpList_nil ?_
            replace T := T.pick [0] rfl
            replace M := M.mask [false] rfl
            refine nm_then ?_
            refine wp_ret ?_
            refine rt_then ?_
            refine rt_1 T rfl (T.ev 0 rfl) ?_
            refine ⟨ret_int ?_, M.below⟩
            unfold checkJ
            first | (simp_all; done) | (simp_all; omega) | (simp_all; intro h9; omega)
          · intro h5
            refine wp_skip ?_
            refine nm_then ?_
            refine wp_seq ?_
            refine wp_seq ?_
            refine wp_region_lit ?_
            refine l_q (v := (.pointer (some ⟨g1, 15, none⟩))) T rfl rfl rfl rfl (rn_fieldAddr (off := 15) rfl (T.ev 1 rfl) (fun _ _ _ => by kernel_rfl)) ?_; clear T ac; intro ac T
            refine l_q T rfl rfl rfl rfl (rn_one (Mem.nth M 0 rfl) rfl (T.ev 0 rfl) rfl) ?_; clear T ac; intro ac T
            refine l_w rfl ?_; intro K hK
            refine ow_call (first := []) (cap := []) T rfl rfl rfl rfl evf (.cons (T.ev 0 rfl) (.cons evc (.cons evc .nil))) Try.func95 rfl rfl ?_
            refine Calls.mono (rcheckAll_any (-60) 60 _ _ _ j.sh _ (SJ.rd M (List.nil_sublist _)) (by first | decide | omega)) ?_
            clear T
            rintro e wc ⟨rfl, hb⟩
            intro ac T
            replace M := M.call hb; clear hb
            refine sh_out hK _ _ ?_; clear hK K
            refine l_q T rfl rfl rfl rfl (rn_assign rfl (T.ev 0 rfl)) ?_; clear T ac; intro ac T
            refine wpList_nil ?_
            replace T := T.pick [0, 5] rfl
            refine nm_then ?_
            refine wp_seq ?_
            refine wp_region_lit ?_
            refine l_q T rfl rfl rfl rfl (rn_move rfl (T.ev 0 rfl)) ?_; clear T ac; intro ac T
            refine l_q T rfl rfl rfl rfl (rn_neq rfl (T.ev 0 rfl) evc) ?_; clear T ac; intro ac T
            refine wpList_nil ?_
            replace T := T.pick [0, 2, 3] rfl
            refine nm_then ?_
            refine wp_ifn (T.ev 0 rfl) ?_ ?_
            · intro h6
              refine wp_seq ?_
              refine wp_region_lit ?_
              refine l_q T rfl rfl rfl rfl (rn_move rfl (T.ev 1 rfl)) ?_; clear T ac; intro ac T
              refine l_q T rfl rfl rfl rfl (rn_assign rfl (T.ev 0 rfl)) ?_; clear T ac; intro ac T
              refine wpList_nil ?_
              replace T := T.pick [0] rfl
              replace M := M.mask [false] rfl
              refine nm_then ?_
              refine wp_ret ?_
              refine rt_then ?_
              refine rt_1 T rfl (T.ev 0 rfl) ?_
              refine ⟨ret_int ?_, M.below⟩
              unfold checkJ
              first | (simp_all; done) | (simp_all; omega) | (simp_all; intro h9; omega)
            · intro h6
              refine wp_skip ?_
              refine nm_then ?_
              refine wp_seq ?_
              refine cut_seq (fun ac wc => Tm ac 67 [(66, .bool ((!(withinB j.wi 0 60)) || (!(withinB j.me 0 6))))] ∧ Mem w noEx wc []) ?_ ?_
              · refine wp_region_lit ?_
                refine l_q (v := (.pointer (some ⟨g1, 16, none⟩))) T rfl rfl rfl rfl (rn_fieldAddr (off := 16) rfl (T.ev 2 rfl) (fun _ _ _ => by kernel_rfl)) ?_; clear T ac; intro ac T
                refine l_q T rfl rfl rfl rfl (rn_one (Mem.nth M 0 rfl) rfl (T.ev 0 rfl) rfl) ?_; clear T ac; intro ac T
                refine l_w rfl ?_; intro K hK
                refine ow_call (first := []) (cap := []) T rfl rfl rfl rfl evf (.cons (T.ev 0 rfl) (.cons evc (.cons evc .nil))) Try.func90 rfl rfl ?_
                refine Calls.mono (among_any j.wi 0 60 _) ?_
                clear T
                rintro e wc ⟨rfl, hb⟩
                intro ac T
                replace M := M.call hb; clear hb
                refine sh_out hK _ _ ?_; clear hK K
                refine l_q T rfl rfl rfl rfl (rn_not rfl (T.ev 0 rfl)) ?_; clear T ac; intro ac T
                refine l_q T rfl rfl rfl rfl (rn_move rfl (T.ev 0 rfl)) ?_; clear T ac; intro ac T
                rcases Bool.eq_false_or_eq_true (!(withinB j.wi 0 60)) with h7 | h7
                · refine l_pass T (wanted_no rfl rfl (T.ev 0 rfl) h7) rfl rfl rfl ?_; clear T ac; intro ac T
                  refine l_pass T (wanted_no rfl rfl (T.ev 1 rfl) h7) rfl rfl rfl ?_; clear T ac; intro ac T
                  refine l_pass T (wanted_no rfl rfl (T.ev 2 rfl) h7) rfl rfl rfl ?_; clear T ac; intro ac T
                  refine l_pass T (wanted_no rfl rfl (T.ev 3 rfl) h7) rfl rfl rfl ?_; clear T ac; intro ac T
                  refine l_q T rfl rfl rfl rfl (rn_pick1 rfl (T.ev 4 rfl) h7 evc) ?_; clear T ac; intro ac T
                  refine wpList_nil ?_
                  replace T := T.pick [0] rfl
                  replace M := M.mask [false] rfl
                  exact ⟨(T.pick (E' := [(66, .bool true)]) [0] rfl).as (by (try rw [show (!(withinB j.wi 0 60)) = true from h7]); rfl), M.mask [] rfl⟩
                · refine l_q (v := (.pointer (some ⟨g1, 17, none⟩))) T (wanted_yes rfl rfl (T.ev 0 rfl) h7) rfl rfl rfl (rn_fieldAddr (off := 17) rfl (T.ev 7 rfl) (fun _ _ _ => by kernel_rfl)) ?_; clear T ac; intro ac T
                  refine l_q T (wanted_yes rfl rfl (T.ev 1 rfl) h7) rfl rfl rfl (rn_one (Mem.nth M 0 rfl) rfl (T.ev 0 rfl) rfl) ?_; clear T ac; intro ac T
                  refine l_w (wanted_yes rfl rfl (T.ev 2 rfl) h7) ?_; intro K hK
                  refine ow_call (first := []) (cap := []) T rfl rfl rfl rfl evf (.cons (T.ev 0 rfl) (.cons evc (.cons evc .nil))) Try.func90 rfl rfl ?_
                  refine Calls.mono (among_any j.me 0 6 _) ?_
                  clear T
                  rintro e wc ⟨rfl, hb⟩
                  intro ac T
                  replace M := M.call hb; clear hb
                  refine sh_out hK _ _ ?_; clear hK K
                  refine l_q T (wanted_yes rfl rfl (T.ev 3 rfl) h7) rfl rfl rfl (rn_not rfl (T.ev 0 rfl)) ?_; clear T ac; intro ac T
                  refine l_q T rfl rfl rfl rfl (rn_pick0 rfl (T.ev 4 rfl) h7 (T.ev 0 rfl)) ?_; clear T ac; intro ac T
                  refine wpList_nil ?_
                  replace T := T.pick [0] rfl
                  replace M := M.mask [false] rfl
                  exact ⟨(T.pick (E' := [(66, .bool (!(withinB j.me 0 6)))]) [0] rfl).as (by (try rw [show (!(withinB j.wi 0 60)) = false from h7]); rfl), M.mask [] rfl⟩
              · clear T M
                rintro ac wc ⟨T, M⟩
                refine wp_cond_split (T.ev 0 rfl) ?_ ?_
                · intro h8
                  (try have h8' := h8; try simp only [Bool.and_eq_true, Bool.or_eq_true, Bool.not_eq_true', Bool.and_eq_false_imp, Bool.or_eq_false_iff, decide_eq_true_eq, decide_eq_false_iff_not] at h8')
                  refine wp_seq ?_
                  refine wp_region_lit ?_
                  refine l_q T rfl rfl rfl rfl (rn_assign rfl evc) ?_; clear T ac; intro ac T
                  refine wpList_nil ?_
                  replace T := T.pick [0] rfl
                  refine nm_then ?_
                  refine wp_ret ?_
                  refine rt_then ?_
                  refine rt_1 T rfl (T.ev 0 rfl) ?_
                  refine ⟨ret_int ?_, M.below⟩
                  unfold checkJ
                  first | (simp_all; done) | (simp_all; omega) | (simp_all; intro h9; omega)
                · intro h8
                  (try have h8' := h8; try simp only [Bool.and_eq_true, Bool.or_eq_true, Bool.not_eq_true', Bool.and_eq_false_imp, Bool.or_eq_false_iff, decide_eq_true_eq, decide_eq_false_iff_not] at h8')
                  refine wp_skip ?_
                  refine nm_then ?_
                  refine wp_seq ?_
                  refine wp_region_lit ?_
                  refine l_q T rfl rfl rfl rfl (rn_assign rfl evc) ?_; clear T ac; intro ac T
                  refine wpList_nil ?_
                  replace T := T.pick [0] rfl
                  refine nm_then ?_
                  refine wp_ret ?_
                  refine rt_1 T rfl (T.ev 0 rfl) ?_
                  refine ⟨ret_int ?_, M.below⟩
                  unfold checkJ
                  first | (simp_all; done) | (simp_all; omega) | (simp_all; intro h9; omega)

set_option maxRecDepth 100000 in
set_option maxHeartbeats 1000000 in
theorem inside_any (x0 x1 y0 y1 : Int) (w : World)  :
    Calls Try.prog 79 #[.agg #[.int .i64 x0, .int .i64 x1], .agg #[.int .i64 y0, .int .i64 y1]] w fun e w' => e = .returned (.bool (hasB y0 y1 x0 x1)) ∧ Below w.heap.size w w' := by
  refine px_enter noEx Try.func79 rfl 17 rfl [.agg #[.int .i64 x0, .int .i64 x1], .agg #[.int .i64 y0, .int .i64 y1]] rfl rfl (Mem.init w _) ?_
  intro ac wc T M
  refine wp_seq ?_
  refine wp_region_lit ?_
  refine l_w rfl ?_; intro K hK
  refine ow_bx M T rfl rfl rfl rfl (T.ev 0 rfl) rfl ?_; clear M T; intro g1 wc ac M T
  refine sh_out hK _ _ ?_; clear hK K
  refine l_w rfl ?_; intro K hK
  refine ow_bx M T rfl rfl rfl rfl (T.ev 2 rfl) rfl ?_; clear M T; intro g2 wc ac M T
  refine sh_out hK _ _ ?_; clear hK K
  refine l_q T rfl rfl rfl rfl (rn_assign rfl evc) ?_; clear T ac; intro ac T
  refine wpList_nil ?_
  replace T := T.pick [1, 2] rfl
  refine nm_then ?_
  refine cut_seq (fun ac wc => Tm ac 17 [(4, .bool ((decide (y0 ≤ x0)) && (decide (x1 ≤ y1))))] ∧ Mem w noEx wc []) ?_ ?_
  · refine wp_region_lit ?_
    refine l_q (v := (.pointer (some ⟨g1, 0, none⟩))) T rfl rfl rfl rfl (rn_fieldAddr (off := 0) rfl (T.ev 1 rfl) (fun _ _ _ => by kernel_rfl)) ?_; clear T ac; intro ac T
    refine l_q T rfl rfl rfl rfl (rn_one (Mem.nth M 1 rfl) rfl (T.ev 0 rfl) rfl) ?_; clear T ac; intro ac T
    refine l_q (v := (.pointer (some ⟨g2, 0, none⟩))) T rfl rfl rfl rfl (rn_fieldAddr (off := 0) rfl (T.ev 2 rfl) (fun _ _ _ => by kernel_rfl)) ?_; clear T ac; intro ac T
    refine l_q T rfl rfl rfl rfl (rn_one (Mem.nth M 0 rfl) rfl (T.ev 0 rfl) rfl) ?_; clear T ac; intro ac T
    refine l_q T rfl rfl rfl rfl (rn_geq rfl (T.ev 2 rfl) (T.ev 0 rfl)) ?_; clear T ac; intro ac T
    refine l_q T rfl rfl rfl rfl (rn_move rfl (T.ev 0 rfl)) ?_; clear T ac; intro ac T
    rcases Bool.eq_false_or_eq_true (decide (y0 ≤ x0)) with h1 | h1
    · replace h1 := of_decide_eq_true h1
      refine l_q (v := (.pointer (some ⟨g1, 1, none⟩))) T (wanted_yes rfl rfl (T.ev 0 rfl) (decide_eq_true h1)) rfl rfl rfl (rn_fieldAddr (off := 1) rfl (T.ev 7 rfl) (fun _ _ _ => by kernel_rfl)) ?_; clear T ac; intro ac T
      refine l_q T (wanted_yes rfl rfl (T.ev 1 rfl) (decide_eq_true h1)) rfl rfl rfl (rn_one (Mem.nth M 1 rfl) rfl (T.ev 0 rfl) rfl) ?_; clear T ac; intro ac T
      refine l_q (v := (.pointer (some ⟨g2, 1, none⟩))) T (wanted_yes rfl rfl (T.ev 2 rfl) (decide_eq_true h1)) rfl rfl rfl (rn_fieldAddr (off := 1) rfl (T.ev 8 rfl) (fun _ _ _ => by kernel_rfl)) ?_; clear T ac; intro ac T
      refine l_q T (wanted_yes rfl rfl (T.ev 3 rfl) (decide_eq_true h1)) rfl rfl rfl (rn_one (Mem.nth M 0 rfl) rfl (T.ev 0 rfl) rfl) ?_; clear T ac; intro ac T
      refine l_q T (wanted_yes rfl rfl (T.ev 4 rfl) (decide_eq_true h1)) rfl rfl rfl (rn_leq rfl (T.ev 2 rfl) (T.ev 0 rfl)) ?_; clear T ac; intro ac T
      refine l_q T rfl rfl rfl rfl (rn_pick1 rfl (T.ev 5 rfl) (decide_eq_true h1) (T.ev 0 rfl)) ?_; clear T ac; intro ac T
      refine l_q T rfl rfl rfl rfl (rn_assign rfl (T.ev 0 rfl)) ?_; clear T ac; intro ac T
      refine wpList_nil ?_
      replace T := T.pick [0] rfl
      replace M := M.mask [false, false] rfl
      exact ⟨(T.pick (E' := [(4, .bool (decide (x1 ≤ y1)))]) [0] rfl).as (by (try rw [show (decide (y0 ≤ x0)) = true from (decide_eq_true h1)]); rfl), M.mask [] rfl⟩
    · replace h1 := of_decide_eq_false h1
      refine l_pass T (wanted_no rfl rfl (T.ev 0 rfl) (decide_eq_false h1)) rfl rfl rfl ?_; clear T ac; intro ac T
      refine l_pass T (wanted_no rfl rfl (T.ev 1 rfl) (decide_eq_false h1)) rfl rfl rfl ?_; clear T ac; intro ac T
      refine l_pass T (wanted_no rfl rfl (T.ev 2 rfl) (decide_eq_false h1)) rfl rfl rfl ?_; clear T ac; intro ac T
      refine l_pass T (wanted_no rfl rfl (T.ev 3 rfl) (decide_eq_false h1)) rfl rfl rfl ?_; clear T ac; intro ac T
      refine l_pass T (wanted_no rfl rfl (T.ev 4 rfl) (decide_eq_false h1)) rfl rfl rfl ?_; clear T ac; intro ac T
      refine l_q T rfl rfl rfl rfl (rn_pick0 rfl (T.ev 5 rfl) (decide_eq_false h1) evc) ?_; clear T ac; intro ac T
      refine l_q T rfl rfl rfl rfl (rn_assign rfl (T.ev 0 rfl)) ?_; clear T ac; intro ac T
      refine wpList_nil ?_
      replace T := T.pick [0] rfl
      replace M := M.mask [false, false] rfl
      exact ⟨(T.pick (E' := [(4, .bool false)]) [0] rfl).as (by (try rw [show (decide (y0 ≤ x0)) = false from (decide_eq_false h1)]); rfl), M.mask [] rfl⟩
  · clear T M
    rintro ac wc ⟨T, M⟩
    refine wp_ret ?_
    refine rt_1 T rfl (T.ev 0 rfl) ?_
    exact ⟨ret_bool (by unfold hasB; simp), M.below⟩

end Go.Proofs.Ythlpceoajhcliaa
end

section
/-
  kit: strokes out of a pot, Turn.
-/
namespace Go.Proofs.Ythlpceoajhcliaa
set_option linter.unusedSimpArgs false
set_option linter.unusedVariables false
open Go.RowKit

theorem Bk.of_heap {w : World} {g : Nat} {t : TypeId} {cur : Array Value} (h : w.heap[g]? = some (.cells cur t)) : Bk w g cur.toList.toArray :=
  ⟨(Array.getElem?_eq_some_iff.1 h).1, fun o => by simp only [World.cell?, h]; rfl, fun o => by simp only [World.frozen?, h]; simp⟩
theorem Sp.mono {w : World} {ex : Nat → Prop} {I I' : List (Nat × BA)} {A : Option Addr} {n size b o : Nat} {xs : List Value} (S : Sp w ex I A n size b o xs) (h : I.Sublist I') : Sp w ex I' A n size b o xs :=
  ⟨S.at0, S.len, fun w' L M hI hn => S.lt w' L M (h.trans hI) hn, fun w' L M hI => S.cell w' L M (h.trans hI)⟩
theorem Sp.pre {w : World} {ex : Nat → Prop} {size n g : Nat} {xs ys : List Value} (hl : xs.length = n * size) : Sp w ex [(g, .cells (xs ++ ys))] (some ⟨g, 0, none⟩) n size g 0 xs :=
  ⟨fun _ => rfl, hl, fun w' L M hI _ => BA.lt (M.blk _ (hI.subset List.mem_cons_self)).2, fun w' L M hI j u hu => by
    have hb := M.get (hI.subset List.mem_cons_self)
    rw [hb.cell, Nat.zero_add, List.getElem?_toArray, List.getElem?_append_left (List.getElem?_eq_some_iff.1 hu).1]
    exact hu⟩
/-- A list of jobs. -/
abbrev JE := Jb × Option Addr × Nat
def jc (l : List JE) : List Value := l.flatMap fun x => jobL x.1 x.2.1 x.2.2
theorem jc_get : ∀ (l : List JE) (k : Nat) {x : JE}, l[k]? = some x → ∀ (i : Nat) (v : Value), (jobL x.1 x.2.1 x.2.2)[i]? = some v → (jc l)[k * 18 + i]? = some v
  | [], k, x, h => by simp at h
  | y :: l, 0, x, h => by
    intro i v hv
    simp only [List.getElem?_cons_zero, Option.some.injEq] at h
    subst h
    show (jobL y.1 y.2.1 y.2.2 ++ jc l)[0 * 18 + i]? = some v
    rw [Nat.zero_mul, Nat.zero_add, List.getElem?_append_left (List.getElem?_eq_some_iff.1 hv).1]
    exact hv
  | y :: l, k + 1, x, h => by
    intro i v hv
    have := jc_get l k (by simpa using h) i v hv
    show (jobL y.1 y.2.1 y.2.2 ++ jc l)[(k + 1) * 18 + i]? = some v
    have e : (jobL y.1 y.2.1 y.2.2).length = 18 := rfl
    rw [List.getElem?_append_right (by rw [e]; omega), e, show (k + 1) * 18 + i - 18 = k * 18 + i by omega]
    exact this
theorem jc_length (l : List JE) : (jc l).length = l.length * 18 := by
  induction l with
  | nil => rfl
  | cons x l ih =>
    have e : (jc (x :: l)).length = 18 + (jc l).length := by
      show (jobL x.1 x.2.1 x.2.2 ++ jc l).length = _
      rw [List.length_append]
      rfl
    rw [e, ih, List.length_cons]
    omega
/-- A list of lists. -/
abbrev LE := List Int × Option Addr × Nat
def lc (l : List LE) : List Value := l.map fun x => .slice x.2.1 x.1.length x.2.2
theorem lc_length (l : List LE) : (lc l).length = l.length := by simp [lc]
section
variable {w w' : World} {ex : Nat → Prop} {I L : List (Nat × BA)} {n b o k : Nat} {A : Option Addr} {l : List JE} {r : List LE}
theorem Sp.jcR {j : Jb} {B : Option Addr} {c : Nat} (S : Sp w ex I A n 18 b o (jc l)) (M : Mem w ex w' L) (hI : I.Sublist L) (h : l[k]? = some (j, B, c)) : w'.rangeAt b (o + k * 18) (jobL j B c) := fun i v hv => by
  have := S.cell w' L M hI _ _ (jc_get l k h i v hv)
  rwa [← Nat.add_assoc] at this
theorem Sp.lc0 {x : List Int} {B : Option Addr} {c : Nat} (S : Sp w ex I A n 1 b o (lc r)) (M : Mem w ex w' L) (hI : I.Sublist L) (h : r[k]? = some (x, B, c)) : w'.cell? ⟨b, o + k * 1, none⟩ = some (.slice B x.length c) := by
  rw [Nat.mul_one]
  exact S.cell w' L M hI _ _ (by unfold lc; rw [List.getElem?_map, h]; rfl)
end

section
variable {P : Program} {op : Oper} {a : Act} {K : Act → World → Prop} {Q : Exit → Act → World → Prop} {w0 w : World} {ex : Nat → Prop} {L0 L : List (Nat × BA)} {E : List (Nat × Value)} {t n : Nat}
/-- A literal that is appended to later on: a row of the call's own. -/
theorem ow_bsR {ty e size : Nat} {len : Nat} {parts : List (Nat × Operand)} {vs : List (Nat × Value)} (l : List Value) (M : Mem w0 ex w L) (T : Tm a n E) (ho : op.op = .buildSlice ty len parts.toArray) (hd : op.dst = some t) (hf : freshE E t = true) (hn : Nat.blt t n = true) (hv : EvP a parts vs)
    (hr : ∀ w : World, (Instr.buildSlice ty len vs.toArray).run P w = .ok (.slice (some ⟨w.heap.size, 0, none⟩) len len) (w.alloc (.cells l.toArray e)))
    (hl : l.length = len * size) (h0 : Nat.blt 0 len = true) (h1 : Nat.ble len 1000 = true)
    (h : ∀ g w' a', Mem w0 ex w' ((g, .row e size len l len) :: L) → Tm a' n ((t, .slice (some ⟨g, 0, none⟩) len len) :: E) → K a' w') : op.wp P a w K Q := by
  unfold Oper.wp execOp
  simp only [ho]
  have e1 : (parts.toArray.map fun x => (x.1, a.eval x.2)) = vs.toArray := by simp [← hv.map]
  have e2 : (parts.toArray.map fun (i, x) => (i, a.eval x)) = vs.toArray := e1
  rw [Sem.run_bind, e2, hr]
  have h1 := Nat.le_of_ble_eq_true h1
  refine h w.heap.size _ _ ?_ (by rw [hd]; exact T.put hn hf _)
  refine (M.alloc _).add M.size ⟨⟨hl, .inr ⟨w.heap.size, len, l.toArray, rfl, Nat.le_refl _, heap_alloc_new w _, Nat.le_refl _, by unfold maxLen; omega, by simp [hl], by simp [← hl]⟩⟩, Nat.le_of_ble_eq_true h0⟩ (fun q hq e => by have := (BA.lt (M.blk q hq).2); omega)
/-- A list is appended to a row of the call's own. What comes of it is known as cells. -/
theorem ow_appL {s x : Operand} {ty e size bytes b m d k cap : Nat} {B : Option Addr} {z : Value} {xs cs : List Value}
    (hinfo : (P.info? e).map (fun i => (i.zero, i.size, i.bytes)) = some (some z, size, bytes)) (M : Mem w0 ex w ((b, .row e size k xs cap) :: L)) (T : Tm a n E)
    (ho : op.op = .call { callee := .builtin .append, args := #[s, x], argTypes := #[ty, ty] }) (hd : op.dst = some t) (hf : freshE E t = true) (hnn : Nat.blt t n = true)
    (h0 : ∀ g (w : World), (Builtin.append_ #[ty, ty] op.type #[.slice (some ⟨g, 0, none⟩) k cap, .slice B 0 d]).run P w = .ok (.slice (some ⟨g, 0, none⟩) k cap) w)
    (ht : P.underlying ty = some (.slice e)) (hzs : z.cells.size = size) (hsz : Nat.blt 0 size = true) (hby : Nat.ble bytes 1000 = true) (hm : k + m ≤ 1000000)
    (hs : a.eval s = .slice (some ⟨b, 0, none⟩) k cap) (hx : a.eval x = .slice B m d) (hr : Rd w w.heap.size size B m cs) (h1 : ∀ u ∈ cs, u.oneCell' = true)
    (h : ∀ g cap' ys w' a', Mem w0 ex w' ((g, .cells ((xs ++ cs) ++ ys)) :: L) → Tm a' n ((t, .slice (some ⟨g, 0, none⟩) (k + m) cap') :: E) → K a' w') : op.wp P a w K Q := by
  have rowC : ∀ {g c : Nat} {zs : List Value} {k' : Nat} {w' : World} {L' : List (Nat × BA)}, Mem w0 ex w' ((g, .row e size k' zs c) :: L') → ∃ ys, Mem w0 ex w' ((g, .cells (zs ++ ys)) :: L') := by
    intro g c zs k' w' L' M'
    obtain ⟨⟨hl, hb⟩, hk⟩ := (M'.blk _ List.mem_cons_self).2
    rcases hb with ⟨hb, _⟩ | ⟨g', cap', cur, e1, _, hg, hc1, hc2, hc3, hc4⟩
    · cases hb
    · injection e1 with e1 _ _
      injection e1 with e1
      injection e1 with e1 _ _
      subst e1
      refine ⟨cur.toList.drop (k' * size), M'.os, M'.tape, M'.output, M'.size, M'.block, ?_, M'.nd⟩
      intro p hp
      rcases List.mem_cons.1 hp with rfl | hp
      · refine ⟨(M'.blk _ List.mem_cons_self).1, ?_⟩
        rw [← hc4, List.take_append_drop]
        exact Bk.of_heap hg
      · exact M'.blk p (List.mem_cons_of_mem _ hp)
  rcases Nat.eq_zero_or_pos m with rfl | hm0
  · obtain rfl : cs = [] := List.eq_nil_of_length_eq_zero (by have := hr.1; omega)
    unfold Oper.wp execOp
    simp only [ho, resolve, invoke, builtin, Sem.run_bind, Sem.run_pure, Result.andThen_ok, List.map_toArray, List.map_cons, List.map_nil, hs, hx, h0]
    obtain ⟨ys, M'⟩ := rowC M
    rw [← List.append_nil xs] at M'
    exact h b cap ys w _ M' (by rw [hd, Nat.add_zero]; exact T.put hnn hf _)
  · obtain ⟨i, hi, hz0, hz1, hz2⟩ := info_parts hinfo
    obtain ⟨g2, o2, rfl, hlt, hc⟩ := hr.cells hm0
    have hby := Nat.le_of_ble_eq_true hby
    have hsz := Nat.le_of_ble_eq_true hsz
    have hbb : (k + m) * bytes ≤ 140737488355328 := by
      have : (k + m) * bytes ≤ 1000000 * 1000 := Nat.mul_le_mul (by omega) hby
      omega
    have hrow := (M.blk _ List.mem_cons_self).2
    refine wp_append_lies w s x ty ho b e i z size bytes ht hi hz0 hz1 hz2 hzs hsz _ k xs hs hrow.1 ⟨g2, o2, none⟩ m d cs hx hr.1 (fun j u hu => by rw [Addr.add_mid]; exact hc j u hu) h1 hm0 (by unfold maxLen; omega) hbb (Nat.le_of_lt (BA.lt hrow)) w.heap.size rfl ?_
    intro g cap' w' hown hgr hat hlt
    have hgr : w.grownBy w' (some b) := hgr
    have hk := hrow.2
    have key : Mem w0 ex w' ((g, .row e size (k + m) (xs ++ cs) cap') :: L) := by
      rcases hat with h2 | h2
      · have h2 : some b = some g := h2
        injection h2 with h2
        subst h2
        exact M.callW (L' := (b, .row e size (k + m) (xs ++ cs) cap') :: L) .head hgr (own_rebase hown (by omega))
      · have M1 := M.callW (L' := (b, .any (fun _ => True)) :: L) .head hgr (by
          have hl0 : b < w'.heap.size := Nat.lt_of_lt_of_le (BA.lt hrow) hgr.size
          exact ⟨w'.heap[b], Array.getElem?_eq_getElem hl0, trivial⟩)
        exact M1.forget.add (by rw [h2]; exact M.size) (own_rebase hown (by omega)) (fun q hq e => by have := BA.lt (M.blk q (List.mem_cons_of_mem _ hq)).2; omega)
    obtain ⟨ys, M'⟩ := rowC key
    exact h g cap' ys w' _ M' (by rw [hd]; exact T.put hnn hf _)
/-- A number is stored into cells that are a list's. -/
theorem ow_stI {ty : TypeId} {x y : Operand} {g k : Nat} {v : Int} {l : List Int} {ys : List Value} {L' : List (Nat × BA)} (M : Mem w0 ex w L) (T : Tm a n E) (ho : op.op = .store ty x y) (hd : op.dst = none) (hx : a.eval x = .pointer (some ⟨g, 0 + k * 1, none⟩)) (hy : a.eval y = .int .i64 v)
    (hu : Upd L g (.cells (ic l ++ ys)) (.cells (ic (l.set k v) ++ ys)) L') (hk : k < l.length) (hi : (P.info? ty).map (·.size) = some 1)
    (h : ∀ w' a', Mem w0 ex w' L' → Tm a' n E → K a' w') : op.wp P a w K Q := by
  refine m_stw (ds := [.int .i64 v]) M ho hx hy rfl hu ?_ (by simp only [List.length_append, List.length_cons, List.length_nil, ic_length]; omega) rfl hi fun w' M' => h w' _ M' (by rw [hd]; exact T)
  rw [Nat.zero_add, Nat.mul_one, List.take_append_of_le_length (by rw [ic_length]; omega), List.drop_append_of_le_length (by rw [ic_length]; simp; omega), ← List.append_assoc]
  congr 1
  unfold ic
  rw [← List.map_take, ← List.map_drop, List.set_eq_take_append_cons_drop, if_pos hk]
  simp
/-- A range is stored into cells that are a list's. -/
theorem ow_stR {ty : TypeId} {x y : Operand} {g k : Nat} {v0 v1 : Int} {l : List (Int × Int)} {ys : List Value} {L' : List (Nat × BA)} (M : Mem w0 ex w L) (T : Tm a n E) (ho : op.op = .store ty x y) (hd : op.dst = none) (hx : a.eval x = .pointer (some ⟨g, 0 + k * 2, none⟩)) (hy : a.eval y = .agg #[.int .i64 v0, .int .i64 v1])
    (hu : Upd L g (.cells (rc l ++ ys)) (.cells (rc (l.set k (v0, v1)) ++ ys)) L') (hk : k < l.length) (hi : (P.info? ty).map (·.size) = some 2)
    (h : ∀ w' a', Mem w0 ex w' L' → Tm a' n E → K a' w') : op.wp P a w K Q := by
  have hc : ∀ (l : List (Int × Int)) (k : Nat), k < l.length → (rc l).take (k * 2) ++ [.int .i64 v0, .int .i64 v1] ++ (rc l).drop (k * 2 + 2) = rc (l.set k (v0, v1)) := by
    intro l
    induction l with
    | nil => intro k hk; simp at hk
    | cons p l ih =>
      intro k hk
      cases k with
      | zero => rfl
      | succ k =>
        have := ih k (by simpa using hk)
        rw [List.set_cons_succ]
        show (Value.int .i64 p.1 :: Value.int .i64 p.2 :: rc l).take ((k + 1) * 2) ++ _ ++ (Value.int .i64 p.1 :: Value.int .i64 p.2 :: rc l).drop ((k + 1) * 2 + 2) = Value.int .i64 p.1 :: Value.int .i64 p.2 :: rc (l.set k (v0, v1))
        rw [show (k + 1) * 2 = k * 2 + 1 + 1 by omega, show k * 2 + 1 + 1 + 2 = k * 2 + 2 + 1 + 1 by omega]
        simp only [List.take_succ_cons, List.drop_succ_cons, List.cons_append]
        rw [this]
  refine m_stw (ds := [.int .i64 v0, .int .i64 v1]) M ho hx hy rfl hu ?_ (by simp only [List.length_append, List.length_cons, List.length_nil, rc_length]; omega) rfl hi fun w' M' => h w' _ M' (by rw [hd]; exact T)
  rw [Nat.zero_add, List.take_append_of_le_length (by rw [rc_length]; omega), List.drop_append_of_le_length (by rw [rc_length]; simp; omega), ← List.append_assoc, ← hc l k hk]
  simp
theorem rn_rem {ty ty' : TypeId} {x y : Operand} {p q : Int} (ho : op.op = .binOp .rem ty x y ty') (hx : a.eval x = .int .i64 p) (hy : a.eval y = .int .i64 q) (hq : q ≠ 0) : Runs P op a (.int .i64 (p.tmod q)) w := by
  refine rn_bin ho hx hy ?_
  rw [eqGuard_rem, binOp_rem]
  unfold Op.intDiv
  rw [if_neg (by simpa using hq)]
  rfl
end
theorem tmod_bd (p : Int) (q : Nat) (h : 0 < q) : -(q : Int) < p.tmod q ∧ p.tmod q < q := by
  have h1 := Int.tmod_lt_of_pos p (b := (q : Int)) (by omega)
  have h2 := Int.tmod_lt_of_pos (-p) (b := (q : Int)) (by omega)
  rw [Int.neg_tmod] at h2
  omega

def Sw (size : Nat) (A : Option Addr) (n b : Nat) (xs : List Value) (I : List (Nat × BA)) : Prop := xs.length = n * size ∧ (n = 0 ∨ (A = some ⟨b, 0, none⟩ ∧ ∃ ys, I = [(b, .cells (xs ++ ys))]))
theorem Sw.sp {w : World} {ex : Nat → Prop} {size n b : Nat} {A : Option Addr} {xs : List Value} {I : List (Nat × BA)} (h : Sw size A n b xs I) : Sp w ex I A n size b 0 xs := by
  obtain ⟨hl, rfl | ⟨rfl, ys, rfl⟩⟩ := h
  · obtain rfl : xs = [] := List.eq_nil_of_length_eq_zero (by omega)
    exact ⟨fun h => absurd h (by omega), by simp, fun _ _ _ _ h => absurd h (by omega), fun _ _ _ _ j u hu => by simp at hu⟩
  · exact Sp.pre hl
theorem Sm.sw {w0 w : World} {ex : Nat → Prop} {L I : List (Nat × BA)} {e size n c : Nat} {A : Option Addr} {xs : List Value} (h : Sm e size A n c xs I) (M : Mem w0 ex w (L ++ I)) : ∃ b I', Sw size A n b xs I' ∧ Mem w0 ex w (L ++ I') := by
  rcases h with ⟨rfl, rfl, rfl, g, rfl, rfl⟩ | ⟨g, rfl, rfl⟩
  · exact ⟨0, _, ⟨by simp, .inl rfl⟩, M⟩
  · have M' := Mem.swapI (I := L) M
    obtain ⟨⟨hl, hb⟩, hk⟩ := (M'.blk _ List.mem_cons_self).2
    rcases hb with ⟨hb, _⟩ | ⟨g', cap', cur, e1, _, hg, hc1, hc2, hc3, hc4⟩
    · cases hb
    · injection e1 with e1 _ _
      injection e1 with e1
      injection e1 with e1 _ _
      subst e1
      refine ⟨g, [(g, .cells (xs ++ cur.toList.drop (n * size)))], ⟨hl, .inr ⟨rfl, _, rfl⟩⟩, Mem.swapI (I := [(g, .cells (xs ++ cur.toList.drop (n * size)))]) (L := L) ⟨M'.os, M'.tape, M'.output, M'.size, M'.block, ?_, M'.nd⟩⟩
      intro p hp
      rcases List.mem_cons.1 hp with rfl | hp
      · refine ⟨(M'.blk _ List.mem_cons_self).1, ?_⟩
        rw [← hc4, List.take_append_drop]
        exact Bk.of_heap hg
      · exact M'.blk p (List.mem_cons_of_mem _ hp)
theorem Upd.app {g : Nat} {p p' : BA} : ∀ (L : List (Nat × BA)), Upd (L ++ [(g, p)]) g p p' (L ++ [(g, p')])
  | [] => .head
  | _ :: L => .tail (Upd.app L)
theorem ow_stT {P : Program} {op : Oper} {a : Act} {K : Act → World → Prop} {Q : Exit → Act → World → Prop} {w0 w : World} {ex : Nat → Prop} {L0 I : List (Nat × BA)} {E : List (Nat × Value)} {n m : Nat} {ty : TypeId} {x y : Operand} {b k : Nat} {A : Option Addr} {v0 v1 : Int} {l : List (Int × Int)} (L1 : List (Nat × BA))
    (M : Mem w0 ex w L0) (hsp : L0 = L1 ++ I) (hS : Sw 2 A m b (rc l) I) (T : Tm a n E) (ho : op.op = .store ty x y) (hd : op.dst = none) (hx : a.eval x = .pointer (some ⟨b, 0 + k * 2, none⟩)) (hy : a.eval y = .agg #[.int .i64 v0, .int .i64 v1])
    (hk : k < l.length) (hi : (P.info? ty).map (·.size) = some 2)
    (h : ∀ I' w' a', Sw 2 A m b (rc (l.set k (v0, v1))) I' → Mem w0 ex w' (L1 ++ I') → Tm a' n E → K a' w') : op.wp P a w K Q := by
  subst hsp
  obtain ⟨hl, rfl | ⟨rfl, ys, rfl⟩⟩ := hS
  · rw [rc_length] at hl; omega
  · refine ow_stR M T ho hd hx hy (Upd.app L1) hk hi fun w' a' M' T' => h _ w' a' ⟨?_, .inr ⟨rfl, ys, rfl⟩⟩ M' T'
    rw [rc_length, List.length_set, ← rc_length]; exact hl

def TurnPost (n : Nat) (w : World) (e : Ending) (w' : World) : Prop := ∃ k : Nat, e = .returned (.int .i64 k) ∧ k < n ∧ Below w.heap.size w w'
theorem turn_bd (x : Int) (n : Nat) (h : 0 < n) : (-(n : Int) < x.tmod n ∧ x.tmod n < n) ∧ 0 ≤ (x.tmod n + n).tmod n ∧ (x.tmod n + n).tmod n < n := by
  have h1 := tmod_bd x n h
  exact ⟨h1, Int.tmod_nonneg _ (by omega), (tmod_bd _ n h).2⟩


set_option maxRecDepth 100000 in
set_option maxHeartbeats 1000000 in
theorem turn_any (x : Int) (n : Nat) (w : World) (h0 : 0 < n) (h9 : n ≤ 1000) :
    Calls Try.prog 52 #[.int .i64 x, .int .i64 (n : Int)] w (TurnPost n w) := by
  have hb := turn_bd x n h0
  refine px_enter noEx Try.func52 rfl 14 rfl [.int .i64 x, .int .i64 (n : Int)] rfl rfl (Mem.init w _) ?_
  intro ac wc T M
  refine wp_seq ?_
  refine wp_region_lit ?_
  refine l_q T rfl rfl rfl rfl (rn_assign rfl evc) ?_; clear T ac; intro ac T
  refine wpList_nil ?_
  replace T := T.pick [1, 2] rfl
  refine nm_then ?_
  refine wp_seq ?_
  refine wp_seq ?_
  refine wp_region_lit ?_
  refine l_q T rfl rfl rfl rfl (rn_move rfl (T.ev 1 rfl)) ?_; clear T ac; intro ac T
  refine l_q T rfl rfl rfl rfl (rn_lss rfl (T.ev 0 rfl) evc) ?_; clear T ac; intro ac T
  refine wpList_nil ?_
  replace T := T.pick [0, 2, 3] rfl
  refine nm_then ?_
  refine wp_if (T.ev 0 rfl) ?_ ?_
  · intro h1
    refine wp_seq ?_
    refine wp_region_lit ?_
    refine l_q T rfl rfl rfl rfl (rn_assign rfl evc) ?_; clear T ac; intro ac T
    refine wpList_nil ?_
    replace T := T.pick [0] rfl
    refine nm_then ?_
    refine wp_ret ?_
    refine rt_then ?_
    refine rt_1 T rfl (T.ev 0 rfl) ?_
    exact ⟨0, rfl, h0, M.below⟩
  · intro h1
    refine wp_skip ?_
    refine nm_then ?_
    refine wp_seq ?_
    refine wp_region_lit ?_
    refine l_q T rfl rfl rfl rfl (rn_move rfl (T.ev 1 rfl)) ?_; clear T ac; intro ac T
    refine l_q T rfl rfl rfl rfl (rn_move rfl (T.ev 3 rfl)) ?_; clear T ac; intro ac T
    refine l_q T rfl rfl rfl rfl (rn_rem rfl (T.ev 1 rfl) (T.ev 0 rfl) (by omega)) ?_; clear T ac; intro ac T
    refine l_q T rfl rfl rfl rfl (rn_move rfl (T.ev 5 rfl)) ?_; clear T ac; intro ac T
    refine l_q T rfl rfl rfl rfl (rn_add rfl (T.ev 1 rfl) (T.ev 0 rfl) (by omega)) ?_; clear T ac; intro ac T
    refine l_q T rfl rfl rfl rfl (rn_move rfl (T.ev 7 rfl)) ?_; clear T ac; intro ac T
    refine l_q T rfl rfl rfl rfl (rn_rem rfl (T.ev 1 rfl) (T.ev 0 rfl) (by omega)) ?_; clear T ac; intro ac T
    refine l_q T rfl rfl rfl rfl (rn_assign rfl (T.ev 0 rfl)) ?_; clear T ac; intro ac T
    refine wpList_nil ?_
    replace T := T.pick [0] rfl
    refine nm_then ?_
    refine wp_ret ?_
    refine rt_1 T rfl (T.ev 0 rfl) ?_
    exact ⟨_, by rw [Int.toNat_of_nonneg hb.2.1], by omega, M.below⟩

def StrokesPost (bp : Nat) (most : Int) (w : World) (e : Ending) (w' : World) : Prop :=
  ∃ (l : List Int) (A : Option Addr) (c : Nat) (s : Int) (I : List (Nat × BA)), e = .returned (.slice A l.length c) ∧ ((l.length : Int) ≤ most ∧ ∀ q ∈ l, q = 1 ∨ q = 2) ∧ u64ok s ∧ Sl 3 1 (.slice A l.length c) l.length (ic l) I ∧ Mem w (fun b => b = bp) w' (I ++ [(bp, .cells [.int .u64 s])])
theorem ic_snoc (l : List Int) (x : Int) : ic l ++ [.int .i64 x] = ic (l ++ [x]) := by simp [ic]


set_option maxRecDepth 100000 in
set_option maxHeartbeats 1000000 in
theorem strokesOf_any (s : Int) (bp : Nat) (most : Int) (w : World) (hm0 : 0 ≤ most) (hm1 : most ≤ 40) (hp : Bk w bp #[.int .u64 s]) (hs : u64ok s) :
    Calls Try.prog 32 #[.pointer (some ⟨bp, 0, none⟩), .int .i64 most] w (StrokesPost bp most w) := by
  refine px_enter (fun b => b = bp) Try.func32 rfl 21 rfl [.pointer (some ⟨bp, 0, none⟩), .int .i64 most] rfl rfl (Mem.initEx (p := .cells [.int .u64 s]) hp) ?_
  intro ac wc T M
  refine wp_seq ?_
  refine wp_region_lit ?_
  refine l_q T rfl rfl rfl rfl (rn_assign rfl evc) ?_; clear T ac; intro ac T
  refine wpList_nil ?_
  replace T := T.pick [1, 2] rfl
  refine nm_then ?_
  refine wp_seq ?_
  refine wp_region_lit ?_
  refine l_q T rfl rfl rfl rfl (rn_assign rfl evc) ?_; clear T ac; intro ac T
  refine wpList_nil ?_
  refine nm_then ?_
  refine wp_seq ?_
  refine wp_seq ?_
  refine wp_region_lit ?_
  refine l_q T rfl rfl rfl rfl (rn_move rfl (T.ev 1 rfl)) ?_; clear T ac; intro ac T
  refine l_q T rfl rfl rfl rfl (rn_move rfl (T.ev 3 rfl)) ?_; clear T ac; intro ac T
  refine l_w rfl ?_; intro K hK
  refine ow_call (first := []) (cap := []) T rfl rfl rfl rfl evf (.cons (T.ev 1 rfl) (.cons (T.ev 0 rfl) .nil)) Try.func28 rfl rfl ?_
  refine Calls.mono (upto_any _ bp most _ (by omega) (by omega) (M.nth 0 rfl) hs) ?_
  clear T
  rintro e wc ⟨xu1, su1, hxu1, hsu1, rfl, hgr, hbk⟩
  intro ac T
  replace M := M.callC (cs' := [.int .u64 su1]) .head hgr hbk
  clear hgr hbk
  refine sh_out hK _ _ ?_; clear hK K
  refine l_q T rfl rfl rfl rfl (rn_assign rfl (T.ev 0 rfl)) ?_; clear T ac; intro ac T
  refine wpList_nil ?_
  replace T := T.pick [0, 4, 5] rfl
  refine nm_then ?_
  refine wp_block ?_
  refine wp_loop_n (fun mz ac wc => ∃ (i : Int) (l : List Int) (A : Option Addr) (c : Nat) (s : Int) (I : List (Nat × BA)), mz = i.toNat ∧ (0 ≤ i) ∧ ((l.length : Int) + i ≤ most) ∧ (∀ q ∈ l, q = 1 ∨ q = 2) ∧ (u64ok s) ∧ (Sl 3 1 (.slice A l.length c) l.length (ic l) I) ∧ Tm ac 21 [(0, .pointer (some ⟨bp, 0, none⟩)), (5, .slice A l.length c), (6, .int .i64 i)] ∧ Mem w (fun b => b = bp) wc ((bp, .cells [.int .u64 s]) :: I)) ?_ ?_
  · exact ⟨_, _, [], none, 0, _, [], rfl, (by omega), (by simp; omega), (fun q hq => by cases hq), hsu1, (Sl.nil _ _), T.pick [2, 1, 0] rfl, M.mask [true] rfl⟩
  · clear T M
    rintro mz ac wc ⟨i, l, A, c, s, I, hmm1, hi, hlen, hq, hs, hsl, T, M⟩
    refine wp_seq ?_
    refine wp_seq ?_
    refine wp_region_lit ?_
    refine l_q T rfl rfl rfl rfl (rn_move rfl (T.ev 2 rfl)) ?_; clear T ac; intro ac T
    refine l_q T rfl rfl rfl rfl (rn_gtr rfl (T.ev 0 rfl) evc) ?_; clear T ac; intro ac T
    refine wpList_nil ?_
    replace T := T.pick [0, 2, 3, 4] rfl
    refine nm_then ?_
    refine wp_if (T.ev 0 rfl) ?_ ?_
    · intro h1
      refine wp_skip ?_
      refine nm_then ?_
      refine wp_seq ?_
      refine wp_block ?_
      refine wp_region_lit ?_
      refine l_q T rfl rfl rfl rfl (rn_move rfl (T.ev 2 rfl)) ?_; clear T ac; intro ac T
      refine l_q T rfl rfl rfl rfl (rn_move rfl (T.ev 2 rfl)) ?_; clear T ac; intro ac T
      refine l_w rfl ?_; intro K hK
      refine ow_bs (e := 3) [.int .i64 1, .int .i64 2] M T rfl rfl rfl rfl (.cons evc (.cons evc .nil)) (fun _ => by kernel_rfl) ?_; clear M T; intro g1 wc ac M T
      refine sh_out hK _ _ ?_; clear hK K
      refine l_w rfl ?_; intro K hK
      refine ow_call (first := []) (cap := []) T rfl rfl rfl rfl evf (.cons (T.ev 1 rfl) (.cons (T.ev 0 rfl) .nil)) Try.func60 rfl rfl ?_
      refine Calls.mono (of_any _ bp _ 2 2 [1, 2] _ (M.rdOwn (nthE_mem (i := 0) rfl) rfl rfl) (M.nee 0 1 rfl rfl rfl) (by decide) (by decide) (M.nth 1 rfl) hs) ?_
      clear T
      rintro e wc ⟨xu2, su2, hxu2, hsu2, rfl, hgr, hbk⟩
      intro ac T
      replace M := M.callC (cs' := [.int .u64 su2]) (.tail .head) hgr hbk
      clear hgr hbk
      simp only [List.mem_cons, List.not_mem_nil, or_false] at hxu2
      refine sh_out hK _ _ ?_; clear hK K
      refine l_w rfl ?_; intro K hK
      refine ow_bs (e := 3) [.int .i64 xu2] M T rfl rfl rfl rfl (.cons (T.ev 0 rfl) .nil) (fun _ => by kernel_rfl) ?_; clear M T; intro g2 wc ac M T
      refine sh_out hK _ _ ?_; clear hK K
      refine l_w rfl ?_; intro K hK
      refine ow_app ([(g2, .cells [.int .i64 xu2]), (g1, .cells [.int .i64 1, .int .i64 2]), (bp, .cells [.int .u64 su2])]) Try.info3 hsl M (by first | rfl | simp) T rfl rfl rfl rfl Try.underlying31 rfl rfl rfl (by omega) (T.ev 4 rfl) (T.ev 0 rfl) (nthE_mem (i := 0) rfl) rfl rfl ?_; clear M T; intro ga1 cga1 wc ac M T
      refine sh_out hK _ _ ?_; clear hK K
      refine l_q (v := (.slice (some ⟨ga1, 0, none⟩) (l.length + 1) cga1)) (T.pick [0, 1, 2, 3, 4, 5, 6, 7, 9] rfl) rfl rfl rfl rfl (rn_assign rfl (T.ev 0 rfl)) ?_; clear T ac; intro ac T
      refine wpList_nil ?_
      replace T := T.pick [0, 8, 9] rfl
      replace M := M.mask [true, false, false, true] rfl
      refine nm_blk ?_
      refine nm_then ?_
      refine wp_region_lit ?_
      refine l_q T rfl rfl rfl rfl (rn_move rfl (T.ev 2 rfl)) ?_; clear T ac; intro ac T
      refine l_q T rfl rfl rfl rfl (rn_sub rfl (T.ev 0 rfl) evc (by omega)) ?_; clear T ac; intro ac T
      refine l_q (v := (.int .i64 (i - 1))) (T.pick [0, 1, 2, 3] rfl) rfl rfl rfl rfl (rn_assign rfl (T.ev 0 rfl)) ?_; clear T ac; intro ac T
      refine wpList_nil ?_
      replace T := T.pick [0, 3, 4] rfl
      refine nm_then ?_
      have e9 : l.length + 1 = (l ++ [xu2]).length := by simp
      rw [e9, ic_snoc] at M
      rw [e9] at T
      clear e9
      exact ⟨_, by omega, (i - 1), (l ++ [xu2]), _, cga1, su2, [(ga1, .row 3 1 (l ++ [xu2]).length (ic (l ++ [xu2])) cga1)], rfl, (by omega), (by simp only [List.length_append, List.length_cons, List.length_nil]; omega), (fun q hq' => by rcases List.mem_append.1 hq' with h9 | h9; exact hq q h9; simp only [List.mem_cons, List.not_mem_nil, or_false] at h9; subst h9; omega), hsu2, (Sl.row _ _ _ _ _ _), T.pick [2, 1, 0] rfl, M.perm [1, 0] rfl rfl⟩
    · intro h1
      refine wp_exit ?_
      refine ex_then ?_
      refine ex_then ?_
      refine ex_hit ?_
      refine nm_then ?_
      refine wp_seq ?_
      refine wp_region_lit ?_
      refine l_q T rfl rfl rfl rfl (rn_move rfl (T.ev 2 rfl)) ?_; clear T ac; intro ac T
      refine l_q T rfl rfl rfl rfl (rn_assign rfl (T.ev 0 rfl)) ?_; clear T ac; intro ac T
      refine wpList_nil ?_
      replace T := T.pick [0] rfl
      refine nm_then ?_
      refine wp_ret ?_
      refine rt_1 T rfl (T.ev 0 rfl) ?_
      exact ⟨l, A, c, _, I, rfl, ⟨by omega, hq⟩, hs, hsl, Mem.swapI (I := [(bp, .cells [.int .u64 s])]) (L := I) (M.mask [true] rfl)⟩

end Go.Proofs.Ythlpceoajhcliaa
end

section
/-
  Arguments that came in: slices of jobs.
-/
namespace Go.Proofs.Ythlpceoajhcliaa
set_option linter.unusedSimpArgs false
set_option linter.unusedVariables false
open Go.ChangeShapes Go.WideShapes Go.ChangeAt Go.RowKit

instance : Inhabited JE := ⟨(⟨0, 0, 0, 0, 0, 0, 0, 0, 0, 0, 0, 0, 0, 0, 0, [], 0, 0⟩, none, 0)⟩
section
variable {H : Type} {enc : TypeId × Value → H} {P : Program} {W : World} {base : Nat} {sp : Nat → Bool} {hd : Bool}
theorem jobC_list (j : Jb) (A : Option Addr) (c : Nat) : #[.int .i64 j.p0, .int .i64 j.p1, .int .i64 j.t0, .int .i64 j.t1, .int .i64 j.r0, .int .i64 j.r1, .int .i64 j.u0, .int .i64 j.u1, .int .i64 j.d0, .int .i64 j.d1, .int .i64 j.a0, .int .i64 j.a1, .int .i64 j.b0, .int .i64 j.b1, .int .i64 j.le, .slice A j.sh.length c, .int .i64 j.wi, .int .i64 j.me] = (jobL j A c).toArray := rfl
theorem cells_jobs {fuel : Nat} {cs : List Value} {x : DataW H × List MemPlace} (h : DataW.trod enc Try.prog W 0 (fun _ => true) true fuel 36 cs = some x) (hlt : ∀ y ∈ x.2, y.block < W.heap.size) :
    ∃ A c L, cs = [.slice A (L : List JE).length c] ∧ Rd W W.heap.size 18 A L.length (jc L) ∧ (∀ x ∈ L, Rd W W.heap.size 2 x.2.1 x.1.sh.length (rc x.1.sh) ∧ x.1.sh.length ≤ 9223372036854775807) ∧ L.length ≤ 9223372036854775807 := by
  rcases Go.Deep.open_slice Try.underlying36 h with ⟨rfl, _⟩ | ⟨a, len, cap, m, n, D, Pl, rfl, _, hl, hm, hmm, rfl, hx⟩
  · exact ⟨none, 0, [], rfl, Rd.empty, (fun x hx => by cases hx), Nat.zero_le _⟩
  simp only [if_true] at hmm
  subst hmm
  rw [cJob] at hx hlt
  obtain ⟨V, hV⟩ := Go.Deep.choose_lt (α := JE) (p := fun i v => W.cells? 0 (a.add (i * 18)) 18 = some (jobL v.1 v.2.1 v.2.2) ∧ Rd W W.heap.size 2 v.2.1 v.1.sh.length (rc v.1.sh) ∧ v.1.sh.length ≤ 9223372036854775807) (fun i hi => by
    obtain ⟨cs', h1, h2⟩ := hx i hi
    obtain ⟨j, A, c, e, hr, hn⟩ := cells_job h2 (fun y hy => hlt y (List.mem_append_right _ (List.mem_flatMap.2 ⟨i, List.mem_range.2 hi, hy⟩)))
    have e : cs' = jobL j A c := by
      have := congrArg Array.toList e
      simpa using this
    exact ⟨(j, A, c), by rw [← e]; exact h1, hr, hn⟩)
  have hlen : ((List.range len).map V).length = len := by simp
  refine ⟨some a, m, (List.range len).map V, by rw [hlen], ?_, ?_, by rw [hlen]; unfold maxLen at hm; omega⟩
  · rw [hlen]
    refine ⟨by rw [jc_length, hlen], fun hn => ?_⟩
    obtain ⟨b, off, spot⟩ := a
    have hspot : spot = none := by
      obtain ⟨_, _, h3⟩ := World.cells?_some (hV 0 (by omega)).1
      have q0 := h3 0 (by omega)
      have q1 : W.cell? (((⟨b, off, spot⟩ : Addr).add (0 * 18)).add 0) = some (.int .i64 (V 0).1.p0) := q0
      simpa [Addr.add] using World.cell?_spot q1
    subst hspot
    refine ⟨b, off, rfl, hlt (.cell b off) (List.mem_append_left _ (MemPlace.mem_row.2 ⟨0, by omega, by simp⟩)), fun k u hu => ?_⟩
    have hk : k < len * 18 := by
      have := (List.getElem?_eq_some_iff.1 hu).1
      rw [jc_length, hlen] at this
      exact this
    have hi : k / 18 < len := by omega
    have hL : ((List.range len).map V)[k / 18]? = some (V (k / 18)) := by rw [List.getElem?_map, List.getElem?_range hi]; rfl
    have h0 := (hV (k / 18) (by omega)).1
    rw [Addr.add_mid] at h0
    obtain ⟨_, _, h3⟩ := World.cells?_some h0
    have q := h3 (k % 18) (by omega)
    rw [Addr.add_mid, show off + k / 18 * 18 + k % 18 = off + k by omega] at q
    have hr : k % 18 < (jobL (V (k / 18)).1 (V (k / 18)).2.1 (V (k / 18)).2.2).length := by show k % 18 < 18; omega
    have hg := jc_get _ _ hL (k % 18) _ (List.getElem?_eq_getElem hr)
    rw [show k / 18 * 18 + k % 18 = k by omega, hu] at hg
    rw [q, List.getElem?_eq_getElem hr]
    exact hg.symm
  · intro x hx
    obtain ⟨i, hi, rfl⟩ := List.mem_map.1 hx
    exact (hV i (by have := List.mem_range.1 hi; omega)).2
set_option maxRecDepth 100000 in
theorem read_jobs {v : Value} {d : DataW H} {ps : List MemPlace} {b0 : Nat} (hv : Value.okWide Try.prog W .any b0 36 v) (h : DataW.Trod enc Try.prog W 0 (fun _ => true) true 36 v d ps) (hlt : ∀ x ∈ ps, x.block < W.heap.size) :
    ∃ A c L, v = .slice A (L : List JE).length c ∧ Rd W W.heap.size 18 A L.length (jc L) ∧ (∀ x ∈ L, Rd W W.heap.size 2 x.2.1 x.1.sh.length (rc x.1.sh) ∧ x.1.sh.length ≤ 9223372036854775807) ∧ L.length ≤ 9223372036854775807 := by
  obtain ⟨a0, len, cap, rfl⟩ := okWide_slice Try.underlying36 hv
  obtain ⟨fuel, hf⟩ := h
  obtain ⟨A, c, L, e, h1⟩ := cells_jobs hf hlt
  have e : [Value.slice a0 len cap] = [.slice A L.length c] := by simpa [Value.cells] using e
  injection e with e _
  exact ⟨A, c, L, e, h1⟩
end
end Go.Proofs.Ythlpceoajhcliaa
end

section
/-
  reed: After.
-/
namespace Go.Proofs.Ythlpceoajhcliaa
set_option linter.unusedSimpArgs false
set_option linter.unusedVariables false
open Go.RowKit

def St.tongue (s : St) : Array Value := #[.int .i64 s.p0, .int .i64 s.p1, .int .i64 s.t0, .int .i64 s.t1, .int .i64 s.r0, .int .i64 s.r1]
def tongue0 : Array Value := #[.int .i64 0, .int .i64 0, .int .i64 0, .int .i64 0, .int .i64 0, .int .i64 0]
def afterC (j : Jb) (l : List Int) : Array Value := if checkStrokesJ j l = 0 then (j.st.after l).tongue else tongue0

theorem Try.fieldTongue (w : World) (a b c d e f g h i j k l m n o : Value) : (Instr.field 92 (.agg #[a, b, c, d, e, f, g, h, i, j, k, l, m, n, o]) 0).run Try.prog w = .ok (.agg #[a, b, c, d, e, f]) w := by kernel_rfl

theorem strokes_of {j : Jb} {l : List Int} (h : checkStrokesJ j l = 0) : checkJ j = 0 ∧ l.length ≤ 6 ∧ ∀ k ∈ l, okS k = true := by
  unfold checkStrokesJ at h
  split at h
  · rename_i h1; rw [h] at h1; simp at h1
  rename_i h1
  split at h
  · omega
  · exact ⟨bne_no h1, by omega, chkS_of h⟩

set_option maxRecDepth 100000 in
set_option maxHeartbeats 1000000 in
theorem After_any (j : Jb) (A : Option Addr) (c : Nat) (B : Option Addr) (d n : Nat) (l : List Int) (w : World) (hr : Rd w w.heap.size 2 A j.sh.length (rc j.sh)) (hn : j.sh.length ≤ 9223372036854775807) (hl : Rd w w.heap.size 1 B n (ic l)) (hm : n ≤ 9223372036854775807) :
    Calls Try.prog 34 #[jobV j A c, .slice B n d] w fun e w' => e = .returned (.tuple #[.agg (afterC j l), .int .i64 (checkStrokesJ j l)]) ∧ Below w.heap.size w w' := by
  have HR := Lib.hid hr
  have HL := Lib.hid hl
  have HN := Lib.hid hl.len1
  clear hr hl
  have q0 := (Bk.new w 30 #[.int .i64 j.p0, .int .i64 j.p1, .int .i64 j.t0, .int .i64 j.t1, .int .i64 j.r0, .int .i64 j.r1, .int .i64 j.u0, .int .i64 j.u1, .int .i64 j.d0, .int .i64 j.d1, .int .i64 j.a0, .int .i64 j.a1, .int .i64 j.b0, .int .i64 j.b1, .int .i64 j.le, .slice A j.sh.length c, .int .i64 j.wi, .int .i64 j.me]).alloc (.cells #[.int .i64 0, .int .i64 0, .int .i64 0, .int .i64 0, .int .i64 0, .int .i64 0] 25)
  have z0 : Bk ((w.alloc (.cells #[.int .i64 j.p0, .int .i64 j.p1, .int .i64 j.t0, .int .i64 j.t1, .int .i64 j.r0, .int .i64 j.r1, .int .i64 j.u0, .int .i64 j.u1, .int .i64 j.d0, .int .i64 j.d1, .int .i64 j.a0, .int .i64 j.a1, .int .i64 j.b0, .int .i64 j.b1, .int .i64 j.le, .slice A j.sh.length c, .int .i64 j.wi, .int .i64 j.me] 30)).alloc (.cells #[.int .i64 0, .int .i64 0, .int .i64 0, .int .i64 0, .int .i64 0, .int .i64 0] 25)) (w.heap.size + 1) #[.int .i64 0, .int .i64 0, .int .i64 0, .int .i64 0, .int .i64 0, .int .i64 0] := by (repeat' (first | (with_reducible refine Bk.drew ?_) | ((with_reducible refine Bk.newAt _ _ _ _ ?_); (simp; done)) | (with_reducible refine Bk.alloc ?_ _)))
  by_cases h0 : checkStrokesJ j l = 0
  · obtain ⟨hc, h6, hk⟩ := strokes_of h0
    have HU := Lib.hid (good_of hc).st
    have HK := Lib.hid hk
    have h6' : n ≤ 6 := by have := HN.out; omega
    have HA : Hid (afterC j l = (j.st.after l).tongue) := by show _ = _; unfold afterC; rw [if_pos h0]
    have H0 := Lib.hid h0
    clear hc h6 hk h0
    generalize afterC j l = ac at *
    generalize hcs : checkStrokesJ j l = cs at *
    have HCS := Lib.hid hcs
    clear hcs
    have hfld := Try.fieldTongue
    go_enter Try.func34, Try.ntmps34
    go_wp2_with (first
      | (refine wpList_load_blk (by rfl) 30 (.tmp 2) (by rfl) _ (by rfl) _ q0 _ Try.underlying30 (by rfl) (by kernel_rfl) ?_)
      | (go_at_call 83; ((with_reducible refine (checkStrokes_any j _ _ _ _ _ l _ ?_ hn ?_ hm).mono ?_); (exact (HR.out.below (by (repeat' (first | (with_reducible exact Below.refl _ _) | (with_reducible refine Below.alloc ?_ ?_ _) | (with_reducible refine Below.setCell ?_ ?_ _) | (with_reducible refine Below.drew ?_) | ((with_reducible refine Below.trans ?_ (Below.mono (by assumption) ?_))) | go_size)))).more (by go_size)); (exact (HL.out.below (by (repeat' (first | (with_reducible exact Below.refl _ _) | (with_reducible refine Below.alloc ?_ ?_ _) | (with_reducible refine Below.setCell ?_ ?_ _) | (with_reducible refine Below.drew ?_) | ((with_reducible refine Below.trans ?_ (Below.mono (by assumption) ?_))) | go_size)))).more (by go_size)); rintro e w1 ⟨rfl, hb1⟩; have hz1 := hb1.size; (try simp only [World.size_alloc] at hz1); rw [HCS.out, H0.out]; have hbw1 : Below w.heap.size w w1 := (by (repeat' (first | (with_reducible exact Below.refl _ _) | (with_reducible refine Below.alloc ?_ ?_ _) | (with_reducible refine Below.setCell ?_ ?_ _) | (with_reducible refine Below.drew ?_) | ((with_reducible refine Below.trans ?_ (Below.mono (by assumption) ?_))) | go_size))); have q1 := q0.below hb1; have z1 := z0.below hb1))
      | (refine wpList_load_blk (by rfl) 30 (.tmp 2) (by rfl) _ (by rfl) _ q1 _ Try.underlying30 (by rfl) (by kernel_rfl) ?_)
      | (go_at_call 69; ((with_reducible refine (after_any j _ _ _ _ _ l _ ?_ (by omega) HU.out HK.out).mono ?_); (exact (HL.out.below hbw1).more hbw1.size); rintro e w2 ⟨rfl, hb2⟩; have hz2 := hb2.size; (try simp only [World.size_alloc] at hz2); have hbw2 : Below w.heap.size w w2 := bl_trans hbw1 hb2 hbw1.size; have z2 := z1.below hb2))
      | (refine wpList_store_blk (by rfl) 25 (.tmp 4) (.tmp 17) (by rfl) _ _ _ (by rfl) (by rfl) z2 (by rfl) (by kernel_rfl) (by simp [Value.oneCell']) ?_; intro w3 z3 ho3))
    refine ret_blk1 4 5 25 (by rfl) (by rfl) _ _ (by rfl) (by rfl) _ z3 _ Try.underlying25 (by rfl) (by kernel_rfl) ?_
    rw [HA.out, H0.out]
    exact ⟨rfl, bl_oth hbw2 ho3 (by omega)⟩
  · have h1 : (checkStrokesJ j l != 0) = true := by simpa using h0
    have HA : Hid (afterC j l = tongue0) := by show _ = _; unfold afterC; rw [if_neg h0]
    clear h0
    generalize afterC j l = ac at *
    go_enter Try.func34, Try.ntmps34
    go_wp2_with (first
      | (refine wpList_load_blk (by rfl) 30 (.tmp 2) (by rfl) _ (by rfl) _ q0 _ Try.underlying30 (by rfl) (by kernel_rfl) ?_)
      | (go_at_call 83; ((with_reducible refine (checkStrokes_any j _ _ _ _ _ l _ ?_ hn ?_ hm).mono ?_); (exact (HR.out.below (by (repeat' (first | (with_reducible exact Below.refl _ _) | (with_reducible refine Below.alloc ?_ ?_ _) | (with_reducible refine Below.setCell ?_ ?_ _) | (with_reducible refine Below.drew ?_) | ((with_reducible refine Below.trans ?_ (Below.mono (by assumption) ?_))) | go_size)))).more (by go_size)); (exact (HL.out.below (by (repeat' (first | (with_reducible exact Below.refl _ _) | (with_reducible refine Below.alloc ?_ ?_ _) | (with_reducible refine Below.setCell ?_ ?_ _) | (with_reducible refine Below.drew ?_) | ((with_reducible refine Below.trans ?_ (Below.mono (by assumption) ?_))) | go_size)))).more (by go_size)); rintro e w1 ⟨rfl, hb1⟩; have hz1 := hb1.size; (try simp only [World.size_alloc] at hz1); have hbw1 : Below w.heap.size w w1 := (by (repeat' (first | (with_reducible exact Below.refl _ _) | (with_reducible refine Below.alloc ?_ ?_ _) | (with_reducible refine Below.setCell ?_ ?_ _) | (with_reducible refine Below.drew ?_) | ((with_reducible refine Below.trans ?_ (Below.mono (by assumption) ?_))) | go_size))); have z1 := z0.below hb1))
      | (refine wpList_store_blk (by rfl) 25 (.tmp 4) (.tmp 12) (by rfl) _ _ _ (by rfl) (by rfl) z1 (by rfl) (by kernel_rfl) (by simp [Value.oneCell']) ?_; intro w3 z3 ho3))
    refine ret_blk1 4 5 25 (by rfl) (by rfl) _ _ (by rfl) (by rfl) _ z3 _ Try.underlying25 (by rfl) (by kernel_rfl) ?_
    rw [HA.out]
    exact ⟨rfl, bl_oth hbw1 ho3 (by omega)⟩

end Go.Proofs.Ythlpceoajhcliaa
end

section
/-
  reed: Passes and Worst.
-/
namespace Go.Proofs.Ythlpceoajhcliaa
set_option linter.unusedSimpArgs false
set_option linter.unusedVariables false
open Go.RowKit

def passesT (j : Jb) : Int × Int := if checkJ j = 0 then (passesJ j j.p0 j.p1, 0) else (0, checkJ j)

set_option maxRecDepth 100000 in
set_option maxHeartbeats 1000000 in
theorem Passes_any (j : Jb) (A : Option Addr) (c : Nat) (w : World) (hr : Rd w w.heap.size 2 A j.sh.length (rc j.sh)) (hn : j.sh.length ≤ 9223372036854775807) :
    Calls Try.prog 46 #[jobV j A c] w fun e w' => e = .returned (.tuple #[.int .i64 (passesT j).1, .int .i64 (passesT j).2]) ∧ Below w.heap.size w w' := by
  have HR := Lib.hid hr
  clear hr
  by_cases h0 : checkJ j = 0
  · have HO := Lib.hid (good_of h0).ok
    have HW : Hid (passesT j = (passesJ j j.p0 j.p1, 0)) := by show _ = _; unfold passesT; rw [if_pos h0]
    have H0 := Lib.hid h0
    clear h0
    generalize passesT j = gj at *
    go_enter Try.func46, Try.ntmps46
    refine start noEx ?_
    intro wc M
    go_wp2_with (first | (refine m_ld1 M rfl rfl rfl (by (repeat' (first | exact List.mem_cons_self | refine List.mem_cons_of_mem _ ?_))) (by rfl) ?_) | (refine m_ldr M rfl rfl rfl (by (repeat' (first | exact List.mem_cons_self | refine List.mem_cons_of_mem _ ?_))) (by (try simp only [List.take_succ_cons, List.take_zero, List.take_nil, List.drop_succ_cons, List.drop_zero, List.drop_nil, List.cons_append, List.nil_append, List.append_nil, List.length_cons, List.length_nil, Nat.reduceAdd, Nat.zero_add, Nat.add_zero]); rfl) (by rfl) ?_) | (refine m_st M rfl rfl rfl (by first | exact (rfl : _ = Value.agg _) | exact (rfl : _ = Value.int _ _) | exact (rfl : _ = Value.bool _) | exact (rfl : _ = Value.slice _ _ _) | exact (rfl : _ = Value.pointer _) | exact (rfl : _ = Value.map _) | exact (rfl : _ = Value.func _ _ _) | exact (rfl : _ = Value.string _)) (by rfl) (by (repeat (first | exact Upd.head | apply Upd.tail))) (by (try simp only [List.take_succ_cons, List.take_zero, List.take_nil, List.drop_succ_cons, List.drop_zero, List.drop_nil, List.cons_append, List.nil_append, List.append_nil, List.length_cons, List.length_nil, Nat.reduceAdd, Nat.zero_add, Nat.add_zero]); rfl) (by simp) (by simp [Value.oneCell']) (by kernel_rfl) ?_; clear M; (try clear wc); intro wc M) | (refine m_al M rfl rfl ?_; clear M; (try clear wc); intro g wc M) | (refine m_bx M rfl rfl (by first | exact (rfl : _ = Value.agg _) | exact (rfl : _ = Value.int _ _) | exact (rfl : _ = Value.bool _) | exact (rfl : _ = Value.slice _ _ _) | exact (rfl : _ = Value.pointer _) | exact (rfl : _ = Value.map _) | exact (rfl : _ = Value.func _ _ _) | exact (rfl : _ = Value.string _)) (by rfl) ?_; clear M; (try clear wc); intro g wc M) | (go_at_call 49; ((with_reducible refine (check_any j _ _ _ ?_ ?_).mono ?_); ((exact M.rd HR.out (Nat.le_refl _)); (exact hn)); rw [H0.out]; rintro e wc ⟨rfl, hb⟩; replace M := M.call hb; clear hb)) | (go_at_call 88; ((with_reducible refine (passes_any j _ _ _ _ _ HO.out ?_).mono ?_); (exact M.rd HR.out (Nat.le_refl _)); rintro e wc ⟨rfl, hb⟩; replace M := M.call hb; clear hb)))
    go_ret2
    rw [HW.out]
    exact ⟨rfl, M.below⟩
  · have h1 : (checkJ j != 0) = true := by simpa using h0
    have HW : Hid (passesT j = (0, checkJ j)) := by show _ = _; unfold passesT; rw [if_neg h0]
    clear h0
    generalize passesT j = gj at *
    go_enter Try.func46, Try.ntmps46
    refine start noEx ?_
    intro wc M
    go_wp2_with (first | (refine m_ld1 M rfl rfl rfl (by (repeat' (first | exact List.mem_cons_self | refine List.mem_cons_of_mem _ ?_))) (by rfl) ?_) | (refine m_ldr M rfl rfl rfl (by (repeat' (first | exact List.mem_cons_self | refine List.mem_cons_of_mem _ ?_))) (by (try simp only [List.take_succ_cons, List.take_zero, List.take_nil, List.drop_succ_cons, List.drop_zero, List.drop_nil, List.cons_append, List.nil_append, List.append_nil, List.length_cons, List.length_nil, Nat.reduceAdd, Nat.zero_add, Nat.add_zero]); rfl) (by rfl) ?_) | (refine m_st M rfl rfl rfl (by first | exact (rfl : _ = Value.agg _) | exact (rfl : _ = Value.int _ _) | exact (rfl : _ = Value.bool _) | exact (rfl : _ = Value.slice _ _ _) | exact (rfl : _ = Value.pointer _) | exact (rfl : _ = Value.map _) | exact (rfl : _ = Value.func _ _ _) | exact (rfl : _ = Value.string _)) (by rfl) (by (repeat (first | exact Upd.head | apply Upd.tail))) (by (try simp only [List.take_succ_cons, List.take_zero, List.take_nil, List.drop_succ_cons, List.drop_zero, List.drop_nil, List.cons_append, List.nil_append, List.append_nil, List.length_cons, List.length_nil, Nat.reduceAdd, Nat.zero_add, Nat.add_zero]); rfl) (by simp) (by simp [Value.oneCell']) (by kernel_rfl) ?_; clear M; (try clear wc); intro wc M) | (refine m_al M rfl rfl ?_; clear M; (try clear wc); intro g wc M) | (refine m_bx M rfl rfl (by first | exact (rfl : _ = Value.agg _) | exact (rfl : _ = Value.int _ _) | exact (rfl : _ = Value.bool _) | exact (rfl : _ = Value.slice _ _ _) | exact (rfl : _ = Value.pointer _) | exact (rfl : _ = Value.map _) | exact (rfl : _ = Value.func _ _ _) | exact (rfl : _ = Value.string _)) (by rfl) ?_; clear M; (try clear wc); intro g wc M) | (go_at_call 49; ((with_reducible refine (check_any j _ _ _ ?_ ?_).mono ?_); ((exact M.rd HR.out (Nat.le_refl _)); (exact hn)); rintro e wc ⟨rfl, hb⟩; replace M := M.call hb; clear hb)))
    go_ret2
    rw [HW.out]
    exact ⟨rfl, M.below⟩

def wstep (p0 p1 : Int) (out : Int) (s : Int × Int) : Int := if (if out < -(p0 + s.1) then -(p0 + s.1) else out) < p1 + s.2 then p1 + s.2 else if out < -(p0 + s.1) then -(p0 + s.1) else out
theorem wstep_bd {p0 p1 out : Int} {s : Int × Int} (h0 : 0 ≤ out ∧ out ≤ 10000) (hp : -2000 ≤ p0 ∧ p1 ≤ 2000) (hs : -60 ≤ s.1 ∧ s.2 ≤ 60) : 0 ≤ wstep p0 p1 out s ∧ wstep p0 p1 out s ≤ 10000 := by unfold wstep; (repeat' split) <;> omega
def worstF (p0 p1 : Int) (sh : List (Int × Int)) : Int := (if sh = [] then [(0, 0)] else sh).foldl (wstep p0 p1) 0
def worstT (j : Jb) (l : List Int) : Int × Int := if checkStrokesJ j l = 0 then (worstF (j.st.after l).p0 (j.st.after l).p1 j.sh, 0) else (0, checkStrokesJ j l)
theorem fold_snoc (p0 p1 : Int) (l : List (Int × Int)) (k : Nat) (x0 x1 : Int) (h : l.drop k = (x0, x1) :: l.drop (k + 1)) : (l.take (k + 1)).foldl (wstep p0 p1) 0 = wstep p0 p1 ((l.take k).foldl (wstep p0 p1) 0) (x0, x1) := by
  have hk : k < l.length := by
    rcases Nat.lt_or_ge k l.length with h' | h'
    · exact h'
    · rw [List.drop_of_length_le h'] at h; cases h
  rw [List.drop_eq_getElem_cons hk] at h
  injection h with h _
  rw [List.take_succ_eq_append_getElem hk, List.foldl_append, h]
  rfl

theorem Try.fieldPitch (w : World) (a b c d e f : Value) : (Instr.field 25 (.agg #[a, b, c, d, e, f]) 0).run Try.prog w = .ok (.agg #[a, b]) w := by kernel_rfl

set_option maxRecDepth 100000 in
set_option maxHeartbeats 1000000 in
theorem Worst_any (j : Jb) (A : Option Addr) (c : Nat) (B : Option Addr) (d n : Nat) (l : List Int) (w : World) (hr : Rd w w.heap.size 2 A j.sh.length (rc j.sh)) (hn : j.sh.length ≤ 9223372036854775807) (hl : Rd w w.heap.size 1 B n (ic l)) (hm : n ≤ 9223372036854775807) :
    Calls Try.prog 51 #[jobV j A c, .slice B n d] w fun e w' => e = .returned (.tuple #[.int .i64 (worstT j l).1, .int .i64 (worstT j l).2]) ∧ Below w.heap.size w w' := by
  have HR := Lib.hid hr
  have HL := Lib.hid hl
  have HN := Lib.hid hl.len1
  clear hr hl
  by_cases h0 : checkStrokesJ j l = 0
  · obtain ⟨hc, h6, hk⟩ := strokes_of h0
    have HU := Lib.hid (good_of hc).st
    have HQ := Lib.hid (good_of hc)
    have HK := Lib.hid hk
    have h6' : n ≤ 6 := by have := HN.out; omega
    have HW : Hid (worstT j l = (worstF (j.st.after l).p0 (j.st.after l).p1 j.sh, 0)) := by show _ = _; unfold worstT; rw [if_pos h0]
    have H0 := Lib.hid h0
    have HUA := Lib.hid (after_upTo (good_of hc).st l)
    clear hc h6 hk h0
    have hfld := Try.fieldTongue
    have hfp := Try.fieldPitch
    have hb0 := HUA.out.p0
    have hb1 := HUA.out.p1
    have hln := HN.out
    rw [hln] at hb0 hb1
    clear hln HUA
    generalize worstT j l = gj at *
    generalize hst : j.st.after l = st at *
    have HST := Lib.hid hst
    clear hst
    by_cases hs0 : j.sh = []
    · have HS0 := Lib.hid hs0
      have hs1 : ((j.sh.length : Int) == 0) = true := by simpa using hs0
      have hs2 : (j.sh.length == 0) = true := by simpa using hs0
      have HF : Hid (worstF st.p0 st.p1 j.sh = wstep st.p0 st.p1 0 (0, 0)) := by show _ = _; unfold worstF; rw [if_pos hs0]; rfl
      clear hs0
      go_enter Try.func51, Try.ntmps51
      refine start noEx ?_
      intro wc M
      go_wp2_with (first | (refine m_ld1 M rfl rfl rfl (by (repeat' (first | exact List.mem_cons_self | refine List.mem_cons_of_mem _ ?_))) (by rfl) ?_) | (refine m_ldr M rfl rfl rfl (by (repeat' (first | exact List.mem_cons_self | refine List.mem_cons_of_mem _ ?_))) (by (try simp only [List.take_succ_cons, List.take_zero, List.take_nil, List.drop_succ_cons, List.drop_zero, List.drop_nil, List.cons_append, List.nil_append, List.append_nil, List.length_cons, List.length_nil, Nat.reduceAdd, Nat.zero_add, Nat.add_zero]); rfl) (by rfl) ?_) | (refine m_st M rfl rfl rfl (by first | exact (rfl : _ = Value.agg _) | exact (rfl : _ = Value.int _ _) | exact (rfl : _ = Value.bool _) | exact (rfl : _ = Value.slice _ _ _) | exact (rfl : _ = Value.pointer _) | exact (rfl : _ = Value.map _) | exact (rfl : _ = Value.func _ _ _) | exact (rfl : _ = Value.string _)) (by rfl) (by (repeat (first | exact Upd.head | apply Upd.tail))) (by (try simp only [List.take_succ_cons, List.take_zero, List.take_nil, List.drop_succ_cons, List.drop_zero, List.drop_nil, List.cons_append, List.nil_append, List.append_nil, List.length_cons, List.length_nil, Nat.reduceAdd, Nat.zero_add, Nat.add_zero]); rfl) (by simp) (by simp [Value.oneCell']) (by kernel_rfl) ?_; clear M; (try clear wc); intro wc M) | (refine m_al M rfl rfl ?_; clear M; (try clear wc); intro g wc M) | (refine m_bx M rfl rfl (by first | exact (rfl : _ = Value.agg _) | exact (rfl : _ = Value.int _ _) | exact (rfl : _ = Value.bool _) | exact (rfl : _ = Value.slice _ _ _) | exact (rfl : _ = Value.pointer _) | exact (rfl : _ = Value.map _) | exact (rfl : _ = Value.func _ _ _) | exact (rfl : _ = Value.string _)) (by rfl) ?_; clear M; (try clear wc); intro g wc M) | (refine absorb M ?_; intro M'; clear M; (obtain ⟨M, -⟩ : _ ∧ True := ⟨M', trivial⟩); clear M'; revert M; generalize World.alloc _ _ = wn; generalize wc.heap.size = g; (try clear wc); intro M; (obtain ⟨wc, rfl⟩ : ∃ x : World, x = wn := ⟨_, rfl⟩)) | (go_at_call 83; ((with_reducible refine (checkStrokes_any j _ _ _ _ _ l _ ?_ hn ?_ hm).mono ?_); ((exact M.rd HR.out (Nat.le_refl _)); (exact M.rd HL.out (Nat.le_refl _))); rw [H0.out]; rintro e wc ⟨rfl, hb⟩; replace M := M.call hb; clear hb)) | (go_at_call 69; ((with_reducible refine (after_any j _ _ _ _ _ l _ ?_ (by omega) HU.out HK.out).mono ?_); (exact M.rd HL.out (Nat.le_refl _)); rw [HST.out]; rintro e wc ⟨rfl, hb⟩; replace M := M.call hb; clear hb)))
      rename_i gJ wq1 wq2 gP K0 hK0
      go_loopw [9, 33] (fun out i wr => ∃ (k : Nat) (m : Int), k ≤ 1 ∧ i = .int .i64 k ∧ out = .int .i64 m ∧ Hid ((k = 0 ∧ m = 0) ∨ (k = 1 ∧ m = wstep st.p0 st.p1 0 (0, 0))) ∧ Mem w noEx wr [(g, .cells [.int .i64 0, .int .i64 0]), (gP, .cells [.int .i64 st.p0, .int .i64 st.p1])]) (fun _ i _ => 1 - (intOf i).toNat)
      case atStart => exact ⟨0, 0, by omega, rfl, rfl, .inl ⟨rfl, rfl⟩, M.sub (by (repeat (first | exact List.Sublist.slnil | apply List.Sublist.cons_cons | apply List.Sublist.cons)))⟩
      case round =>
        clear M wc
        obtain ⟨k, m, hk, rfl, rfl, he, M⟩ := hrel
        obtain ⟨wc, rfl⟩ : ∃ x : World, x = wr := ⟨_, rfl⟩
        rcases he.out with ⟨rfl, rfl⟩ | ⟨rfl, rfl⟩
        · clear he
          go_wp2_with (first | (refine m_ld1 M rfl rfl rfl (by (repeat' (first | exact List.mem_cons_self | refine List.mem_cons_of_mem _ ?_))) (by rfl) ?_) | (refine m_ldr M rfl rfl rfl (by (repeat' (first | exact List.mem_cons_self | refine List.mem_cons_of_mem _ ?_))) (by (try simp only [List.take_succ_cons, List.take_zero, List.take_nil, List.drop_succ_cons, List.drop_zero, List.drop_nil, List.cons_append, List.nil_append, List.append_nil, List.length_cons, List.length_nil, Nat.reduceAdd, Nat.zero_add, Nat.add_zero]); rfl) (by rfl) ?_) | (refine m_st M rfl rfl rfl (by first | exact (rfl : _ = Value.agg _) | exact (rfl : _ = Value.int _ _) | exact (rfl : _ = Value.bool _) | exact (rfl : _ = Value.slice _ _ _) | exact (rfl : _ = Value.pointer _) | exact (rfl : _ = Value.map _) | exact (rfl : _ = Value.func _ _ _) | exact (rfl : _ = Value.string _)) (by rfl) (by (repeat (first | exact Upd.head | apply Upd.tail))) (by (try simp only [List.take_succ_cons, List.take_zero, List.take_nil, List.drop_succ_cons, List.drop_zero, List.drop_nil, List.cons_append, List.nil_append, List.append_nil, List.length_cons, List.length_nil, Nat.reduceAdd, Nat.zero_add, Nat.add_zero]); rfl) (by simp) (by simp [Value.oneCell']) (by kernel_rfl) ?_; clear M; (try clear wc); intro wc M) | (refine m_al M rfl rfl ?_; clear M; (try clear wc); intro g wc M) | (refine m_bx M rfl rfl (by first | exact (rfl : _ = Value.agg _) | exact (rfl : _ = Value.int _ _) | exact (rfl : _ = Value.bool _) | exact (rfl : _ = Value.slice _ _ _) | exact (rfl : _ = Value.pointer _) | exact (rfl : _ = Value.map _) | exact (rfl : _ = Value.func _ _ _) | exact (rfl : _ = Value.string _)) (by rfl) ?_; clear M; (try clear wc); intro g wc M) | (go_at_call 96; ((with_reducible refine (plus_any _ _ _ _ _ (by omega) (by omega) (by omega) (by omega)).mono ?_); skip; rintro e wc ⟨rfl, hb⟩; replace M := M.call hb; clear hb)))
          go_roundw
          case rel => exact ⟨1, wstep st.p0 st.p1 0 (0, 0), by omega, rfl, congrArg (Value.int .i64) (by unfold wstep; dsimp only; (repeat' split) <;> omega), .inr ⟨rfl, rfl⟩, M.sub (by (repeat (first | exact List.Sublist.slnil | apply List.Sublist.cons_cons | apply List.Sublist.cons)))⟩
          case measure => simp [intOf]
        · clear he
          generalize hwv : wstep st.p0 st.p1 0 (0, 0) = wv at *
          have HWV := Lib.hid hwv
          clear hwv
          go_wp2_with (first | (refine m_ld1 M rfl rfl rfl (by (repeat' (first | exact List.mem_cons_self | refine List.mem_cons_of_mem _ ?_))) (by rfl) ?_) | (refine m_ldr M rfl rfl rfl (by (repeat' (first | exact List.mem_cons_self | refine List.mem_cons_of_mem _ ?_))) (by (try simp only [List.take_succ_cons, List.take_zero, List.take_nil, List.drop_succ_cons, List.drop_zero, List.drop_nil, List.cons_append, List.nil_append, List.append_nil, List.length_cons, List.length_nil, Nat.reduceAdd, Nat.zero_add, Nat.add_zero]); rfl) (by rfl) ?_) | (refine m_st M rfl rfl rfl (by first | exact (rfl : _ = Value.agg _) | exact (rfl : _ = Value.int _ _) | exact (rfl : _ = Value.bool _) | exact (rfl : _ = Value.slice _ _ _) | exact (rfl : _ = Value.pointer _) | exact (rfl : _ = Value.map _) | exact (rfl : _ = Value.func _ _ _) | exact (rfl : _ = Value.string _)) (by rfl) (by (repeat (first | exact Upd.head | apply Upd.tail))) (by (try simp only [List.take_succ_cons, List.take_zero, List.take_nil, List.drop_succ_cons, List.drop_zero, List.drop_nil, List.cons_append, List.nil_append, List.append_nil, List.length_cons, List.length_nil, Nat.reduceAdd, Nat.zero_add, Nat.add_zero]); rfl) (by simp) (by simp [Value.oneCell']) (by kernel_rfl) ?_; clear M; (try clear wc); intro wc M) | (refine m_al M rfl rfl ?_; clear M; (try clear wc); intro g wc M) | (refine m_bx M rfl rfl (by first | exact (rfl : _ = Value.agg _) | exact (rfl : _ = Value.int _ _) | exact (rfl : _ = Value.bool _) | exact (rfl : _ = Value.slice _ _ _) | exact (rfl : _ = Value.pointer _) | exact (rfl : _ = Value.map _) | exact (rfl : _ = Value.func _ _ _) | exact (rfl : _ = Value.string _)) (by rfl) ?_; clear M; (try clear wc); intro g wc M))
          go_ret2
          rw [HW.out, HF.out]
          exact ⟨rfl, M.below⟩
    · have hs1 : ((j.sh.length : Int) == 0) = false := by simpa using hs0
      have hs2 : (j.sh.length == 0) = false := by simpa using hs0
      have HF : Hid (worstF st.p0 st.p1 j.sh = j.sh.foldl (wstep st.p0 st.p1) 0) := by show _ = _; unfold worstF; rw [if_neg hs0]
      clear hs0
      go_enter Try.func51, Try.ntmps51
      refine start noEx ?_
      intro wc M
      go_wp2_with (first | (refine m_ld1 M rfl rfl rfl (by (repeat' (first | exact List.mem_cons_self | refine List.mem_cons_of_mem _ ?_))) (by rfl) ?_) | (refine m_ldr M rfl rfl rfl (by (repeat' (first | exact List.mem_cons_self | refine List.mem_cons_of_mem _ ?_))) (by (try simp only [List.take_succ_cons, List.take_zero, List.take_nil, List.drop_succ_cons, List.drop_zero, List.drop_nil, List.cons_append, List.nil_append, List.append_nil, List.length_cons, List.length_nil, Nat.reduceAdd, Nat.zero_add, Nat.add_zero]); rfl) (by rfl) ?_) | (refine m_st M rfl rfl rfl (by first | exact (rfl : _ = Value.agg _) | exact (rfl : _ = Value.int _ _) | exact (rfl : _ = Value.bool _) | exact (rfl : _ = Value.slice _ _ _) | exact (rfl : _ = Value.pointer _) | exact (rfl : _ = Value.map _) | exact (rfl : _ = Value.func _ _ _) | exact (rfl : _ = Value.string _)) (by rfl) (by (repeat (first | exact Upd.head | apply Upd.tail))) (by (try simp only [List.take_succ_cons, List.take_zero, List.take_nil, List.drop_succ_cons, List.drop_zero, List.drop_nil, List.cons_append, List.nil_append, List.append_nil, List.length_cons, List.length_nil, Nat.reduceAdd, Nat.zero_add, Nat.add_zero]); rfl) (by simp) (by simp [Value.oneCell']) (by kernel_rfl) ?_; clear M; (try clear wc); intro wc M) | (refine m_al M rfl rfl ?_; clear M; (try clear wc); intro g wc M) | (refine m_bx M rfl rfl (by first | exact (rfl : _ = Value.agg _) | exact (rfl : _ = Value.int _ _) | exact (rfl : _ = Value.bool _) | exact (rfl : _ = Value.slice _ _ _) | exact (rfl : _ = Value.pointer _) | exact (rfl : _ = Value.map _) | exact (rfl : _ = Value.func _ _ _) | exact (rfl : _ = Value.string _)) (by rfl) ?_; clear M; (try clear wc); intro g wc M) | (go_at_call 83; ((with_reducible refine (checkStrokes_any j _ _ _ _ _ l _ ?_ hn ?_ hm).mono ?_); ((exact M.rd HR.out (Nat.le_refl _)); (exact M.rd HL.out (Nat.le_refl _))); rw [H0.out]; rintro e wc ⟨rfl, hb⟩; replace M := M.call hb; clear hb)) | (go_at_call 69; ((with_reducible refine (after_any j _ _ _ _ _ l _ ?_ (by omega) HU.out HK.out).mono ?_); (exact M.rd HL.out (Nat.le_refl _)); rw [HST.out]; rintro e wc ⟨rfl, hb⟩; replace M := M.call hb; clear hb)))
      rename_i gJ wq K0 hK0
      go_loopw [9, 33] (fun out i wr => ∃ (k : Nat) (m : Int), k ≤ j.sh.length ∧ i = .int .i64 k ∧ out = .int .i64 m ∧ Hid ((j.sh.take k).foldl (wstep st.p0 st.p1) 0 = m) ∧ 0 ≤ m ∧ m ≤ 10000 ∧ Mem w noEx wr [(g, .cells [.int .i64 st.p0, .int .i64 st.p1])]) (fun _ i _ => j.sh.length - (intOf i).toNat)
      case atStart => exact ⟨0, 0, by omega, rfl, rfl, rfl, by omega, by omega, M.sub (by (repeat (first | exact List.Sublist.slnil | apply List.Sublist.cons_cons | apply List.Sublist.cons)))⟩
      case round =>
        clear M wc
        obtain ⟨k, m, hk, rfl, rfl, he, hm0, hm1, M⟩ := hrel
        obtain ⟨wc, rfl⟩ : ∃ x : World, x = wr := ⟨_, rfl⟩
        by_cases hlt : k < j.sh.length
        · obtain ⟨b, o, x0, x1, rfl, hbb, hd, d0, d1⟩ := (M.rd HR.out (Nat.le_refl _)).at2 hlt
          have HX := Lib.hid (HQ.out.sh (x0, x1) (by have : (x0, x1) ∈ j.sh.drop k := (by rw [hd]; exact List.mem_cons_self); exact List.mem_of_mem_drop this))
          have hx := HX.out
          have HD := Lib.hid hd
          clear hd
          go_wp2_with (first | (refine m_ld1 M rfl rfl rfl (by (repeat' (first | exact List.mem_cons_self | refine List.mem_cons_of_mem _ ?_))) (by rfl) ?_) | (refine m_ldr M rfl rfl rfl (by (repeat' (first | exact List.mem_cons_self | refine List.mem_cons_of_mem _ ?_))) (by (try simp only [List.take_succ_cons, List.take_zero, List.take_nil, List.drop_succ_cons, List.drop_zero, List.drop_nil, List.cons_append, List.nil_append, List.append_nil, List.length_cons, List.length_nil, Nat.reduceAdd, Nat.zero_add, Nat.add_zero]); rfl) (by rfl) ?_) | (refine m_st M rfl rfl rfl (by first | exact (rfl : _ = Value.agg _) | exact (rfl : _ = Value.int _ _) | exact (rfl : _ = Value.bool _) | exact (rfl : _ = Value.slice _ _ _) | exact (rfl : _ = Value.pointer _) | exact (rfl : _ = Value.map _) | exact (rfl : _ = Value.func _ _ _) | exact (rfl : _ = Value.string _)) (by rfl) (by (repeat (first | exact Upd.head | apply Upd.tail))) (by (try simp only [List.take_succ_cons, List.take_zero, List.take_nil, List.drop_succ_cons, List.drop_zero, List.drop_nil, List.cons_append, List.nil_append, List.append_nil, List.length_cons, List.length_nil, Nat.reduceAdd, Nat.zero_add, Nat.add_zero]); rfl) (by simp) (by simp [Value.oneCell']) (by kernel_rfl) ?_; clear M; (try clear wc); intro wc M) | (refine m_al M rfl rfl ?_; clear M; (try clear wc); intro g wc M) | (refine m_bx M rfl rfl (by first | exact (rfl : _ = Value.agg _) | exact (rfl : _ = Value.int _ _) | exact (rfl : _ = Value.bool _) | exact (rfl : _ = Value.slice _ _ _) | exact (rfl : _ = Value.pointer _) | exact (rfl : _ = Value.map _) | exact (rfl : _ = Value.func _ _ _) | exact (rfl : _ = Value.string _)) (by rfl) ?_; clear M; (try clear wc); intro g wc M) | (go_at_call 96; ((with_reducible refine (plus_any _ _ _ _ _ (by dsimp only at hx; omega) (by dsimp only at hx; omega) (by dsimp only at hx; omega) (by dsimp only at hx; omega)).mono ?_); skip; rintro e wc ⟨rfl, hb⟩; replace M := M.call hb; clear hb)))
          have hbd := wstep_bd (p0 := st.p0) (p1 := st.p1) (s := (x0, x1)) ⟨hm0, hm1⟩ ⟨by omega, by omega⟩ ⟨by dsimp only at hx ⊢; omega, by dsimp only at hx ⊢; omega⟩
          go_roundw
          case rel => exact ⟨k + 1, wstep st.p0 st.p1 m (x0, x1), by omega, by go_num, rfl, by (show _ = _; rw [fold_snoc _ _ _ _ _ _ HD.out, he.out]), hbd.1, hbd.2, M.sub (by (repeat (first | exact List.Sublist.slnil | apply List.Sublist.cons_cons | apply List.Sublist.cons)))⟩
          case measure => simp [intOf]; omega
        · go_wp2_with (first | (refine m_ld1 M rfl rfl rfl (by (repeat' (first | exact List.mem_cons_self | refine List.mem_cons_of_mem _ ?_))) (by rfl) ?_) | (refine m_ldr M rfl rfl rfl (by (repeat' (first | exact List.mem_cons_self | refine List.mem_cons_of_mem _ ?_))) (by (try simp only [List.take_succ_cons, List.take_zero, List.take_nil, List.drop_succ_cons, List.drop_zero, List.drop_nil, List.cons_append, List.nil_append, List.append_nil, List.length_cons, List.length_nil, Nat.reduceAdd, Nat.zero_add, Nat.add_zero]); rfl) (by rfl) ?_) | (refine m_st M rfl rfl rfl (by first | exact (rfl : _ = Value.agg _) | exact (rfl : _ = Value.int _ _) | exact (rfl : _ = Value.bool _) | exact (rfl : _ = Value.slice _ _ _) | exact (rfl : _ = Value.pointer _) | exact (rfl : _ = Value.map _) | exact (rfl : _ = Value.func _ _ _) | exact (rfl : _ = Value.string _)) (by rfl) (by (repeat (first | exact Upd.head | apply Upd.tail))) (by (try simp only [List.take_succ_cons, List.take_zero, List.take_nil, List.drop_succ_cons, List.drop_zero, List.drop_nil, List.cons_append, List.nil_append, List.append_nil, List.length_cons, List.length_nil, Nat.reduceAdd, Nat.zero_add, Nat.add_zero]); rfl) (by simp) (by simp [Value.oneCell']) (by kernel_rfl) ?_; clear M; (try clear wc); intro wc M) | (refine m_al M rfl rfl ?_; clear M; (try clear wc); intro g wc M) | (refine m_bx M rfl rfl (by first | exact (rfl : _ = Value.agg _) | exact (rfl : _ = Value.int _ _) | exact (rfl : _ = Value.bool _) | exact (rfl : _ = Value.slice _ _ _) | exact (rfl : _ = Value.pointer _) | exact (rfl : _ = Value.map _) | exact (rfl : _ = Value.func _ _ _) | exact (rfl : _ = Value.string _)) (by rfl) ?_; clear M; (try clear wc); intro g wc M))
          go_ret2
          have e : j.sh.take k = j.sh := List.take_of_length_le (by omega)
          have h := he.out
          rw [e] at h
          rw [HW.out, HF.out, h]
          exact ⟨rfl, M.below⟩
  · have h1 : (checkStrokesJ j l != 0) = true := by simpa using h0
    have HW : Hid (worstT j l = (0, checkStrokesJ j l)) := by show _ = _; unfold worstT; rw [if_neg h0]
    clear h0
    generalize worstT j l = gj at *
    go_enter Try.func51, Try.ntmps51
    refine start noEx ?_
    intro wc M
    go_wp2_with (first | (refine m_ld1 M rfl rfl rfl (by (repeat' (first | exact List.mem_cons_self | refine List.mem_cons_of_mem _ ?_))) (by rfl) ?_) | (refine m_ldr M rfl rfl rfl (by (repeat' (first | exact List.mem_cons_self | refine List.mem_cons_of_mem _ ?_))) (by (try simp only [List.take_succ_cons, List.take_zero, List.take_nil, List.drop_succ_cons, List.drop_zero, List.drop_nil, List.cons_append, List.nil_append, List.append_nil, List.length_cons, List.length_nil, Nat.reduceAdd, Nat.zero_add, Nat.add_zero]); rfl) (by rfl) ?_) | (refine m_st M rfl rfl rfl (by first | exact (rfl : _ = Value.agg _) | exact (rfl : _ = Value.int _ _) | exact (rfl : _ = Value.bool _) | exact (rfl : _ = Value.slice _ _ _) | exact (rfl : _ = Value.pointer _) | exact (rfl : _ = Value.map _) | exact (rfl : _ = Value.func _ _ _) | exact (rfl : _ = Value.string _)) (by rfl) (by (repeat (first | exact Upd.head | apply Upd.tail))) (by (try simp only [List.take_succ_cons, List.take_zero, List.take_nil, List.drop_succ_cons, List.drop_zero, List.drop_nil, List.cons_append, List.nil_append, List.append_nil, List.length_cons, List.length_nil, Nat.reduceAdd, Nat.zero_add, Nat.add_zero]); rfl) (by simp) (by simp [Value.oneCell']) (by kernel_rfl) ?_; clear M; (try clear wc); intro wc M) | (refine m_al M rfl rfl ?_; clear M; (try clear wc); intro g wc M) | (refine m_bx M rfl rfl (by first | exact (rfl : _ = Value.agg _) | exact (rfl : _ = Value.int _ _) | exact (rfl : _ = Value.bool _) | exact (rfl : _ = Value.slice _ _ _) | exact (rfl : _ = Value.pointer _) | exact (rfl : _ = Value.map _) | exact (rfl : _ = Value.func _ _ _) | exact (rfl : _ = Value.string _)) (by rfl) ?_; clear M; (try clear wc); intro g wc M) | (go_at_call 83; ((with_reducible refine (checkStrokes_any j _ _ _ _ _ l _ ?_ hn ?_ hm).mono ?_); ((exact M.rd HR.out (Nat.le_refl _)); (exact M.rd HL.out (Nat.le_refl _))); rintro e wc ⟨rfl, hb⟩; replace M := M.call hb; clear hb)))
    go_ret2
    rw [HW.out]
    exact ⟨rfl, M.below⟩

end Go.Proofs.Ythlpceoajhcliaa
end

section
/-
  reed: Window.
-/
namespace Go.Proofs.Ythlpceoajhcliaa
set_option linter.unusedSimpArgs false
set_option linter.unusedVariables false
open Go.RowKit

def windowJ (j : Jb) : (Int × Int) × Int := if checkJ j = 0 then (if (winS j).2 < (winS j).1 then ((0, 0), 11) else (winS j, 0)) else ((0, 0), checkJ j)

set_option maxRecDepth 100000 in
set_option maxHeartbeats 1000000 in
theorem Window_any (j : Jb) (A : Option Addr) (c : Nat) (w : World) (hr : Rd w w.heap.size 2 A j.sh.length (rc j.sh)) (hn : j.sh.length ≤ 9223372036854775807) :
    Calls Try.prog 33 #[jobV j A c] w fun e w' => e = .returned (.tuple #[R2 (windowJ j).1.1 (windowJ j).1.2, .int .i64 (windowJ j).2]) ∧ Below w.heap.size w w' := by
  have HR := Lib.hid hr
  clear hr
  have q0 := (Bk.new w 30 #[.int .i64 j.p0, .int .i64 j.p1, .int .i64 j.t0, .int .i64 j.t1, .int .i64 j.r0, .int .i64 j.r1, .int .i64 j.u0, .int .i64 j.u1, .int .i64 j.d0, .int .i64 j.d1, .int .i64 j.a0, .int .i64 j.a1, .int .i64 j.b0, .int .i64 j.b1, .int .i64 j.le, .slice A j.sh.length c, .int .i64 j.wi, .int .i64 j.me]).alloc (.cells #[.int .i64 0, .int .i64 0] 23)
  have z0 : Bk ((w.alloc (.cells #[.int .i64 j.p0, .int .i64 j.p1, .int .i64 j.t0, .int .i64 j.t1, .int .i64 j.r0, .int .i64 j.r1, .int .i64 j.u0, .int .i64 j.u1, .int .i64 j.d0, .int .i64 j.d1, .int .i64 j.a0, .int .i64 j.a1, .int .i64 j.b0, .int .i64 j.b1, .int .i64 j.le, .slice A j.sh.length c, .int .i64 j.wi, .int .i64 j.me] 30)).alloc (.cells #[.int .i64 0, .int .i64 0] 23)) (w.heap.size + 1) #[.int .i64 0, .int .i64 0] := by (repeat' (first | (with_reducible refine Bk.drew ?_) | ((with_reducible refine Bk.newAt _ _ _ _ ?_); (simp; done)) | (with_reducible refine Bk.alloc ?_ _)))
  by_cases h0 : checkJ j = 0
  · have g := good_of h0
    have HO := Lib.hid g.ok
    have HW : Hid (windowJ j = if (winS j).2 < (winS j).1 then ((0, 0), 11) else (winS j, 0)) := by show _ = _; unfold windowJ; rw [if_pos h0]
    have H0 := Lib.hid h0
    clear g h0
    have h2 : (winS j).2 < (winS j).1 ∨ ¬ (winS j).2 < (winS j).1 := Decidable.em _
    generalize windowJ j = wj at *
    generalize hws : winS j = ws at *
    have HWS := Lib.hid hws
    clear hws
    obtain ⟨s0, s1⟩ := ws
    rcases h2 with h2 | h2
    all_goals
      have H2 := Lib.hid h2
      go_enter Try.func33, Try.ntmps33
      go_wp2_with (first
        | (refine wpList_load_blk (by rfl) 30 (.tmp 1) (by rfl) _ (by rfl) _ q0 _ Try.underlying30 (by rfl) (by kernel_rfl) ?_)
        | (go_at_call 49; ((with_reducible refine (check_any j _ _ _ ?_ ?_).mono ?_); (exact (HR.out.below (by (repeat' (first | (with_reducible exact Below.refl _ _) | (with_reducible refine Below.alloc ?_ ?_ _) | (with_reducible refine Below.setCell ?_ ?_ _) | (with_reducible refine Below.drew ?_) | ((with_reducible refine Below.trans ?_ (Below.mono (by assumption) ?_))) | go_size)))).more (by go_size)); (exact hn); rintro e w1 ⟨rfl, hb1⟩; have hz1 := hb1.size; (try simp only [World.size_alloc] at hz1); rw [H0.out]; have hbw1 : Below w.heap.size w w1 := (by (repeat' (first | (with_reducible exact Below.refl _ _) | (with_reducible refine Below.alloc ?_ ?_ _) | (with_reducible refine Below.setCell ?_ ?_ _) | (with_reducible refine Below.drew ?_) | ((with_reducible refine Below.trans ?_ (Below.mono (by assumption) ?_))) | go_size))); have q1 := q0.below hb1; have z1 := z0.below hb1))
        | (refine wpList_load_blk (by rfl) 30 (.tmp 1) (by rfl) _ (by rfl) _ q1 _ Try.underlying30 (by rfl) (by kernel_rfl) ?_)
        | (go_at_call 84; ((with_reducible refine (windows_any j _ _ _ HO.out ?_).mono ?_); (exact (HR.out.below hbw1).more hbw1.size); rintro e w2 ⟨rfl, hb2⟩; have hz2 := hb2.size; (try simp only [World.size_alloc] at hz2); rw [HWS.out]; have hbw2 : Below w.heap.size w w2 := bl_trans hbw1 hb2 hbw1.size; have z2 := z1.below hb2; have c2 := z2.cell; have f2 := z2.frozen; have l2 := z2.lt; have m2 : w.heap.size < w2.heap.size := (by omega))))
      refine ret_blk1 2 3 23 (by rfl) (by rfl) _ _ (by rfl) (by rfl) _ (by first | exact z2.put2 | exact (z2.put2.alloc _).alloc _ | exact ((z2.alloc _).alloc _).put2) _ Try.underlying23 (by rfl) (by kernel_rfl) ?_
      rw [HW.out]
      first | rw [if_pos (by have := H2.out; omega)] | rw [if_neg (by have := H2.out; omega)]
      exact ⟨rfl, by first | exact bl_set2 hbw2 (by omega) | exact ((bl_set2 hbw2 (by omega)).alloc (by simp; omega) _).alloc (by simp; omega) _ | exact bl_set2 ((hbw2.alloc (by omega) _).alloc (by simp; omega) _) (by omega)⟩
  · have h1 : (checkJ j != 0) = true := by simpa using h0
    have HW : Hid (windowJ j = ((0, 0), checkJ j)) := by show _ = _; unfold windowJ; rw [if_neg h0]
    clear h0
    generalize windowJ j = wj at *
    go_enter Try.func33, Try.ntmps33
    go_wp2_with (first
      | (refine wpList_load_blk (by rfl) 30 (.tmp 1) (by rfl) _ (by rfl) _ q0 _ Try.underlying30 (by rfl) (by kernel_rfl) ?_)
      | (go_at_call 49; ((with_reducible refine (check_any j _ _ _ ?_ ?_).mono ?_); (exact (HR.out.below (by (repeat' (first | (with_reducible exact Below.refl _ _) | (with_reducible refine Below.alloc ?_ ?_ _) | (with_reducible refine Below.setCell ?_ ?_ _) | (with_reducible refine Below.drew ?_) | ((with_reducible refine Below.trans ?_ (Below.mono (by assumption) ?_))) | go_size)))).more (by go_size)); (exact hn); rintro e w1 ⟨rfl, hb1⟩; have hz1 := hb1.size; (try simp only [World.size_alloc] at hz1); have hbw1 : Below w.heap.size w w1 := (by (repeat' (first | (with_reducible exact Below.refl _ _) | (with_reducible refine Below.alloc ?_ ?_ _) | (with_reducible refine Below.setCell ?_ ?_ _) | (with_reducible refine Below.drew ?_) | ((with_reducible refine Below.trans ?_ (Below.mono (by assumption) ?_))) | go_size))); have z1 := z0.below hb1; have c1 := z1.cell; have f1 := z1.frozen; have l1 := z1.lt)))
    refine ret_blk1 2 3 23 (by rfl) (by rfl) _ _ (by rfl) (by rfl) _ z1.put2 _ Try.underlying23 (by rfl) (by kernel_rfl) ?_
    rw [HW.out]
    exact ⟨rfl, bl_set2 hbw1 (by omega)⟩

end Go.Proofs.Ythlpceoajhcliaa
end

section
/-
  Plain laws: windows, deviations, and verdicts.
-/
namespace Go.Proofs.Ythlpceoajhcliaa
set_option linter.unusedSimpArgs false
set_option linter.unusedVariables false

theorem within_mk {n lo hi : Int} (h : lo ≤ n ∧ n ≤ hi) : withinB n lo hi = true := by unfold withinB; simpa using h
theorem chkR_mk {x0 x1 lo hi : Int} (h : lo ≤ x0 ∧ x0 ≤ x1 ∧ x1 ≤ hi) : chkR x0 x1 lo hi = 0 := by
  unfold chkR
  rw [if_pos ⟨within_mk (by omega), within_mk (by omega)⟩, if_neg (by omega)]
theorem chkAll_mk {lo hi : Int} : ∀ {l : List (Int × Int)}, (∀ p ∈ l, lo ≤ p.1 ∧ p.1 ≤ p.2 ∧ p.2 ≤ hi) → chkAll lo hi l = 0 := by
  intro l
  induction l with
  | nil => intro _; rfl
  | cons q r ih =>
    intro h
    have h0 := chkR_mk (h q (by simp))
    unfold chkAll
    rw [if_neg (by rw [h0]; simp)]
    exact ih fun p hp => h p (List.mem_cons_of_mem _ hp)
theorem check_of_good {j : Jb} (h : j.good) : checkJ j = 0 := by
  have e1 := chkR_mk h.p
  have e2 : chkAll 0 100 [(j.t0, j.t1), (j.r0, j.r1)] = 0 := chkAll_mk (by
    intro p hp
    simp only [List.mem_cons, List.not_mem_nil, or_false] at hp
    rcases hp with rfl | rfl
    · exact h.t
    · exact h.r)
  have e3 : chkAll 0 12 [(j.u0, j.u1), (j.d0, j.d1), (j.a0, j.a1), (j.b0, j.b1)] = 0 := chkAll_mk (by
    intro p hp
    simp only [List.mem_cons, List.not_mem_nil, or_false] at hp
    rcases hp with rfl | rfl | rfl | rfl
    · exact h.u
    · exact h.d
    · exact h.a
    · exact h.b)
  have e4 := within_mk h.le
  have e6 := chkAll_mk h.sh
  have e7 := within_mk h.wi
  have e8 := within_mk h.me
  have e5 := h.few
  unfold checkJ
  rw [if_neg (by rw [e1]; simp), if_neg (by rw [e2]; simp), if_neg (by rw [e3]; simp), if_neg (by rw [e4]; simp), if_neg (by omega), if_neg (by rw [e6]; simp), if_neg (by rw [e7, e8]; simp)]
theorem strokes_nil {j : Jb} (h : j.good) : checkStrokesJ j [] = 0 := by
  unfold checkStrokesJ
  rw [if_neg (by rw [check_of_good h]; simp)]
  rfl

theorem meet_lo (n : Int) : ∀ (l : List (Int × Int)) (f : Int × Int), (meetL f l).1 ≤ n ↔ f.1 ≤ n ∧ ∀ s ∈ l, s.1 ≤ n
  | [], f => by simp [meetL]
  | q :: r, f => by
    have h := meet_lo n r (mstep f q)
    have e : meetL f (q :: r) = meetL (mstep f q) r := rfl
    rw [e, h]
    simp only [mstep, List.mem_cons, forall_eq_or_imp]
    constructor
    · rintro ⟨h1, h2⟩
      split at h1
      · exact ⟨by omega, h1, h2⟩
      · exact ⟨h1, by omega, h2⟩
    · rintro ⟨h1, h2, h3⟩
      refine ⟨?_, h3⟩
      split <;> assumption
theorem meet_hi (n : Int) : ∀ (l : List (Int × Int)) (f : Int × Int), n ≤ (meetL f l).2 ↔ n ≤ f.2 ∧ ∀ s ∈ l, n ≤ s.2
  | [], f => by simp [meetL]
  | q :: r, f => by
    have h := meet_hi n r (mstep f q)
    have e : meetL f (q :: r) = meetL (mstep f q) r := rfl
    rw [e, h]
    simp only [mstep, List.mem_cons, forall_eq_or_imp]
    constructor
    · rintro ⟨h1, h2⟩
      split at h1
      · exact ⟨by omega, h1, h2⟩
      · exact ⟨h1, by omega, h2⟩
    · rintro ⟨h1, h2, h3⟩
      refine ⟨?_, h3⟩
      split <;> assumption
/-- The shifts under all conditions. -/
def shx (sh : List (Int × Int)) : List (Int × Int) := if sh = [] then [(0, 0)] else sh
theorem winS_lo (j : Jb) (n : Int) : (winS j).1 ≤ n ↔ ∀ s ∈ shx j.sh, -j.wi - s.1 ≤ n := by
  unfold winS strictL shx
  cases h : j.sh with
  | nil => simp [winOf]
  | cons q r =>
    simp only [List.map_cons, winOf, meet_lo, List.mem_map, forall_exists_index, and_imp, forall_apply_eq_imp_iff₂, reduceCtorEq, if_false, List.mem_cons, forall_eq_or_imp]
theorem winS_hi (j : Jb) (n : Int) : n ≤ (winS j).2 ↔ ∀ s ∈ shx j.sh, n ≤ j.wi - s.2 := by
  unfold winS strictL shx
  cases h : j.sh with
  | nil => simp [winOf]
  | cons q r =>
    simp only [List.map_cons, winOf, meet_hi, List.mem_map, forall_exists_index, and_imp, forall_apply_eq_imp_iff₂, reduceCtorEq, if_false, List.mem_cons, forall_eq_or_imp]
theorem wfold_le (p0 p1 wi : Int) : ∀ (l : List (Int × Int)) (out : Int), l.foldl (wstep p0 p1) out ≤ wi ↔ out ≤ wi ∧ ∀ s ∈ l, -(p0 + s.1) ≤ wi ∧ p1 + s.2 ≤ wi
  | [], out => by simp
  | q :: r, out => by
    rw [List.foldl_cons, wfold_le p0 p1 wi r]
    simp only [List.mem_cons, forall_eq_or_imp]
    have : wstep p0 p1 out q ≤ wi ↔ out ≤ wi ∧ -(p0 + q.1) ≤ wi ∧ p1 + q.2 ≤ wi := by
      unfold wstep
      (repeat' split) <;> omega
    rw [this]
    constructor
    · rintro ⟨⟨h1, h2⟩, h3⟩; exact ⟨h1, h2, h3⟩
    · rintro ⟨h1, h2, h3⟩; exact ⟨⟨h1, h2⟩, h3⟩
theorem worst_le (p0 p1 wi : Int) (hw : 0 ≤ wi) (sh : List (Int × Int)) : worstF p0 p1 sh ≤ wi ↔ ∀ s ∈ shx sh, -(p0 + s.1) ≤ wi ∧ p1 + s.2 ≤ wi := by
  show (shx sh).foldl (wstep p0 p1) 0 ≤ wi ↔ _
  rw [wfold_le]
  constructor
  · exact fun h => h.2
  · exact fun h => ⟨hw, h⟩
theorem has_iff (j : Jb) (n : Int) : hasB (winS j).1 (winS j).2 n n = decide (worstF n n j.sh ≤ j.wi) ∨ j.wi < 0 := by
  by_cases hw : 0 ≤ j.wi
  · refine .inl ?_
    unfold hasB
    rw [decide_eq_decide, worst_le n n j.wi hw, winS_lo, winS_hi]
    constructor
    · rintro ⟨h1, h2⟩ s hs
      have a := h1 s hs
      have b := h2 s hs
      omega
    · intro h
      exact ⟨fun s hs => by have := h s hs; omega, fun s hs => by have := h s hs; omega⟩
  · exact .inr (by omega)
theorem passes_1 (j : Jb) (p0 p1 : Int) : (passesJ j p0 p1 == 1) = hasB (winS j).1 (winS j).2 p0 p1 := by
  unfold passesJ
  cases hasB (winS j).1 (winS j).2 p0 p1
  · simp only [Bool.false_eq_true, if_false]
    split <;> rfl
  · rfl
theorem passes_13 (j : Jb) (p0 p1 : Int) : 1 ≤ passesJ j p0 p1 ∧ passesJ j p0 p1 ≤ 3 := by
  unfold passesJ
  (repeat' split) <;> omega

end Go.Proofs.Ythlpceoajhcliaa
end

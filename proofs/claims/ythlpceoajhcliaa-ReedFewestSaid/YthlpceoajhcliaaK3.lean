/-
  kit: numbers, ranges, jobs and strokes out of a pot.
-/
import Derived.Test.YthlpceoajhcliaaPsx
import Derived.Test.YthlpceoajhcliaaReedB
import Derived.Test.YthlpceoajhcliaaKPot
import Derived.Test.YthlpceoajhcliaaKApp
import Derived.Test.YthlpceoajhcliaaRGood
namespace Go.Proofs.Ythlpceoajhcliaa
set_option linter.unusedSimpArgs false
set_option linter.unusedVariables false
open Go.RowKit

theorem Mem.nee {w0 w : World} {ex : Nat → Prop} {L : List (Nat × BA)} {g g' : Nat} {p p' : BA} (M : Mem w0 ex w L) (i j : Nat) (h1 : nthE L i = some (g, p)) (h2 : nthE L j = some (g', p')) (hij : Nat.beq i j = false) : ∀ b o, (some ⟨g, 0, none⟩ : Option Addr) = some ⟨b, o, none⟩ → b ≠ g' := by
  intro b o e hb
  injection e with e
  injection e with e _ _
  subst e
  subst hb
  have b1 : (L.map (·.1))[i]? = some g := by rw [List.getElem?_map, nthE_get h1]; rfl
  have b2 : (L.map (·.1))[j]? = some g := by rw [List.getElem?_map, nthE_get h2]; rfl
  have := (List.getElem?_inj (List.getElem?_eq_some_iff.1 b1).1 M.nd).1 (b1.trans b2.symm)
  subst this
  simp at hij
theorem Sp.oldEx {w : World} {size n bp : Nat} {A : Option Addr} {xs : List Value} (h : Rd w w.heap.size size A n xs) (hne : ∀ b o, A = some ⟨b, o, none⟩ → b ≠ bp) : ∃ b o, Sp w (fun b => b = bp) [] A n size b o xs := by
  rcases Nat.eq_zero_or_pos n with rfl | hn
  · refine ⟨0, 0, by omega, h.1, fun _ _ _ _ h => absurd h (by omega), fun _ _ _ _ j u hu => ?_⟩
    have : xs = [] := List.eq_nil_of_length_eq_zero (by have := h.1; omega)
    simp [this] at hu
  · obtain ⟨b, o, h1, h2, h3⟩ := h.2 hn
    exact ⟨b, o, fun _ => h1, h.1, fun w' L M _ _ => Nat.lt_of_lt_of_le h2 M.size, fun w' L M _ j u hu => (World.cell?_of_block (w := w) (a := ⟨b, o + j, none⟩) (M.block b h2 (hne b o h1))).trans (h3 j u hu)⟩
/-- One element, laid into a block of its own, is appended to a slice of the call's own. -/
theorem ow_app {P : Program} {op : Oper} {a : Act} {K : Act → World → Prop} {Q : Exit → Act → World → Prop} {s x : Operand} {ty e size bytes b c m nn t' : Nat} {z : Value} {cs xs : List Value} {v : Value} {w0 w : World} {ex : Nat → Prop} {L0 I : List (Nat × BA)} {E : List (Nat × Value)} (L1 : List (Nat × BA))
    (hinfo : (P.info? e).map (fun i => (i.zero, i.size, i.bytes)) = some (some z, size, bytes)) (hS : Sl e size v m xs I) (M : Mem w0 ex w L0) (hsp : L0 = L1 ++ I) (T : Tm a nn E)
    (ho : op.op = .call { callee := .builtin .append, args := #[s, x], argTypes := #[ty, ty] }) (hd : op.dst = some t') (hf : freshE E t' = true) (hnn : Nat.blt t' nn = true)
    (ht : P.underlying ty = some (.slice e)) (hzs : z.cells.size = size) (hsz : Nat.blt 0 size = true) (hby : Nat.ble bytes 1000 = true) (hm : m ≤ 1000000)
    (hs : a.eval s = v) (hx : a.eval x = .slice (some ⟨b, 0, none⟩) 1 c) (hmem : (b, BA.cells cs) ∈ L1) (hl : cs.length = size) (h1 : cs.all (·.oneCell') = true)
    (h : ∀ g cap w' a', Mem w0 ex w' ((g, .row e size (m + 1) (xs ++ cs) cap) :: L1) → Tm a' nn ((t', .slice (some ⟨g, 0, none⟩) (m + 1) cap) :: E) → K a' w') : op.wp P a w K Q := by
  subst hsp
  exact app_wp ht hinfo hzs (Nat.le_of_ble_eq_true hsz) (Nat.le_of_ble_eq_true hby) (Mem.swapI (I := L1) (L := I) M) hS hm ho hs hx hmem hl h1 fun g cap w' M' => h g cap w' _ M' (by rw [hd]; exact T.put hnn hf _)


set_option maxRecDepth 100000 in
set_option maxHeartbeats 1000000 in
theorem of_any (s : Int) (bp : Nat) (A : Option Addr) (n c : Nat) (l : List Int) (w : World) (hl : Rd w w.heap.size 1 A n (ic l)) (hne : ∀ b o, A = some ⟨b, o, none⟩ → b ≠ bp) (hn0 : 0 < n) (hn : n ≤ 1000) (hp : Bk w bp #[.int .u64 s]) (hs : u64ok s) :
    Calls Try.prog 60 #[.pointer (some ⟨bp, 0, none⟩), .slice A n c] w (PotPost bp (fun x => x ∈ l) .i64 w) := by
  have hll := hl.len1
  obtain ⟨bI, oI, SI⟩ := Sp.oldEx hl hne
  refine px_enter (fun b => b = bp) Try.func60 rfl 16 rfl [.pointer (some ⟨bp, 0, none⟩), .slice A n c] rfl rfl (Mem.initEx (p := .cells [.int .u64 s]) hp) ?_
  intro ac wc T M
  refine wp_seq ?_
  refine wp_region_lit ?_
  refine l_q T rfl rfl rfl rfl (rn_assign rfl evc) ?_; clear T ac; intro ac T
  refine wpList_nil ?_
  replace T := T.pick [1, 2] rfl
  refine nm_then ?_
  refine wp_seq ?_
  refine wp_seq ?_
  refine wp_region_lit ?_
  refine l_q T rfl rfl rfl rfl (rn_move rfl (T.ev 1 rfl)) ?_; clear T ac; intro ac T
  refine l_q T rfl rfl rfl rfl (rn_lenS rfl Try.underlying31 (T.ev 0 rfl)) ?_; clear T ac; intro ac T
  refine l_q T rfl rfl rfl rfl (rn_eql rfl (T.ev 0 rfl) evc) ?_; clear T ac; intro ac T
  refine wpList_nil ?_
  replace T := T.pick [0, 3, 4] rfl
  refine nm_then ?_
  refine wp_if (T.ev 0 rfl) ?_ ?_
  · intro h1
    refine wp_seq ?_
    refine wp_region_lit ?_
    refine l_q T rfl rfl rfl rfl (rn_assign rfl evc) ?_; clear T ac; intro ac T
    refine wpList_nil ?_
    replace T := T.pick [0] rfl
    refine nm_then ?_
    refine wp_ret ?_
    refine rt_then ?_
    refine rt_1 T rfl (T.ev 0 rfl) ?_
    exfalso
    omega
  · intro h1
    refine wp_skip ?_
    refine nm_then ?_
    refine wp_seq ?_
    refine wp_region_lit ?_
    refine l_q T rfl rfl rfl rfl (rn_move rfl (T.ev 2 rfl)) ?_; clear T ac; intro ac T
    refine l_q T rfl rfl rfl rfl (rn_move rfl (T.ev 2 rfl)) ?_; clear T ac; intro ac T
    refine l_q T rfl rfl rfl rfl (rn_move rfl (T.ev 4 rfl)) ?_; clear T ac; intro ac T
    refine l_q T rfl rfl rfl rfl (rn_lenS rfl Try.underlying31 (T.ev 0 rfl)) ?_; clear T ac; intro ac T
    refine l_q T rfl rfl rfl rfl (rn_sub rfl (T.ev 0 rfl) evc (by omega)) ?_; clear T ac; intro ac T
    refine l_w rfl ?_; intro K hK
    refine ow_call (first := []) (cap := []) T rfl rfl rfl rfl evf (.cons (T.ev 3 rfl) (.cons (T.ev 0 rfl) .nil)) Try.func28 rfl rfl ?_
    refine Calls.mono (upto_any _ bp (((n : Nat) : Int) - 1) _ (by omega) (by omega) (M.nth 0 rfl) hs) ?_
    clear T
    rintro e wc ⟨xu1, su1, hxu1, hsu1, rfl, hgr, hbk⟩
    intro ac T
    replace M := M.callC (cs' := [.int .u64 su1]) .head hgr hbk
    clear hgr hbk
    obtain ⟨ku1, hku1⟩ : ∃ k : Nat, xu1 = (k : Int) := ⟨xu1.toNat, by omega⟩
    obtain ⟨y, hk1, -⟩ := ic_next (l := l) (k := ku1) (by omega)
    refine sh_out hK _ _ ?_; clear hK K
    refine l_q T rfl rfl rfl rfl (rn_indexAddr (size := 1) ku1 rfl (T.ev 5 rfl) (T.ev 0 rfl) ⟨_, Try.underlying31, by kernel_rfl⟩ hku1 (by omega) (SI.at0 (by omega))) ?_; clear T ac; intro ac T
    refine l_q T rfl rfl rfl rfl (rn_cell (Sp.ic0 SI M (List.nil_sublist _) hk1) rfl (T.ev 0 rfl)) ?_; clear T ac; intro ac T
    refine l_q T rfl rfl rfl rfl (rn_assign rfl (T.ev 0 rfl)) ?_; clear T ac; intro ac T
    refine wpList_nil ?_
    replace T := T.pick [0] rfl
    refine nm_then ?_
    refine wp_ret ?_
    refine rt_1 T rfl (T.ev 0 rfl) ?_
    exact ⟨_, _, List.mem_of_getElem? hk1, hsu1, rfl, M.grown, M.nth 0 rfl⟩

set_option maxRecDepth 100000 in
set_option maxHeartbeats 1000000 in
theorem inner_any (s : Int) (bp : Nat) (x0 x1 : Int) (w : World) (h0 : -1000 ≤ x0) (h1 : x0 ≤ x1) (h2 : x1 ≤ 1000) (hp : Bk w bp #[.int .u64 s]) (hs : u64ok s) :
    Calls Try.prog 43 #[.pointer (some ⟨bp, 0, none⟩), .agg #[.int .i64 x0, .int .i64 x1]] w (PotPost bp (fun n => x0 ≤ n ∧ n ≤ x1) .i64 w) := by
  refine px_enter (fun b => b = bp) Try.func43 rfl 18 rfl [.pointer (some ⟨bp, 0, none⟩), .agg #[.int .i64 x0, .int .i64 x1]] rfl rfl (Mem.initEx (p := .cells [.int .u64 s]) hp) ?_
  intro ac wc T M
  refine wp_seq ?_
  refine wp_region_lit ?_
  refine l_w rfl ?_; intro K hK
  refine ow_bx M T rfl rfl rfl rfl (T.ev 1 rfl) rfl ?_; clear M T; intro g1 wc ac M T
  refine sh_out hK _ _ ?_; clear hK K
  refine l_q T rfl rfl rfl rfl (rn_assign rfl evc) ?_; clear T ac; intro ac T
  refine wpList_nil ?_
  replace T := T.pick [1, 2] rfl
  refine nm_then ?_
  refine wp_seq ?_
  refine g_start2 M (M.perm [0] rfl rfl) 14 (by kernel_rfl) rfl (by kernel_rfl) ?_
  clear M; intro wc M
  refine g_addG 10 M ?_
  refine g_q (T := T) (i := 0) rfl (by kernel_rfl) (by kernel_rfl : (pbits 14 0).setIfInBounds 0 true = pbits 14 1) (si_and (si_G rfl) si_U) (fun _ _ _ h => h) rfl rfl rfl rfl (fun _ _ _ _ _ => (rn_move rfl (T.ev 1 rfl))) ?_; clear T ac; intro ac T
  refine g_q (v := (.pointer (some ⟨g1, 0, none⟩))) (T := T) (i := 1) rfl (by kernel_rfl) (by kernel_rfl : (pbits 14 1).setIfInBounds 1 true = pbits 14 3) (si_and (si_G rfl) si_U) (fun _ _ _ h => h) rfl rfl rfl rfl (fun _ _ _ _ _ => (rn_fieldAddr (off := 0) rfl (T.ev 1 rfl) (fun _ _ _ => by kernel_rfl))) ?_; clear T ac; intro ac T
  refine g_q (T := T) (i := 2) rfl (by kernel_rfl) (by kernel_rfl : (pbits 14 3).setIfInBounds 2 true = pbits 14 7) (si_and (si_G rfl) si_U) (fun _ _ _ h => h) rfl rfl rfl rfl (fun B w' hD hl hS => (rn_one (Mem.nth (show Mem w (fun b => b = bp) w' _ from (MA.rgt hS)) 0 rfl) rfl (T.ev 0 rfl) rfl)) ?_; clear T ac; intro ac T
  refine g_q (v := (.pointer (some ⟨g1, 1, none⟩))) (T := T) (i := 3) rfl (by kernel_rfl) (by kernel_rfl : (pbits 14 7).setIfInBounds 3 true = pbits 14 15) (si_and (si_G rfl) si_U) (fun _ _ _ h => h) rfl rfl rfl rfl (fun _ _ _ _ _ => (rn_fieldAddr (off := 1) rfl (T.ev 3 rfl) (fun _ _ _ => by kernel_rfl))) ?_; clear T ac; intro ac T
  refine g_q (T := T) (i := 4) rfl (by kernel_rfl) (by kernel_rfl : (pbits 14 15).setIfInBounds 4 true = pbits 14 31) (si_and (si_G rfl) si_U) (fun _ _ _ h => h) rfl rfl rfl rfl (fun B w' hD hl hS => (rn_one (Mem.nth (show Mem w (fun b => b = bp) w' _ from (MA.rgt hS)) 0 rfl) rfl (T.ev 0 rfl) rfl)) ?_; clear T ac; intro ac T
  refine g_q (T := T) (i := 5) rfl (by kernel_rfl) (by kernel_rfl : (pbits 14 31).setIfInBounds 5 true = pbits 14 63) (si_and (si_G rfl) si_U) (fun _ _ _ h => h) rfl rfl rfl rfl (fun _ _ _ _ _ => (rn_move rfl (T.ev 6 rfl))) ?_; clear T ac; intro ac T
  refine g_q (v := (.pointer (some ⟨g1, 0, none⟩))) (T := T) (i := 6) rfl (by kernel_rfl) (by kernel_rfl : (pbits 14 63).setIfInBounds 6 true = pbits 14 127) (si_and (si_G rfl) si_U) (fun _ _ _ h => h) rfl rfl rfl rfl (fun _ _ _ _ _ => (rn_fieldAddr (off := 0) rfl (T.ev 6 rfl) (fun _ _ _ => by kernel_rfl))) ?_; clear T ac; intro ac T
  refine g_q (T := T) (i := 7) rfl (by kernel_rfl) (by kernel_rfl : (pbits 14 127).setIfInBounds 7 true = pbits 14 255) (si_and (si_G rfl) si_U) (fun _ _ _ h => h) rfl rfl rfl rfl (fun B w' hD hl hS => (rn_one (Mem.nth (show Mem w (fun b => b = bp) w' _ from ((MA.lft hS) (hD.wait (i := 7) (m := 10) (by kernel_rfl) hl))) 0 rfl) rfl (T.ev 0 rfl) rfl)) ?_; clear T ac; intro ac T
  refine g_q (v := (.pointer (some ⟨g1, 1, none⟩))) (T := T) (i := 8) rfl (by kernel_rfl) (by kernel_rfl : (pbits 14 255).setIfInBounds 8 true = pbits 14 511) (si_and (si_G rfl) si_U) (fun _ _ _ h => h) rfl rfl rfl rfl (fun _ _ _ _ _ => (rn_fieldAddr (off := 1) rfl (T.ev 8 rfl) (fun _ _ _ => by kernel_rfl))) ?_; clear T ac; intro ac T
  refine g_q (T := T) (i := 9) rfl (by kernel_rfl) (by kernel_rfl : (pbits 14 511).setIfInBounds 9 true = pbits 14 1023) (si_and (si_G rfl) si_U) (fun _ _ _ h => h) rfl rfl rfl rfl (fun B w' hD hl hS => (rn_one (Mem.nth (show Mem w (fun b => b = bp) w' _ from ((MA.lft hS) (hD.wait (i := 9) (m := 10) (by kernel_rfl) hl))) 0 rfl) rfl (T.ev 0 rfl) rfl)) ?_; clear T ac; intro ac T
  refine g_w (i := 10) (by kernel_rfl) rfl (by kernel_rfl : (pbits 14 1023).setIfInBounds 10 true = pbits 14 2047) rfl ?_; intro K hK
  refine ow_call (first := []) (cap := []) T rfl rfl rfl rfl evf (.cons (T.ev 4 rfl) (.cons (T.ev 2 rfl) (.cons (T.ev 0 rfl) .nil))) Try.func38 rfl rfl ?_
  refine Calls.mono (within_pot _ bp x0 x1 _ (by omega) (by omega) (by omega) (M.nth 1 rfl) hs) ?_
  clear T
  rintro e wc ⟨xu1, su1, hxu1, hsu1, rfl, hgr, hbk⟩
  intro ac T
  replace M := M.callC (cs' := [.int .u64 su1]) (.tail .head) hgr hbk
  clear hgr hbk
  refine sh_out hK _ _ (MA.mk (fun h => (no_of (by kernel_rfl) h).elim) (M.mask [true, false] rfl)) ?_; clear hK K
  refine g_w (i := 11) (by kernel_rfl) rfl (by kernel_rfl : (pbits 14 2047).setIfInBounds 11 true = pbits 14 4095) rfl ?_; intro K hK
  refine ow_bs (e := 3) [.int .i64 x0, .int .i64 x1, .int .i64 xu1] M T rfl rfl rfl rfl (.cons (T.ev 8 rfl) (.cons (T.ev 6 rfl) (.cons (T.ev 0 rfl) .nil))) (fun _ => by kernel_rfl) ?_; clear M T; intro g2 wc ac M T
  refine sh_out hK _ _ (MA.mk (fun h => (no_of (by kernel_rfl) h).elim) (M.mask [false, true, false] rfl)) ?_; clear hK K
  refine g_w (i := 12) (by kernel_rfl) rfl (by kernel_rfl : (pbits 14 4095).setIfInBounds 12 true = pbits 14 8191) rfl ?_; intro K hK
  refine ow_call (first := []) (cap := []) T rfl rfl rfl rfl evf (.cons (T.ev 11 rfl) (.cons (T.ev 0 rfl) .nil)) Try.func60 rfl rfl ?_
  refine Calls.mono (of_any _ bp _ 3 3 [x0, x1, xu1] _ (M.rdOwn (nthE_mem (i := 0) rfl) rfl rfl) (M.nee 0 2 rfl rfl rfl) (by decide) (by decide) (M.nth 2 rfl) hsu1) ?_
  clear T
  rintro e wc ⟨xu2, su2, hxu2, hsu2, rfl, hgr, hbk⟩
  intro ac T
  replace M := M.callC (cs' := [.int .u64 su2]) (.tail (.tail .head)) hgr hbk
  clear hgr hbk
  simp only [List.mem_cons, List.not_mem_nil, or_false] at hxu2
  refine sh_out hK _ _ (MA.mk (fun h => (no_of (by kernel_rfl) h).elim) (M.mask [false, true, false] rfl)) ?_; clear hK K
  refine g_q (T := T) (i := 13) rfl (by kernel_rfl) (by kernel_rfl : (pbits 14 8191).setIfInBounds 13 true = pbits 14 16383) (si_and (si_G rfl) si_U) (fun _ _ _ h => h) rfl rfl rfl rfl (fun _ _ _ _ _ => (rn_assign rfl (T.ev 0 rfl))) ?_; clear T ac; intro ac T
  refine g_done (by kernel_rfl) ?_
  replace T := T.pick [0] rfl
  replace M := M.mask [false, false, true] rfl
  refine nm_then ?_
  refine wp_ret ?_
  refine rt_1 T rfl (T.ev 0 rfl) ?_
  exact ⟨_, _, (by omega), hsu2, rfl, M.grown, M.nth 0 rfl⟩

def NarrowPost (bp : Nat) (x0 x1 n : Int) (w : World) (e : Ending) (w' : World) : Prop := ∃ a b s' : Int, (x0 ≤ a ∧ a ≤ n ∧ n ≤ b ∧ b ≤ x1) ∧ u64ok s' ∧ e = .returned (R2 a b) ∧ w.grownBy w' (some bp) ∧ Bk w' bp #[.int .u64 s']

set_option maxRecDepth 100000 in
set_option maxHeartbeats 1000000 in
theorem narrow_any (s : Int) (bp : Nat) (x0 x1 n : Int) (w : World) (h0 : -1000 ≤ x0) (h1 : x0 ≤ n) (h2 : n ≤ x1) (h3 : x1 ≤ 1000) (hp : Bk w bp #[.int .u64 s]) (hs : u64ok s) :
    Calls Try.prog 42 #[.pointer (some ⟨bp, 0, none⟩), .agg #[.int .i64 x0, .int .i64 x1], .int .i64 n] w (NarrowPost bp x0 x1 n w) := by
  refine px_enter (fun b => b = bp) Try.func42 rfl 30 rfl [.pointer (some ⟨bp, 0, none⟩), .agg #[.int .i64 x0, .int .i64 x1], .int .i64 n] rfl rfl (Mem.initEx (p := .cells [.int .u64 s]) hp) ?_
  intro ac wc T M
  refine wp_seq ?_
  refine wp_region_lit ?_
  refine l_w rfl ?_; intro K hK
  refine ow_bx M T rfl rfl rfl rfl (T.ev 1 rfl) rfl ?_; clear M T; intro g1 wc ac M T
  refine sh_out hK _ _ ?_; clear hK K
  refine l_w rfl ?_; intro K hK
  refine ow_al M T rfl rfl rfl rfl ?_; clear M T; intro g2 wc ac M T
  refine sh_out hK _ _ ?_; clear hK K
  refine wpList_nil ?_
  replace T := T.pick [0, 1, 2, 4] rfl
  refine nm_then ?_
  refine wp_seq ?_
  refine g_start2 M (M.perm [1] rfl rfl) 24 (by kernel_rfl) rfl (by kernel_rfl) ?_
  clear M; intro wc M
  refine g_addG 8 M ?_
  refine g_addG 23 (M.perm [0, 1] rfl rfl) ?_
  refine g_q (T := T) (i := 0) rfl (by kernel_rfl) (by kernel_rfl : (pbits 24 0).setIfInBounds 0 true = pbits 24 1) (si_and (si_G rfl) (si_and (si_G rfl) si_U)) (fun _ _ _ h => h) rfl rfl rfl rfl (fun _ _ _ _ _ => (rn_move rfl (T.ev 2 rfl))) ?_; clear T ac; intro ac T
  refine g_q (v := (.pointer (some ⟨g1, 0, none⟩))) (T := T) (i := 1) rfl (by kernel_rfl) (by kernel_rfl : (pbits 24 1).setIfInBounds 1 true = pbits 24 3) (si_and (si_G rfl) (si_and (si_G rfl) si_U)) (fun _ _ _ h => h) rfl rfl rfl rfl (fun _ _ _ _ _ => (rn_fieldAddr (off := 0) rfl (T.ev 2 rfl) (fun _ _ _ => by kernel_rfl))) ?_; clear T ac; intro ac T
  refine g_q (T := T) (i := 2) rfl (by kernel_rfl) (by kernel_rfl : (pbits 24 3).setIfInBounds 2 true = pbits 24 7) (si_and (si_G rfl) (si_and (si_G rfl) si_U)) (fun _ _ _ h => h) rfl rfl rfl rfl (fun B w' hD hl hS => (rn_one (Mem.nth (show Mem w (fun b => b = bp) w' _ from ((MA.lft hS) (hD.wait (i := 2) (m := 23) (by kernel_rfl) hl))) 1 rfl) rfl (T.ev 0 rfl) rfl)) ?_; clear T ac; intro ac T
  refine g_q (T := T) (i := 3) rfl (by kernel_rfl) (by kernel_rfl : (pbits 24 7).setIfInBounds 3 true = pbits 24 15) (si_and (si_G rfl) (si_and (si_G rfl) si_U)) (fun _ _ _ h => h) rfl rfl rfl rfl (fun _ _ _ _ _ => (rn_move rfl (T.ev 6 rfl))) ?_; clear T ac; intro ac T
  refine g_q (T := T) (i := 4) rfl (by kernel_rfl) (by kernel_rfl : (pbits 24 15).setIfInBounds 4 true = pbits 24 31) (si_and (si_G rfl) (si_and (si_G rfl) si_U)) (fun _ _ _ h => h) rfl rfl rfl rfl (fun _ _ _ _ _ => (rn_move rfl (T.ev 6 rfl))) ?_; clear T ac; intro ac T
  refine g_q (v := (.pointer (some ⟨g1, 0, none⟩))) (T := T) (i := 5) rfl (by kernel_rfl) (by kernel_rfl : (pbits 24 31).setIfInBounds 5 true = pbits 24 63) (si_and (si_G rfl) (si_and (si_G rfl) si_U)) (fun _ _ _ h => h) rfl rfl rfl rfl (fun _ _ _ _ _ => (rn_fieldAddr (off := 0) rfl (T.ev 6 rfl) (fun _ _ _ => by kernel_rfl))) ?_; clear T ac; intro ac T
  refine g_q (T := T) (i := 6) rfl (by kernel_rfl) (by kernel_rfl : (pbits 24 63).setIfInBounds 6 true = pbits 24 127) (si_and (si_G rfl) (si_and (si_G rfl) si_U)) (fun _ _ _ h => h) rfl rfl rfl rfl (fun B w' hD hl hS => (rn_one (Mem.nth (show Mem w (fun b => b = bp) w' _ from ((MA.lft hS) (hD.wait (i := 6) (m := 23) (by kernel_rfl) hl))) 1 rfl) rfl (T.ev 0 rfl) rfl)) ?_; clear T ac; intro ac T
  refine g_q (T := T) (i := 7) rfl (by kernel_rfl) (by kernel_rfl : (pbits 24 127).setIfInBounds 7 true = pbits 24 255) (si_and (si_G rfl) (si_and (si_G rfl) si_U)) (fun _ _ _ h => h) rfl rfl rfl rfl (fun _ _ _ _ _ => (rn_move rfl (T.ev 10 rfl))) ?_; clear T ac; intro ac T
  refine g_q (T := T) (i := 11) rfl (by kernel_rfl) (by kernel_rfl : (pbits 24 255).setIfInBounds 11 true = pbits 24 2303) (si_and (si_G rfl) (si_and (si_G rfl) si_U)) (fun _ _ _ h => h) rfl rfl rfl rfl (fun _ _ _ _ _ => (rn_move rfl (T.ev 10 rfl))) ?_; clear T ac; intro ac T
  refine g_q (v := (.pointer (some ⟨g1, 1, none⟩))) (T := T) (i := 12) rfl (by kernel_rfl) (by kernel_rfl : (pbits 24 2303).setIfInBounds 12 true = pbits 24 6399) (si_and (si_G rfl) (si_and (si_G rfl) si_U)) (fun _ _ _ h => h) rfl rfl rfl rfl (fun _ _ _ _ _ => (rn_fieldAddr (off := 1) rfl (T.ev 10 rfl) (fun _ _ _ => by kernel_rfl))) ?_; clear T ac; intro ac T
  refine g_q (T := T) (i := 13) rfl (by kernel_rfl) (by kernel_rfl : (pbits 24 6399).setIfInBounds 13 true = pbits 24 14591) (si_and (si_G rfl) (si_and (si_G rfl) si_U)) (fun _ _ _ h => h) rfl rfl rfl rfl (fun B w' hD hl hS => (rn_one (Mem.nth (show Mem w (fun b => b = bp) w' _ from ((MA.lft hS) (hD.wait (i := 13) (m := 23) (by kernel_rfl) hl))) 1 rfl) rfl (T.ev 0 rfl) rfl)) ?_; clear T ac; intro ac T
  refine g_q (T := T) (i := 14) rfl (by kernel_rfl) (by kernel_rfl : (pbits 24 14591).setIfInBounds 14 true = pbits 24 30975) (si_and (si_G rfl) (si_and (si_G rfl) si_U)) (fun _ _ _ h => h) rfl rfl rfl rfl (fun _ _ _ _ _ => (rn_move rfl (T.ev 14 rfl))) ?_; clear T ac; intro ac T
  refine g_q (T := T) (i := 15) rfl (by kernel_rfl) (by kernel_rfl : (pbits 24 30975).setIfInBounds 15 true = pbits 24 63743) (si_and (si_G rfl) (si_and (si_G rfl) si_U)) (fun _ _ _ h => h) rfl rfl rfl rfl (fun _ _ _ _ _ => (rn_move rfl (T.ev 14 rfl))) ?_; clear T ac; intro ac T
  refine g_q (T := T) (i := 16) rfl (by kernel_rfl) (by kernel_rfl : (pbits 24 63743).setIfInBounds 16 true = pbits 24 129279) (si_and (si_G rfl) (si_and (si_G rfl) si_U)) (fun _ _ _ h => h) rfl rfl rfl rfl (fun _ _ _ _ _ => (rn_move rfl (T.ev 16 rfl))) ?_; clear T ac; intro ac T
  refine g_q (v := (.pointer (some ⟨g1, 1, none⟩))) (T := T) (i := 17) rfl (by kernel_rfl) (by kernel_rfl : (pbits 24 129279).setIfInBounds 17 true = pbits 24 260351) (si_and (si_G rfl) (si_and (si_G rfl) si_U)) (fun _ _ _ h => h) rfl rfl rfl rfl (fun _ _ _ _ _ => (rn_fieldAddr (off := 1) rfl (T.ev 15 rfl) (fun _ _ _ => by kernel_rfl))) ?_; clear T ac; intro ac T
  refine g_q (T := T) (i := 18) rfl (by kernel_rfl) (by kernel_rfl : (pbits 24 260351).setIfInBounds 18 true = pbits 24 522495) (si_and (si_G rfl) (si_and (si_G rfl) si_U)) (fun _ _ _ h => h) rfl rfl rfl rfl (fun B w' hD hl hS => (rn_one (Mem.nth (show Mem w (fun b => b = bp) w' _ from ((MA.lft hS) (hD.wait (i := 18) (m := 23) (by kernel_rfl) hl))) 1 rfl) rfl (T.ev 0 rfl) rfl)) ?_; clear T ac; intro ac T
  refine g_w (i := 8) (by kernel_rfl) rfl (by kernel_rfl : (pbits 24 522495).setIfInBounds 8 true = pbits 24 522751) rfl ?_; intro K hK
  refine ow_call (first := []) (cap := []) T rfl rfl rfl rfl evf (.cons (T.ev 11 rfl) (.cons (T.ev 9 rfl) (.cons (T.ev 8 rfl) .nil))) Try.func38 rfl rfl ?_
  refine Calls.mono (within_pot _ bp x0 n _ (by omega) (by omega) (by omega) (M.nth 2 rfl) hs) ?_
  clear T
  rintro e wc ⟨xu1, su1, hxu1, hsu1, rfl, hgr, hbk⟩
  intro ac T
  replace M := M.callC (cs' := [.int .u64 su1]) (.tail (.tail .head)) hgr hbk
  clear hgr hbk
  refine sh_out hK _ _ (MA.mk (fun _ => M.mask [true, true, false] rfl) (MA.mk (fun h => (no_of (by kernel_rfl) h).elim) (M.mask [false, true, false] rfl))) ?_; clear hK K
  refine g_w (i := 9) (by kernel_rfl) rfl (by kernel_rfl : (pbits 24 522751).setIfInBounds 9 true = pbits 24 523263) rfl ?_; intro K hK
  refine ow_bs (e := 3) [.int .i64 x0, .int .i64 n, .int .i64 xu1] M T rfl rfl rfl rfl (.cons (T.ev 14 rfl) (.cons (T.ev 13 rfl) (.cons (T.ev 0 rfl) .nil))) (fun _ => by kernel_rfl) ?_; clear M T; intro g3 wc ac M T
  refine sh_out hK _ _ (MA.mk (fun _ => M.mask [false, true, true, false] rfl) (MA.mk (fun h => (no_of (by kernel_rfl) h).elim) (M.mask [false, false, true, false] rfl))) ?_; clear hK K
  refine g_w (i := 10) (by kernel_rfl) rfl (by kernel_rfl : (pbits 24 523263).setIfInBounds 10 true = pbits 24 524287) rfl ?_; intro K hK
  refine ow_call (first := []) (cap := []) T rfl rfl rfl rfl evf (.cons (T.ev 17 rfl) (.cons (T.ev 0 rfl) .nil)) Try.func60 rfl rfl ?_
  refine Calls.mono (of_any _ bp _ 3 3 [x0, n, xu1] _ (M.rdOwn (nthE_mem (i := 0) rfl) rfl rfl) (M.nee 0 3 rfl rfl rfl) (by decide) (by decide) (M.nth 3 rfl) hsu1) ?_
  clear T
  rintro e wc ⟨xu2, su2, hxu2, hsu2, rfl, hgr, hbk⟩
  intro ac T
  replace M := M.callC (cs' := [.int .u64 su2]) (.tail (.tail (.tail .head))) hgr hbk
  clear hgr hbk
  simp only [List.mem_cons, List.not_mem_nil, or_false] at hxu2
  refine sh_out hK _ _ (MA.mk (fun _ => M.mask [false, true, true, false] rfl) (MA.mk (fun h => (no_of (by kernel_rfl) h).elim) (M.mask [false, false, true, false] rfl))) ?_; clear hK K
  refine g_w (i := 19) (by kernel_rfl) rfl (by kernel_rfl : (pbits 24 524287).setIfInBounds 19 true = pbits 24 1048575) rfl ?_; intro K hK
  refine ow_call (first := []) (cap := []) T rfl rfl rfl rfl evf (.cons (T.ev 6 rfl) (.cons (T.ev 5 rfl) (.cons (T.ev 3 rfl) .nil))) Try.func38 rfl rfl ?_
  refine Calls.mono (within_pot _ bp n x1 _ (by omega) (by omega) (by omega) (M.nth 3 rfl) hsu2) ?_
  clear T
  rintro e wc ⟨xu3, su3, hxu3, hsu3, rfl, hgr, hbk⟩
  intro ac T
  replace M := M.callC (cs' := [.int .u64 su3]) (.tail (.tail (.tail .head))) hgr hbk
  clear hgr hbk
  refine sh_out hK _ _ (MA.mk (fun _ => M.mask [false, true, true, false] rfl) (MA.mk (fun h => (no_of (by kernel_rfl) h).elim) (M.mask [false, false, true, false] rfl))) ?_; clear hK K
  refine g_w (i := 20) (by kernel_rfl) rfl (by kernel_rfl : (pbits 24 1048575).setIfInBounds 20 true = pbits 24 2097151) rfl ?_; intro K hK
  refine ow_bs (e := 3) [.int .i64 x1, .int .i64 n, .int .i64 xu3] M T rfl rfl rfl rfl (.cons (T.ev 9 rfl) (.cons (T.ev 8 rfl) (.cons (T.ev 0 rfl) .nil))) (fun _ => by kernel_rfl) ?_; clear M T; intro g4 wc ac M T
  refine sh_out hK _ _ (MA.mk (fun _ => M.mask [false, false, true, true, false] rfl) (MA.mk (fun h => (no_of (by kernel_rfl) h).elim) (M.mask [false, false, false, true, false] rfl))) ?_; clear hK K
  refine g_w (i := 21) (by kernel_rfl) rfl (by kernel_rfl : (pbits 24 2097151).setIfInBounds 21 true = pbits 24 4194303) rfl ?_; intro K hK
  refine ow_call (first := []) (cap := []) T rfl rfl rfl rfl evf (.cons (T.ev 12 rfl) (.cons (T.ev 0 rfl) .nil)) Try.func60 rfl rfl ?_
  refine Calls.mono (of_any _ bp _ 3 3 [x1, n, xu3] _ (M.rdOwn (nthE_mem (i := 0) rfl) rfl rfl) (M.nee 0 4 rfl rfl rfl) (by decide) (by decide) (M.nth 4 rfl) hsu3) ?_
  clear T
  rintro e wc ⟨xu4, su4, hxu4, hsu4, rfl, hgr, hbk⟩
  intro ac T
  replace M := M.callC (cs' := [.int .u64 su4]) (.tail (.tail (.tail (.tail .head)))) hgr hbk
  clear hgr hbk
  simp only [List.mem_cons, List.not_mem_nil, or_false] at hxu4
  refine sh_out hK _ _ (MA.mk (fun _ => M.mask [false, false, true, true, false] rfl) (MA.mk (fun h => (no_of (by kernel_rfl) h).elim) (M.mask [false, false, false, true, false] rfl))) ?_; clear hK K
  refine g_q (v := (.agg #[.int .i64 xu2, .int .i64 xu4])) (T := T) (i := 22) rfl (by kernel_rfl) (by kernel_rfl : (pbits 24 4194303).setIfInBounds 22 true = pbits 24 8388607) (si_and (si_G rfl) (si_and (si_G rfl) si_U)) (fun _ _ _ h => h) rfl rfl rfl rfl (fun _ _ _ _ _ => (rn_build rfl (.cons (T.ev 3 rfl) (.cons (T.ev 0 rfl) .nil)) (fun _ => by kernel_rfl))) ?_; clear T ac; intro ac T
  refine g_w (i := 23) (by kernel_rfl) rfl (by kernel_rfl : (pbits 24 8388607).setIfInBounds 23 true = pbits 24 16777215) rfl ?_; intro K hK
  refine ow_stO M T rfl rfl (T.ev 23 rfl) (T.ev 0 rfl) rfl (.tail (.tail .head)) rfl (by simp) rfl (by kernel_rfl) ?_; clear M T; intro wc ac M T
  refine sh_out hK _ _ (MA.mk (fun h => (no_of (by kernel_rfl) h).elim) (MA.mk (fun h => (no_of (by kernel_rfl) h).elim) (M.mask [false, false, false, true, false] rfl))) ?_; clear hK K
  refine g_done (by kernel_rfl) ?_
  replace T := T.pick [23] rfl
  replace M := M.mask [false, false, true, false, true] rfl
  refine nm_then ?_
  refine wp_ret ?_
  refine rt_c M T rfl (T.ev 0 rfl) (nthE_mem (i := 0) rfl) rfl ?_
  exact ⟨_, _, _, (by omega), hsu4, rfl, M.grown, M.nth 1 rfl⟩

theorem Try.info23 : (Try.prog.info? 23).map (fun i => (i.zero, i.size, i.bytes)) = some (some (.agg #[.int .i64 0, .int .i64 0]), 2, 16) := by kernel_rfl

theorem Try.info3 : (Try.prog.info? 3).map (fun i => (i.zero, i.size, i.bytes)) = some (some (.int .i64 0), 1, 8) := by kernel_rfl

/-- What is so of every job that is made of numbers. -/
structure Jb.made (j : Jb) (wd ls : Int) : Prop where
  p : -60 ≤ j.p0 ∧ -16 - wd ≤ j.p0 ∧ j.p0 ≤ j.p1 ∧ j.p1 ≤ 16 + wd ∧ j.p1 ≤ 60 ∧ j.p1 - j.p0 ≤ 2 * wd
  t : 18 ≤ j.t0 ∧ j.t0 ≤ j.t1 ∧ j.t1 ≤ 42
  r : 18 ≤ j.r0 ∧ j.r0 ≤ j.r1 ∧ j.r1 ≤ 42
  u : 0 ≤ j.u0 ∧ j.u0 ≤ j.u1 ∧ j.u1 ≤ 12 ∧ j.u1 ≤ 6 + ls ∧ j.u1 - j.u0 ≤ 2 * ls
  d : 0 ≤ j.d0 ∧ j.d0 ≤ j.d1 ∧ j.d1 ≤ 12 ∧ j.d1 ≤ 6 + ls ∧ j.d1 - j.d0 ≤ 2 * ls
  a : 0 ≤ j.a0 ∧ j.a0 ≤ j.a1 ∧ j.a1 ≤ 5
  b : 0 ≤ j.b0 ∧ j.b0 ≤ j.b1 ∧ j.b1 ≤ 5
  le : 10 ≤ j.le ∧ j.le ≤ 30
  few : j.sh.length ≤ 3
  sh : ∀ q ∈ j.sh, -5 ≤ q.1 ∧ q.1 ≤ q.2 ∧ q.2 ≤ 5
  wi : 1 ≤ j.wi ∧ j.wi ≤ 6
  me : 0 ≤ j.me ∧ j.me ≤ 3
theorem Jb.made.good {j : Jb} {wd ls : Int} (h : j.made wd ls) : j.good := by
  obtain ⟨h1, h2, h3, h4, h5, h6, h7, h8, h9, h10, h11, h12⟩ := h
  exact ⟨by omega, by omega, by omega, by omega, by omega, by omega, by omega, by omega, by omega, fun p hp => by have := h10 p hp; omega, by omega, by omega⟩
def JobOfPost (bp : Nat) (wd ls : Int) (w : World) (e : Ending) (w' : World) : Prop :=
  ∃ (j : Jb) (A : Option Addr) (c : Nat) (s : Int) (I : List (Nat × BA)), e = .returned (jobV j A c) ∧ j.made wd ls ∧ u64ok s ∧ Sl 23 2 (.slice A j.sh.length c) j.sh.length (rc j.sh) I ∧ Mem w (fun b => b = bp) w' (I ++ [(bp, .cells [.int .u64 s])])
theorem rc_snoc (l : List (Int × Int)) (x y : Int) : rc l ++ [.int .i64 x, .int .i64 y] = rc (l ++ [(x, y)]) := by rw [rc_append]; rfl


set_option maxRecDepth 100000 in
set_option maxHeartbeats 1000000 in
theorem jobOf_any (s : Int) (bp : Nat) (wd ls : Int) (w : World) (hw0 : 0 ≤ wd) (hw1 : wd ≤ 40) (hl0 : 0 ≤ ls) (hl1 : ls ≤ 40) (hp : Bk w bp #[.int .u64 s]) (hs : u64ok s) :
    Calls Try.prog 17 #[.pointer (some ⟨bp, 0, none⟩), .int .i64 wd, .int .i64 ls] w (JobOfPost bp wd ls w) := by
  refine px_enter (fun b => b = bp) Try.func17 rfl 84 rfl [.pointer (some ⟨bp, 0, none⟩), .int .i64 wd, .int .i64 ls] rfl rfl (Mem.initEx (p := .cells [.int .u64 s]) hp) ?_
  intro ac wc T M
  refine wp_seq ?_
  refine wp_region_lit ?_
  refine l_w rfl ?_; intro K hK
  refine ow_al M T rfl rfl rfl rfl ?_; clear M T; intro g1 wc ac M T
  refine sh_out hK _ _ ?_; clear hK K
  refine wpList_nil ?_
  refine nm_then ?_
  refine wp_seq ?_
  refine wp_region_lit ?_
  refine l_q T rfl rfl rfl rfl (rn_move rfl (T.ev 1 rfl)) ?_; clear T ac; intro ac T
  refine l_w rfl ?_; intro K hK
  refine ow_call (first := []) (cap := []) T rfl rfl rfl rfl evf (.cons (T.ev 0 rfl) (.cons evc (.cons evc .nil))) Try.func38 rfl rfl ?_
  refine Calls.mono (within_pot _ bp 1 6 _ (by omega) (by omega) (by omega) (M.nth 1 rfl) hs) ?_
  clear T
  rintro e wc ⟨xu1, su1, hxu1, hsu1, rfl, hgr, hbk⟩
  intro ac T
  replace M := M.callC (cs' := [.int .u64 su1]) (.tail .head) hgr hbk
  clear hgr hbk
  refine sh_out hK _ _ ?_; clear hK K
  refine l_q T rfl rfl rfl rfl (rn_move rfl (T.ev 3 rfl)) ?_; clear T ac; intro ac T
  refine l_q T rfl rfl rfl rfl (rn_move rfl (T.ev 4 rfl)) ?_; clear T ac; intro ac T
  refine l_w rfl ?_; intro K hK
  refine ow_call (first := []) (cap := []) T rfl rfl rfl rfl evf (.cons (T.ev 0 rfl) (.cons evc .nil)) Try.func28 rfl rfl ?_
  refine Calls.mono (upto_any _ bp 3 _ (by omega) (by omega) (M.nth 1 rfl) hsu1) ?_
  clear T
  rintro e wc ⟨xu2, su2, hxu2, hsu2, rfl, hgr, hbk⟩
  intro ac T
  replace M := M.callC (cs' := [.int .u64 su2]) (.tail .head) hgr hbk
  clear hgr hbk
  refine sh_out hK _ _ ?_; clear hK K
  refine l_w rfl ?_; intro K hK
  refine ow_bs (e := 3) [.int .i64 0, .int .i64 1, .int .i64 xu2] M T rfl rfl rfl rfl (.cons evc (.cons evc (.cons (T.ev 0 rfl) .nil))) (fun _ => by kernel_rfl) ?_; clear M T; intro g2 wc ac M T
  refine sh_out hK _ _ ?_; clear hK K
  refine l_w rfl ?_; intro K hK
  refine ow_call (first := []) (cap := []) T rfl rfl rfl rfl evf (.cons (T.ev 3 rfl) (.cons (T.ev 0 rfl) .nil)) Try.func60 rfl rfl ?_
  refine Calls.mono (of_any _ bp _ 3 3 [0, 1, xu2] _ (M.rdOwn (nthE_mem (i := 0) rfl) rfl rfl) (M.nee 0 2 rfl rfl rfl) (by decide) (by decide) (M.nth 2 rfl) hsu2) ?_
  clear T
  rintro e wc ⟨xu3, su3, hxu3, hsu3, rfl, hgr, hbk⟩
  intro ac T
  replace M := M.callC (cs' := [.int .u64 su3]) (.tail (.tail .head)) hgr hbk
  clear hgr hbk
  simp only [List.mem_cons, List.not_mem_nil, or_false] at hxu3
  refine sh_out hK _ _ ?_; clear hK K
  refine l_q (v := (.agg #[.int .i64 0, .int .i64 0, .int .i64 0, .int .i64 0, .int .i64 0, .int .i64 0, .int .i64 0, .int .i64 0, .int .i64 0, .int .i64 0, .int .i64 0, .int .i64 0, .int .i64 0, .int .i64 0, .int .i64 0, .slice none 0 0, .int .i64 xu1, .int .i64 xu3])) T rfl rfl rfl rfl (rn_build rfl (.cons (T.ev 5 rfl) (.cons (T.ev 0 rfl) .nil)) (fun _ => by kernel_rfl)) ?_; clear T ac; intro ac T
  refine l_w rfl ?_; intro K hK
  refine ow_al M T rfl rfl rfl rfl ?_; clear M T; intro g3 wc ac M T
  refine sh_out hK _ _ ?_; clear hK K
  refine l_w rfl ?_; intro K hK
  refine ow_stO M T rfl rfl (T.ev 0 rfl) (T.ev 1 rfl) rfl .head rfl (by simp) rfl (by kernel_rfl) ?_; clear M T; intro wc ac M T
  refine sh_out hK _ _ ?_; clear hK K
  refine wpList_nil ?_
  replace T := T.pick [0, 9, 10, 11, 12] rfl
  replace M := M.mask [true, false, true, true] rfl
  refine nm_then ?_
  refine wp_seq ?_
  refine wp_region_lit ?_
  refine l_q T rfl rfl rfl rfl (rn_move rfl (T.ev 2 rfl)) ?_; clear T ac; intro ac T
  refine l_w rfl ?_; intro K hK
  refine ow_call (first := []) (cap := []) T rfl rfl rfl rfl evf (.cons (T.ev 0 rfl) (.cons evc (.cons evc .nil))) Try.func38 rfl rfl ?_
  refine Calls.mono (within_pot _ bp (-16) 16 _ (by omega) (by omega) (by omega) (M.nth 2 rfl) hsu3) ?_
  clear T
  rintro e wc ⟨xu4, su4, hxu4, hsu4, rfl, hgr, hbk⟩
  intro ac T
  replace M := M.callC (cs' := [.int .u64 su4]) (.tail (.tail .head)) hgr hbk
  clear hgr hbk
  refine sh_out hK _ _ ?_; clear hK K
  refine l_q T rfl rfl rfl rfl (rn_assign rfl (T.ev 0 rfl)) ?_; clear T ac; intro ac T
  refine wpList_nil ?_
  replace T := T.pick [0, 3, 4, 5, 6, 7] rfl
  refine nm_then ?_
  refine wp_seq ?_
  refine wp_region_lit ?_
  refine l_q T rfl rfl rfl rfl (rn_move rfl (T.ev 3 rfl)) ?_; clear T ac; intro ac T
  refine l_q T rfl rfl rfl rfl (rn_move rfl (T.ev 1 rfl)) ?_; clear T ac; intro ac T
  refine l_q T rfl rfl rfl rfl (rn_move rfl (T.ev 6 rfl)) ?_; clear T ac; intro ac T
  refine l_w rfl ?_; intro K hK
  refine ow_call (first := []) (cap := []) T rfl rfl rfl rfl evf (.cons (T.ev 2 rfl) (.cons (T.ev 1 rfl) (.cons evc (.cons evc (.cons (T.ev 0 rfl) .nil))))) Try.func66 rfl rfl ?_
  refine Calls.mono (near_pot _ bp xu4 (-60) 60 wd _ (by omega) (by omega) (by omega) (by omega) (by omega) (by omega) (M.nth 2 rfl) hsu4) ?_
  clear T
  rintro e wc ⟨xu5, yu5, su5, hxu5, hsu5, rfl, hgr, hbk⟩
  intro ac T
  replace M := M.callC (cs' := [.int .u64 su5]) (.tail (.tail .head)) hgr hbk
  clear hgr hbk
  refine sh_out hK _ _ ?_; clear hK K
  refine l_q (v := (.pointer (some ⟨g3, 0, none⟩))) T rfl rfl rfl rfl (rn_fieldAddr (off := 0) rfl (T.ev 5 rfl) (fun _ _ _ => by kernel_rfl)) ?_; clear T ac; intro ac T
  refine l_q (v := (.pointer (some ⟨g3, 0, none⟩))) T rfl rfl rfl rfl (rn_fieldAddr (off := 0) rfl (T.ev 0 rfl) (fun _ _ _ => by kernel_rfl)) ?_; clear T ac; intro ac T
  refine l_w rfl ?_; intro K hK
  refine ow_stO M T rfl rfl (T.ev 0 rfl) (T.ev 2 rfl) rfl .head rfl (by simp) rfl (by kernel_rfl) ?_; clear M T; intro wc ac M T
  refine sh_out hK _ _ ?_; clear hK K
  refine wpList_nil ?_
  replace T := T.pick [7, 8, 9, 11] rfl
  refine nm_then ?_
  refine wp_seq ?_
  refine wp_region_lit ?_
  refine l_q T rfl rfl rfl rfl (rn_move rfl (T.ev 2 rfl)) ?_; clear T ac; intro ac T
  refine l_q T rfl rfl rfl rfl (rn_move rfl (T.ev 3 rfl)) ?_; clear T ac; intro ac T
  refine l_w rfl ?_; intro K hK
  refine ow_call (first := []) (cap := []) T rfl rfl rfl rfl evf (.cons (T.ev 0 rfl) (.cons evc (.cons evc .nil))) Try.func38 rfl rfl ?_
  refine Calls.mono (within_pot _ bp 20 40 _ (by omega) (by omega) (by omega) (M.nth 2 rfl) hsu5) ?_
  clear T
  rintro e wc ⟨xu6, su6, hxu6, hsu6, rfl, hgr, hbk⟩
  intro ac T
  replace M := M.callC (cs' := [.int .u64 su6]) (.tail (.tail .head)) hgr hbk
  clear hgr hbk
  refine sh_out hK _ _ ?_; clear hK K
  refine l_w rfl ?_; intro K hK
  refine ow_call (first := []) (cap := []) T rfl rfl rfl rfl evf (.cons (T.ev 2 rfl) (.cons (T.ev 0 rfl) (.cons evc (.cons evc (.cons evc .nil))))) Try.func66 rfl rfl ?_
  refine Calls.mono (near_pot _ bp xu6 0 100 2 _ (by omega) (by omega) (by omega) (by omega) (by omega) (by omega) (M.nth 2 rfl) hsu6) ?_
  clear T
  rintro e wc ⟨xu7, yu7, su7, hxu7, hsu7, rfl, hgr, hbk⟩
  intro ac T
  replace M := M.callC (cs' := [.int .u64 su7]) (.tail (.tail .head)) hgr hbk
  clear hgr hbk
  refine sh_out hK _ _ ?_; clear hK K
  refine l_q T rfl rfl rfl rfl (rn_move rfl (T.ev 6 rfl)) ?_; clear T ac; intro ac T
  refine l_q T rfl rfl rfl rfl (rn_move rfl (T.ev 7 rfl)) ?_; clear T ac; intro ac T
  refine l_w rfl ?_; intro K hK
  refine ow_call (first := []) (cap := []) T rfl rfl rfl rfl evf (.cons (T.ev 0 rfl) (.cons evc (.cons evc .nil))) Try.func38 rfl rfl ?_
  refine Calls.mono (within_pot _ bp 20 40 _ (by omega) (by omega) (by omega) (M.nth 2 rfl) hsu7) ?_
  clear T
  rintro e wc ⟨xu8, su8, hxu8, hsu8, rfl, hgr, hbk⟩
  intro ac T
  replace M := M.callC (cs' := [.int .u64 su8]) (.tail (.tail .head)) hgr hbk
  clear hgr hbk
  refine sh_out hK _ _ ?_; clear hK K
  refine l_w rfl ?_; intro K hK
  refine ow_call (first := []) (cap := []) T rfl rfl rfl rfl evf (.cons (T.ev 2 rfl) (.cons (T.ev 0 rfl) (.cons evc (.cons evc (.cons evc .nil))))) Try.func66 rfl rfl ?_
  refine Calls.mono (near_pot _ bp xu8 0 100 2 _ (by omega) (by omega) (by omega) (by omega) (by omega) (by omega) (M.nth 2 rfl) hsu8) ?_
  clear T
  rintro e wc ⟨xu9, yu9, su9, hxu9, hsu9, rfl, hgr, hbk⟩
  intro ac T
  replace M := M.callC (cs' := [.int .u64 su9]) (.tail (.tail .head)) hgr hbk
  clear hgr hbk
  refine sh_out hK _ _ ?_; clear hK K
  refine l_q (v := (.pointer (some ⟨g3, 0, none⟩))) T rfl rfl rfl rfl (rn_fieldAddr (off := 0) rfl (T.ev 8 rfl) (fun _ _ _ => by kernel_rfl)) ?_; clear T ac; intro ac T
  refine l_q (v := (.pointer (some ⟨g3, 2, none⟩))) T rfl rfl rfl rfl (rn_fieldAddr (off := 2) rfl (T.ev 0 rfl) (fun _ _ _ => by kernel_rfl)) ?_; clear T ac; intro ac T
  refine l_w rfl ?_; intro K hK
  refine ow_stO M T rfl rfl (T.ev 0 rfl) (T.ev 6 rfl) rfl .head rfl (by simp) rfl (by kernel_rfl) ?_; clear M T; intro wc ac M T
  refine sh_out hK _ _ ?_; clear hK K
  refine l_q (v := (.pointer (some ⟨g3, 0, none⟩))) T rfl rfl rfl rfl (rn_fieldAddr (off := 0) rfl (T.ev 10 rfl) (fun _ _ _ => by kernel_rfl)) ?_; clear T ac; intro ac T
  refine l_q (v := (.pointer (some ⟨g3, 4, none⟩))) T rfl rfl rfl rfl (rn_fieldAddr (off := 4) rfl (T.ev 0 rfl) (fun _ _ _ => by kernel_rfl)) ?_; clear T ac; intro ac T
  refine l_w rfl ?_; intro K hK
  refine ow_stO M T rfl rfl (T.ev 0 rfl) (T.ev 4 rfl) rfl .head rfl (by simp) rfl (by kernel_rfl) ?_; clear M T; intro wc ac M T
  refine sh_out hK _ _ ?_; clear hK K
  refine wpList_nil ?_
  replace T := T.pick [12, 13, 14, 15] rfl
  refine nm_then ?_
  refine wp_seq ?_
  refine wp_region_lit ?_
  refine l_q T rfl rfl rfl rfl (rn_move rfl (T.ev 2 rfl)) ?_; clear T ac; intro ac T
  refine l_q T rfl rfl rfl rfl (rn_move rfl (T.ev 3 rfl)) ?_; clear T ac; intro ac T
  refine l_w rfl ?_; intro K hK
  refine ow_call (first := []) (cap := []) T rfl rfl rfl rfl evf (.cons (T.ev 0 rfl) (.cons evc (.cons evc .nil))) Try.func38 rfl rfl ?_
  refine Calls.mono (within_pot _ bp 1 6 _ (by omega) (by omega) (by omega) (M.nth 2 rfl) hsu9) ?_
  clear T
  rintro e wc ⟨xu10, su10, hxu10, hsu10, rfl, hgr, hbk⟩
  intro ac T
  replace M := M.callC (cs' := [.int .u64 su10]) (.tail (.tail .head)) hgr hbk
  clear hgr hbk
  refine sh_out hK _ _ ?_; clear hK K
  refine l_q T rfl rfl rfl rfl (rn_move rfl (T.ev 6 rfl)) ?_; clear T ac; intro ac T
  refine l_w rfl ?_; intro K hK
  refine ow_call (first := []) (cap := []) T rfl rfl rfl rfl evf (.cons (T.ev 3 rfl) (.cons (T.ev 1 rfl) (.cons evc (.cons evc (.cons (T.ev 0 rfl) .nil))))) Try.func66 rfl rfl ?_
  refine Calls.mono (near_pot _ bp xu10 0 12 ls _ (by omega) (by omega) (by omega) (by omega) (by omega) (by omega) (M.nth 2 rfl) hsu10) ?_
  clear T
  rintro e wc ⟨xu11, yu11, su11, hxu11, hsu11, rfl, hgr, hbk⟩
  intro ac T
  replace M := M.callC (cs' := [.int .u64 su11]) (.tail (.tail .head)) hgr hbk
  clear hgr hbk
  refine sh_out hK _ _ ?_; clear hK K
  refine l_q T rfl rfl rfl rfl (rn_move rfl (T.ev 7 rfl)) ?_; clear T ac; intro ac T
  refine l_q T rfl rfl rfl rfl (rn_move rfl (T.ev 8 rfl)) ?_; clear T ac; intro ac T
  refine l_w rfl ?_; intro K hK
  refine ow_call (first := []) (cap := []) T rfl rfl rfl rfl evf (.cons (T.ev 0 rfl) (.cons evc (.cons evc .nil))) Try.func38 rfl rfl ?_
  refine Calls.mono (within_pot _ bp 1 6 _ (by omega) (by omega) (by omega) (M.nth 2 rfl) hsu11) ?_
  clear T
  rintro e wc ⟨xu12, su12, hxu12, hsu12, rfl, hgr, hbk⟩
  intro ac T
  replace M := M.callC (cs' := [.int .u64 su12]) (.tail (.tail .head)) hgr hbk
  clear hgr hbk
  refine sh_out hK _ _ ?_; clear hK K
  refine l_q T rfl rfl rfl rfl (rn_move rfl (T.ev 11 rfl)) ?_; clear T ac; intro ac T
  refine l_w rfl ?_; intro K hK
  refine ow_call (first := []) (cap := []) T rfl rfl rfl rfl evf (.cons (T.ev 3 rfl) (.cons (T.ev 1 rfl) (.cons evc (.cons evc (.cons (T.ev 0 rfl) .nil))))) Try.func66 rfl rfl ?_
  refine Calls.mono (near_pot _ bp xu12 0 12 ls _ (by omega) (by omega) (by omega) (by omega) (by omega) (by omega) (M.nth 2 rfl) hsu12) ?_
  clear T
  rintro e wc ⟨xu13, yu13, su13, hxu13, hsu13, rfl, hgr, hbk⟩
  intro ac T
  replace M := M.callC (cs' := [.int .u64 su13]) (.tail (.tail .head)) hgr hbk
  clear hgr hbk
  refine sh_out hK _ _ ?_; clear hK K
  refine l_q (v := (.pointer (some ⟨g3, 6, none⟩))) T rfl rfl rfl rfl (rn_fieldAddr (off := 6) rfl (T.ev 10 rfl) (fun _ _ _ => by kernel_rfl)) ?_; clear T ac; intro ac T
  refine l_q (v := (.pointer (some ⟨g3, 6, none⟩))) T rfl rfl rfl rfl (rn_fieldAddr (off := 0) rfl (T.ev 0 rfl) (fun _ _ _ => by kernel_rfl)) ?_; clear T ac; intro ac T
  refine l_w rfl ?_; intro K hK
  refine ow_stO M T rfl rfl (T.ev 0 rfl) (T.ev 7 rfl) rfl .head rfl (by simp) rfl (by kernel_rfl) ?_; clear M T; intro wc ac M T
  refine sh_out hK _ _ ?_; clear hK K
  refine l_q (v := (.pointer (some ⟨g3, 6, none⟩))) T rfl rfl rfl rfl (rn_fieldAddr (off := 6) rfl (T.ev 12 rfl) (fun _ _ _ => by kernel_rfl)) ?_; clear T ac; intro ac T
  refine l_q (v := (.pointer (some ⟨g3, 8, none⟩))) T rfl rfl rfl rfl (rn_fieldAddr (off := 2) rfl (T.ev 0 rfl) (fun _ _ _ => by kernel_rfl)) ?_; clear T ac; intro ac T
  refine l_w rfl ?_; intro K hK
  refine ow_stO M T rfl rfl (T.ev 0 rfl) (T.ev 4 rfl) rfl .head rfl (by simp) rfl (by kernel_rfl) ?_; clear M T; intro wc ac M T
  refine sh_out hK _ _ ?_; clear hK K
  refine wpList_nil ?_
  replace T := T.pick [14, 15, 16] rfl
  refine nm_then ?_
  refine wp_seq ?_
  refine wp_region_lit ?_
  refine l_q T rfl rfl rfl rfl (rn_move rfl (T.ev 2 rfl)) ?_; clear T ac; intro ac T
  refine l_q T rfl rfl rfl rfl (rn_move rfl (T.ev 3 rfl)) ?_; clear T ac; intro ac T
  refine l_w rfl ?_; intro K hK
  refine ow_call (first := []) (cap := []) T rfl rfl rfl rfl evf (.cons (T.ev 0 rfl) (.cons evc .nil)) Try.func28 rfl rfl ?_
  refine Calls.mono (upto_any _ bp 4 _ (by omega) (by omega) (M.nth 2 rfl) hsu13) ?_
  clear T
  rintro e wc ⟨xu14, su14, hxu14, hsu14, rfl, hgr, hbk⟩
  intro ac T
  replace M := M.callC (cs' := [.int .u64 su14]) (.tail (.tail .head)) hgr hbk
  clear hgr hbk
  refine sh_out hK _ _ ?_; clear hK K
  refine l_w rfl ?_; intro K hK
  refine ow_call (first := []) (cap := []) T rfl rfl rfl rfl evf (.cons (T.ev 2 rfl) (.cons (T.ev 0 rfl) (.cons evc (.cons evc (.cons evc .nil))))) Try.func66 rfl rfl ?_
  refine Calls.mono (near_pot _ bp xu14 0 12 1 _ (by omega) (by omega) (by omega) (by omega) (by omega) (by omega) (M.nth 2 rfl) hsu14) ?_
  clear T
  rintro e wc ⟨xu15, yu15, su15, hxu15, hsu15, rfl, hgr, hbk⟩
  intro ac T
  replace M := M.callC (cs' := [.int .u64 su15]) (.tail (.tail .head)) hgr hbk
  clear hgr hbk
  refine sh_out hK _ _ ?_; clear hK K
  refine l_q T rfl rfl rfl rfl (rn_move rfl (T.ev 6 rfl)) ?_; clear T ac; intro ac T
  refine l_q T rfl rfl rfl rfl (rn_move rfl (T.ev 7 rfl)) ?_; clear T ac; intro ac T
  refine l_w rfl ?_; intro K hK
  refine ow_call (first := []) (cap := []) T rfl rfl rfl rfl evf (.cons (T.ev 0 rfl) (.cons evc .nil)) Try.func28 rfl rfl ?_
  refine Calls.mono (upto_any _ bp 4 _ (by omega) (by omega) (M.nth 2 rfl) hsu15) ?_
  clear T
  rintro e wc ⟨xu16, su16, hxu16, hsu16, rfl, hgr, hbk⟩
  intro ac T
  replace M := M.callC (cs' := [.int .u64 su16]) (.tail (.tail .head)) hgr hbk
  clear hgr hbk
  refine sh_out hK _ _ ?_; clear hK K
  refine l_w rfl ?_; intro K hK
  refine ow_call (first := []) (cap := []) T rfl rfl rfl rfl evf (.cons (T.ev 2 rfl) (.cons (T.ev 0 rfl) (.cons evc (.cons evc (.cons evc .nil))))) Try.func66 rfl rfl ?_
  refine Calls.mono (near_pot _ bp xu16 0 12 1 _ (by omega) (by omega) (by omega) (by omega) (by omega) (by omega) (M.nth 2 rfl) hsu16) ?_
  clear T
  rintro e wc ⟨xu17, yu17, su17, hxu17, hsu17, rfl, hgr, hbk⟩
  intro ac T
  replace M := M.callC (cs' := [.int .u64 su17]) (.tail (.tail .head)) hgr hbk
  clear hgr hbk
  refine sh_out hK _ _ ?_; clear hK K
  refine l_q (v := (.pointer (some ⟨g3, 6, none⟩))) T rfl rfl rfl rfl (rn_fieldAddr (off := 6) rfl (T.ev 8 rfl) (fun _ _ _ => by kernel_rfl)) ?_; clear T ac; intro ac T
  refine l_q (v := (.pointer (some ⟨g3, 10, none⟩))) T rfl rfl rfl rfl (rn_fieldAddr (off := 4) rfl (T.ev 0 rfl) (fun _ _ _ => by kernel_rfl)) ?_; clear T ac; intro ac T
  refine l_w rfl ?_; intro K hK
  refine ow_stO M T rfl rfl (T.ev 0 rfl) (T.ev 6 rfl) rfl .head rfl (by simp) rfl (by kernel_rfl) ?_; clear M T; intro wc ac M T
  refine sh_out hK _ _ ?_; clear hK K
  refine l_q (v := (.pointer (some ⟨g3, 6, none⟩))) T rfl rfl rfl rfl (rn_fieldAddr (off := 6) rfl (T.ev 10 rfl) (fun _ _ _ => by kernel_rfl)) ?_; clear T ac; intro ac T
  refine l_q (v := (.pointer (some ⟨g3, 12, none⟩))) T rfl rfl rfl rfl (rn_fieldAddr (off := 6) rfl (T.ev 0 rfl) (fun _ _ _ => by kernel_rfl)) ?_; clear T ac; intro ac T
  refine l_w rfl ?_; intro K hK
  refine ow_stO M T rfl rfl (T.ev 0 rfl) (T.ev 4 rfl) rfl .head rfl (by simp) rfl (by kernel_rfl) ?_; clear M T; intro wc ac M T
  refine sh_out hK _ _ ?_; clear hK K
  refine wpList_nil ?_
  replace T := T.pick [12, 13, 14] rfl
  refine nm_then ?_
  refine wp_seq ?_
  refine wp_region_lit ?_
  refine l_q T rfl rfl rfl rfl (rn_move rfl (T.ev 2 rfl)) ?_; clear T ac; intro ac T
  refine l_w rfl ?_; intro K hK
  refine ow_call (first := []) (cap := []) T rfl rfl rfl rfl evf (.cons (T.ev 0 rfl) (.cons evc (.cons evc .nil))) Try.func38 rfl rfl ?_
  refine Calls.mono (within_pot _ bp 10 30 _ (by omega) (by omega) (by omega) (M.nth 2 rfl) hsu17) ?_
  clear T
  rintro e wc ⟨xu18, su18, hxu18, hsu18, rfl, hgr, hbk⟩
  intro ac T
  replace M := M.callC (cs' := [.int .u64 su18]) (.tail (.tail .head)) hgr hbk
  clear hgr hbk
  refine sh_out hK _ _ ?_; clear hK K
  refine l_q (v := (.pointer (some ⟨g3, 6, none⟩))) T rfl rfl rfl rfl (rn_fieldAddr (off := 6) rfl (T.ev 2 rfl) (fun _ _ _ => by kernel_rfl)) ?_; clear T ac; intro ac T
  refine l_q (v := (.pointer (some ⟨g3, 14, none⟩))) T rfl rfl rfl rfl (rn_fieldAddr (off := 8) rfl (T.ev 0 rfl) (fun _ _ _ => by kernel_rfl)) ?_; clear T ac; intro ac T
  refine l_w rfl ?_; intro K hK
  refine ow_stO M T rfl rfl (T.ev 0 rfl) (T.ev 2 rfl) rfl .head rfl (by simp) rfl (by kernel_rfl) ?_; clear M T; intro wc ac M T
  refine sh_out hK _ _ ?_; clear hK K
  refine wpList_nil ?_
  replace T := T.pick [4, 5, 6] rfl
  refine nm_then ?_
  refine wp_seq ?_
  refine wp_seq ?_
  refine wp_region_lit ?_
  refine l_q T rfl rfl rfl rfl (rn_move rfl (T.ev 2 rfl)) ?_; clear T ac; intro ac T
  refine l_w rfl ?_; intro K hK
  refine ow_call (first := []) (cap := []) T rfl rfl rfl rfl evf (.cons (T.ev 0 rfl) (.cons evc .nil)) Try.func28 rfl rfl ?_
  refine Calls.mono (upto_any _ bp 3 _ (by omega) (by omega) (M.nth 2 rfl) hsu18) ?_
  clear T
  rintro e wc ⟨xu19, su19, hxu19, hsu19, rfl, hgr, hbk⟩
  intro ac T
  replace M := M.callC (cs' := [.int .u64 su19]) (.tail (.tail .head)) hgr hbk
  clear hgr hbk
  refine sh_out hK _ _ ?_; clear hK K
  refine l_q T rfl rfl rfl rfl (rn_assign rfl (T.ev 0 rfl)) ?_; clear T ac; intro ac T
  refine wpList_nil ?_
  replace T := T.pick [0, 3, 4, 5] rfl
  refine nm_then ?_
  refine wp_block ?_
  obtain ⟨j, M, hsh, hj⟩ : ∃ j : Jb, Mem w (fun b => b = bp) wc [(g3, .cells [.int .i64 j.p0, .int .i64 j.p1, .int .i64 j.t0, .int .i64 j.t1, .int .i64 j.r0, .int .i64 j.r1, .int .i64 j.u0, .int .i64 j.u1, .int .i64 j.d0, .int .i64 j.d1, .int .i64 j.a0, .int .i64 j.a1, .int .i64 j.b0, .int .i64 j.b1, .int .i64 j.le, .slice none 0 0, .int .i64 j.wi, .int .i64 j.me]), (g1, .cells [.int .i64 0, .int .i64 0, .int .i64 0, .int .i64 0, .int .i64 0, .int .i64 0, .int .i64 0, .int .i64 0, .int .i64 0, .int .i64 0, .int .i64 0, .int .i64 0, .int .i64 0, .int .i64 0, .int .i64 0, .slice none 0 0, .int .i64 0, .int .i64 0]), (bp, .cells [.int .u64 su19])] ∧ j.sh = [] ∧ j.made wd ls :=
    ⟨⟨xu5, yu5, xu7, yu7, xu9, yu9, xu11, yu11, xu13, yu13, xu15, yu15, xu17, yu17, xu18, [], xu1, xu3⟩, M.perm [0, 1, 2] rfl rfl, rfl, ⟨by dsimp only; omega, by dsimp only; omega, by dsimp only; omega, by dsimp only; omega, by dsimp only; omega, by dsimp only; omega, by dsimp only; omega, by dsimp only; omega, by simp, by simp, by dsimp only; omega, by dsimp only; omega⟩⟩
  refine wp_loop_n (fun mz ac wc => ∃ (i : Int) (sh : List (Int × Int)) (A : Option Addr) (c : Nat) (s : Int) (I : List (Nat × BA)), mz = i.toNat ∧ (0 ≤ i) ∧ ((sh.length : Int) + i ≤ 3) ∧ (∀ q ∈ sh, -5 ≤ q.1 ∧ q.1 ≤ q.2 ∧ q.2 ≤ 5) ∧ (u64ok s) ∧ (Sl 23 2 (.slice A sh.length c) sh.length (rc sh) I) ∧ Tm ac 84 [(0, .pointer (some ⟨bp, 0, none⟩)), (6, .pointer (some ⟨g1, 0, none⟩)), (7, .pointer (some ⟨g3, 0, none⟩)), (9, .int .i64 i)] ∧ Mem w (fun b => b = bp) wc ((g3, .cells [.int .i64 j.p0, .int .i64 j.p1, .int .i64 j.t0, .int .i64 j.t1, .int .i64 j.r0, .int .i64 j.r1, .int .i64 j.u0, .int .i64 j.u1, .int .i64 j.d0, .int .i64 j.d1, .int .i64 j.a0, .int .i64 j.a1, .int .i64 j.b0, .int .i64 j.b1, .int .i64 j.le, .slice A sh.length c, .int .i64 j.wi, .int .i64 j.me]) :: (g1, .cells [.int .i64 0, .int .i64 0, .int .i64 0, .int .i64 0, .int .i64 0, .int .i64 0, .int .i64 0, .int .i64 0, .int .i64 0, .int .i64 0, .int .i64 0, .int .i64 0, .int .i64 0, .int .i64 0, .int .i64 0, .slice none 0 0, .int .i64 0, .int .i64 0]) :: (bp, .cells [.int .u64 s]) :: I)) ?_ ?_
  · exact ⟨_, _, [], none, 0, _, [], rfl, (by omega), (by simp; omega), (fun q hq => by cases hq), hsu19, (Sl.nil _ _), T.pick [3, 2, 1, 0] rfl, M.mask [true, true, true] rfl⟩
  · clear T M
    rintro mz ac wc ⟨i, sh, A, c, s, I, hmm1, hi, hlen, hq, hs, hsl, T, M⟩
    refine wp_seq ?_
    refine wp_seq ?_
    refine wp_region_lit ?_
    refine l_q T rfl rfl rfl rfl (rn_move rfl (T.ev 3 rfl)) ?_; clear T ac; intro ac T
    refine l_q T rfl rfl rfl rfl (rn_gtr rfl (T.ev 0 rfl) evc) ?_; clear T ac; intro ac T
    refine wpList_nil ?_
    replace T := T.pick [0, 2, 3, 4, 5] rfl
    refine nm_then ?_
    refine wp_if (T.ev 0 rfl) ?_ ?_
    · intro h1
      refine wp_skip ?_
      refine nm_then ?_
      refine wp_seq ?_
      refine wp_block ?_
      refine g_start2 M (M.perm [1] rfl rfl) 10 (by kernel_rfl) rfl (by kernel_rfl) ?_
      clear M; intro wc M
      refine g_addG 4 M ?_
      refine g_addG 9 (M.perm [0, 1] rfl rfl) ?_
      refine g_q (v := (.pointer (some ⟨g3, 15, none⟩))) (T := T) (i := 0) rfl (by kernel_rfl) (by kernel_rfl : (pbits 10 0).setIfInBounds 0 true = pbits 10 1) (si_and (si_G rfl) (si_and (si_G rfl) si_U)) (fun _ _ _ h => h) rfl rfl rfl rfl (fun _ _ _ _ _ => (rn_fieldAddr (off := 15) rfl (T.ev 3 rfl) (fun _ _ _ => by kernel_rfl))) ?_; clear T ac; intro ac T
      refine g_q (T := T) (i := 1) rfl (by kernel_rfl) (by kernel_rfl : (pbits 10 1).setIfInBounds 1 true = pbits 10 3) (si_and (si_G rfl) (si_and (si_G rfl) si_U)) (fun _ _ _ h => h) rfl rfl rfl rfl (fun B w' hD hl hS => (rn_one (Mem.nth (show Mem w (fun b => b = bp) w' _ from ((MA.lft hS) (hD.wait (i := 1) (m := 9) (by kernel_rfl) hl))) 0 rfl) rfl (T.ev 0 rfl) rfl)) ?_; clear T ac; intro ac T
      refine g_q (T := T) (i := 2) rfl (by kernel_rfl) (by kernel_rfl : (pbits 10 3).setIfInBounds 2 true = pbits 10 7) (si_and (si_G rfl) (si_and (si_G rfl) si_U)) (fun _ _ _ h => h) rfl rfl rfl rfl (fun _ _ _ _ _ => (rn_move rfl (T.ev 3 rfl))) ?_; clear T ac; intro ac T
      refine g_q (T := T) (i := 3) rfl (by kernel_rfl) (by kernel_rfl : (pbits 10 7).setIfInBounds 3 true = pbits 10 15) (si_and (si_G rfl) (si_and (si_G rfl) si_U)) (fun _ _ _ h => h) rfl rfl rfl rfl (fun _ _ _ _ _ => (rn_move rfl (T.ev 4 rfl))) ?_; clear T ac; intro ac T
      refine g_w (i := 4) (by kernel_rfl) rfl (by kernel_rfl : (pbits 10 15).setIfInBounds 4 true = pbits 10 31) rfl ?_; intro K hK
      refine ow_call (first := []) (cap := []) T rfl rfl rfl rfl evf (.cons (T.ev 0 rfl) (.cons evc (.cons evc .nil))) Try.func38 rfl rfl ?_
      refine Calls.mono (within_pot _ bp (-3) 3 _ (by omega) (by omega) (by omega) (M.nth 2 rfl) hs) ?_
      clear T
      rintro e wc ⟨xu20, su20, hxu20, hsu20, rfl, hgr, hbk⟩
      intro ac T
      replace M := M.callC (cs' := [.int .u64 su20]) (.tail (.tail .head)) hgr hbk
      clear hgr hbk
      refine sh_out hK _ _ (MA.mk (fun _ => M.perm [0, 1] rfl rfl) (MA.mk (fun h => (no_of (by kernel_rfl) h).elim) (M.perm [1] rfl rfl))) ?_; clear hK K
      refine g_w (i := 5) (by kernel_rfl) rfl (by kernel_rfl : (pbits 10 31).setIfInBounds 5 true = pbits 10 63) rfl ?_; intro K hK
      refine ow_call (first := []) (cap := []) T rfl rfl rfl rfl evf (.cons (T.ev 2 rfl) (.cons (T.ev 0 rfl) (.cons evc (.cons evc (.cons evc .nil))))) Try.func66 rfl rfl ?_
      refine Calls.mono (near_pot _ bp xu20 (-60) 60 2 _ (by omega) (by omega) (by omega) (by omega) (by omega) (by omega) (M.nth 2 rfl) hsu20) ?_
      clear T
      rintro e wc ⟨xu21, yu21, su21, hxu21, hsu21, rfl, hgr, hbk⟩
      intro ac T
      replace M := M.callC (cs' := [.int .u64 su21]) (.tail (.tail .head)) hgr hbk
      clear hgr hbk
      refine sh_out hK _ _ (MA.mk (fun _ => M.perm [0, 1] rfl rfl) (MA.mk (fun h => (no_of (by kernel_rfl) h).elim) (M.perm [1] rfl rfl))) ?_; clear hK K
      refine g_w (i := 6) (by kernel_rfl) rfl (by kernel_rfl : (pbits 10 63).setIfInBounds 6 true = pbits 10 127) rfl ?_; intro K hK
      refine ow_bs (e := 23) [.int .i64 xu21, .int .i64 yu21] M T rfl rfl rfl rfl (.cons (T.ev 0 rfl) .nil) (fun _ => by kernel_rfl) ?_; clear M T; intro g4 wc ac M T
      refine sh_out hK _ _ (MA.mk (fun _ => M.perm [1, 2] rfl rfl) (MA.mk (fun h => (no_of (by kernel_rfl) h).elim) (M.perm [2] rfl rfl))) ?_; clear hK K
      refine g_w (i := 7) (by kernel_rfl) rfl (by kernel_rfl : (pbits 10 127).setIfInBounds 7 true = pbits 10 255) rfl ?_; intro K hK
      refine ow_app ([(g4, .cells [.int .i64 xu21, .int .i64 yu21]), (g3, .cells [.int .i64 j.p0, .int .i64 j.p1, .int .i64 j.t0, .int .i64 j.t1, .int .i64 j.r0, .int .i64 j.r1, .int .i64 j.u0, .int .i64 j.u1, .int .i64 j.d0, .int .i64 j.d1, .int .i64 j.a0, .int .i64 j.a1, .int .i64 j.b0, .int .i64 j.b1, .int .i64 j.le, .slice A sh.length c, .int .i64 j.wi, .int .i64 j.me]), (g1, .cells [.int .i64 0, .int .i64 0, .int .i64 0, .int .i64 0, .int .i64 0, .int .i64 0, .int .i64 0, .int .i64 0, .int .i64 0, .int .i64 0, .int .i64 0, .int .i64 0, .int .i64 0, .int .i64 0, .int .i64 0, .slice none 0 0, .int .i64 0, .int .i64 0]), (bp, .cells [.int .u64 su21])]) Try.info23 hsl M (by first | rfl | simp) T rfl rfl rfl rfl Try.underlying28 rfl rfl rfl (by omega) (T.ev 5 rfl) (T.ev 0 rfl) (nthE_mem (i := 0) rfl) rfl rfl ?_; clear M T; intro ga1 cga1 wc ac M T
      refine sh_out hK _ _ (MA.mk (fun _ => M.mask [false, false, true, true, false] rfl) (MA.mk (fun h => (no_of (by kernel_rfl) h).elim) (M.mask [false, false, false, true, false] rfl))) ?_; clear hK K
      refine g_q (v := (.pointer (some ⟨g3, 15, none⟩))) (T := T) (i := 8) rfl (by kernel_rfl) (by kernel_rfl : (pbits 10 255).setIfInBounds 8 true = pbits 10 511) (si_and (si_G rfl) (si_and (si_G rfl) si_U)) (fun _ _ _ h => h) rfl rfl rfl rfl (fun _ _ _ _ _ => (rn_fieldAddr (off := 15) rfl (T.ev 11 rfl) (fun _ _ _ => by kernel_rfl))) ?_; clear T ac; intro ac T
      refine g_w (i := 9) (by kernel_rfl) rfl (by kernel_rfl : (pbits 10 511).setIfInBounds 9 true = pbits 10 1023) rfl ?_; intro K hK
      refine ow_stO M T rfl rfl (T.ev 0 rfl) (T.ev 1 rfl) rfl (.tail (.tail .head)) rfl (by simp) rfl (by kernel_rfl) ?_; clear M T; intro wc ac M T
      refine sh_out hK _ _ (MA.mk (fun h => (no_of (by kernel_rfl) h).elim) (MA.mk (fun h => (no_of (by kernel_rfl) h).elim) (M.mask [false, false, false, true, false] rfl))) ?_; clear hK K
      refine g_done (by kernel_rfl) ?_
      replace T := T.pick [10, 11, 12, 13] rfl
      replace M := M.mask [true, false, true, true, true] rfl
      refine nm_blk ?_
      refine nm_then ?_
      refine wp_region_lit ?_
      refine l_q T rfl rfl rfl rfl (rn_move rfl (T.ev 3 rfl)) ?_; clear T ac; intro ac T
      refine l_q T rfl rfl rfl rfl (rn_sub rfl (T.ev 0 rfl) evc (by omega)) ?_; clear T ac; intro ac T
      refine l_q (v := (.int .i64 (i - 1))) (T.pick [0, 1, 2, 3, 4] rfl) rfl rfl rfl rfl (rn_assign rfl (T.ev 0 rfl)) ?_; clear T ac; intro ac T
      refine wpList_nil ?_
      replace T := T.pick [0, 3, 4, 5] rfl
      refine nm_then ?_
      exact ⟨_, by omega, (i - 1), (sh ++ [(xu21, yu21)]), some ⟨ga1, 0, none⟩, cga1, su21, [(ga1, .row 23 2 (sh.length + 1) ((rc sh) ++ [.int .i64 xu21, .int .i64 yu21]) cga1)], rfl, (by omega), (by simp only [List.length_append, List.length_cons, List.length_nil]; omega), (fun q hq' => by rcases List.mem_append.1 hq' with h9 | h9; exact hq q h9; simp only [List.mem_cons, List.not_mem_nil, or_false] at h9; subst h9; dsimp only; omega), hsu21, (by rw [← rc_snoc, List.length_append]; exact Sl.row _ _ _ _ _ _), T.pick [1, 2, 3, 0] rfl, (by rw [List.length_append]; exact M.perm [1, 2, 3, 0] rfl rfl)⟩
    · intro h1
      refine wp_exit ?_
      refine ex_then ?_
      refine ex_then ?_
      refine ex_hit ?_
      refine nm_then ?_
      refine wp_seq ?_
      refine wp_region_lit ?_
      refine l_q T rfl rfl rfl rfl (rn_rowO (Mem.nth M 0 rfl) rfl (T.ev 3 rfl) rfl) ?_; clear T ac; intro ac T
      refine l_w rfl ?_; intro K hK
      refine ow_stO M T rfl rfl (T.ev 3 rfl) (T.ev 0 rfl) rfl (.tail .head) rfl (by simp) rfl (by kernel_rfl) ?_; clear M T; intro wc ac M T
      refine sh_out hK _ _ ?_; clear hK K
      refine wpList_nil ?_
      replace T := T.pick [3] rfl
      replace M := M.mask [false, true, true] rfl
      refine nm_then ?_
      refine wp_ret ?_
      refine rt_c M T rfl (T.ev 0 rfl) (nthE_mem (i := 0) rfl) rfl ?_
      exact ⟨{ j with sh := sh }, A, c, _, I, rfl, ⟨hj.p, hj.t, hj.r, hj.u, hj.d, hj.a, hj.b, hj.le, by dsimp only; omega, hq, hj.wi, hj.me⟩, hs, hsl, Mem.swapI (I := [(bp, .cells [.int .u64 s])]) (L := I) (M.mask [false, true] rfl)⟩

end Go.Proofs.Ythlpceoajhcliaa
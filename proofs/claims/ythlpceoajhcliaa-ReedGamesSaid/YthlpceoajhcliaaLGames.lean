/-
  The law ReedGames, walked.
-/
import Derived.Test.YthlpceoajhcliaaK4
import Derived.Test.YthlpceoajhcliaaRG2
namespace Go.Proofs.Ythlpceoajhcliaa
set_option linter.unusedSimpArgs false
set_option linter.unusedVariables false
open Go.RowKit

def SlowPost (j : Jb) (w : World) (e : Ending) (w' : World) : Prop := ∃ b, e = .returned (.bool b) ∧ (b = false → j.sh.length ≤ 20) ∧ Below w.heap.size w w'


set_option maxRecDepth 100000 in
set_option maxHeartbeats 1000000 in
theorem slow_any (j : Jb) (A : Option Addr) (c : Nat) (w : World) (hr : Rd w w.heap.size 2 A j.sh.length (rc j.sh)) (hn : j.sh.length ≤ 9223372036854775807) :
    Calls Try.prog 23 #[jobV j A c] w (SlowPost j w) := by
  obtain ⟨bJ, oJ, SJ⟩ := Sp.old hr
  refine px_enter noEx Try.func23 rfl 51 rfl [.agg #[.int .i64 j.p0, .int .i64 j.p1, .int .i64 j.t0, .int .i64 j.t1, .int .i64 j.r0, .int .i64 j.r1, .int .i64 j.u0, .int .i64 j.u1, .int .i64 j.d0, .int .i64 j.d1, .int .i64 j.a0, .int .i64 j.a1, .int .i64 j.b0, .int .i64 j.b1, .int .i64 j.le, .slice A j.sh.length c, .int .i64 j.wi, .int .i64 j.me]] rfl rfl (Mem.init w _) ?_
  intro ac wc T M
  refine wp_seq ?_
  refine wp_region_lit ?_
  refine l_w rfl ?_; intro K hK
  refine ow_bx M T rfl rfl rfl rfl (T.ev 0 rfl) rfl ?_; clear M T; intro g1 wc ac M T
  refine sh_out hK _ _ ?_; clear hK K
  refine l_q T rfl rfl rfl rfl (rn_assign rfl evc) ?_; clear T ac; intro ac T
  refine wpList_nil ?_
  replace T := T.pick [1] rfl
  refine nm_then ?_
  refine wp_seq ?_
  refine wp_seq ?_
  refine wp_region_lit ?_
  refine l_q (v := (.pointer (some ⟨g1, 15, none⟩))) T rfl rfl rfl rfl (rn_fieldAddr (off := 15) rfl (T.ev 0 rfl) (fun _ _ _ => by kernel_rfl)) ?_; clear T ac; intro ac T
  refine l_q T rfl rfl rfl rfl (rn_one (Mem.nth M 0 rfl) rfl (T.ev 0 rfl) rfl) ?_; clear T ac; intro ac T
  refine l_q T rfl rfl rfl rfl (rn_lenS rfl Try.underlying28 (T.ev 0 rfl)) ?_; clear T ac; intro ac T
  refine l_q T rfl rfl rfl rfl (rn_gtr rfl (T.ev 0 rfl) evc) ?_; clear T ac; intro ac T
  refine wpList_nil ?_
  replace T := T.pick [0, 4] rfl
  refine nm_then ?_
  refine wp_if (T.ev 0 rfl) ?_ ?_
  · intro h1
    refine wp_seq ?_
    refine wp_region_lit ?_
    refine l_q T rfl rfl rfl rfl (rn_assign rfl evc) ?_; clear T ac; intro ac T
    refine wpList_nil ?_
    replace T := T.pick [0] rfl
    replace M := M.mask [false] rfl
    refine nm_then ?_
    refine wp_ret ?_
    refine rt_then ?_
    refine rt_1 T rfl (T.ev 0 rfl) ?_
    exact ⟨_, rfl, fun h9 => by first | omega | (simp at h9; done), M.below⟩
  · intro h1
    refine wp_skip ?_
    refine nm_then ?_
    refine cut_seq (fun ac wc => Tm ac 51 [(2, .bool ((decide ((checkJ j) = 0)) && ((decide (8 < (j.p1 - j.p0))) || ((decide (3 < (j.u1 - j.u0))) || ((decide (3 < (j.d1 - j.d0))) || (decide (3 < j.me)))))))] ∧ Mem w noEx wc []) ?_ ?_
    · refine wp_region_lit ?_
      refine l_q (v := (.agg #[.int .i64 j.p0, .int .i64 j.p1, .int .i64 j.t0, .int .i64 j.t1, .int .i64 j.r0, .int .i64 j.r1, .int .i64 j.u0, .int .i64 j.u1, .int .i64 j.d0, .int .i64 j.d1, .int .i64 j.a0, .int .i64 j.a1, .int .i64 j.b0, .int .i64 j.b1, .int .i64 j.le, .slice A j.sh.length c, .int .i64 j.wi, .int .i64 j.me])) T rfl rfl rfl rfl (rn_row (Mem.nth M 0 rfl) rfl (T.ev 1 rfl) rfl rfl) ?_; clear T ac; intro ac T
      refine l_w rfl ?_; intro K hK
      refine ow_call (first := []) (cap := []) T rfl rfl rfl rfl evf (.cons (T.ev 0 rfl) .nil) Try.func50 rfl rfl ?_
      refine Calls.mono (rCheck_any j _ _ _ (SJ.rd M (List.nil_sublist _)) (by omega)) ?_
      clear T
      rintro e wc ⟨rfl, hb⟩
      intro ac T
      replace M := M.call hb; clear hb
      refine sh_out hK _ _ ?_; clear hK K
      refine l_q T rfl rfl rfl rfl (rn_eql rfl (T.ev 0 rfl) evc) ?_; clear T ac; intro ac T
      refine l_q T rfl rfl rfl rfl (rn_move rfl (T.ev 0 rfl)) ?_; clear T ac; intro ac T
      rcases Bool.eq_false_or_eq_true (decide ((checkJ j) = 0)) with h2 | h2
      · replace h2 := of_decide_eq_true h2
        have hj := good_of h2
        have hp := hj.p
        have hu := hj.u
        have hd := hj.d
        have hme := hj.me
        refine l_q (v := (.pointer (some ⟨g1, 0, none⟩))) T (wanted_yes rfl rfl (T.ev 0 rfl) (decide_eq_true h2)) rfl rfl rfl (rn_fieldAddr (off := 0) rfl (T.ev 5 rfl) (fun _ _ _ => by kernel_rfl)) ?_; clear T ac; intro ac T
        refine l_q (v := (.pointer (some ⟨g1, 0, none⟩))) T (wanted_yes rfl rfl (T.ev 1 rfl) (decide_eq_true h2)) rfl rfl rfl (rn_fieldAddr (off := 0) rfl (T.ev 0 rfl) (fun _ _ _ => by kernel_rfl)) ?_; clear T ac; intro ac T
        refine l_q (v := (.pointer (some ⟨g1, 1, none⟩))) T (wanted_yes rfl rfl (T.ev 2 rfl) (decide_eq_true h2)) rfl rfl rfl (rn_fieldAddr (off := 1) rfl (T.ev 0 rfl) (fun _ _ _ => by kernel_rfl)) ?_; clear T ac; intro ac T
        refine l_q T (wanted_yes rfl rfl (T.ev 3 rfl) (decide_eq_true h2)) rfl rfl rfl (rn_one (Mem.nth M 0 rfl) rfl (T.ev 0 rfl) rfl) ?_; clear T ac; intro ac T
        refine l_q (v := (.pointer (some ⟨g1, 0, none⟩))) T (wanted_yes rfl rfl (T.ev 4 rfl) (decide_eq_true h2)) rfl rfl rfl (rn_fieldAddr (off := 0) rfl (T.ev 9 rfl) (fun _ _ _ => by kernel_rfl)) ?_; clear T ac; intro ac T
        refine l_q (v := (.pointer (some ⟨g1, 0, none⟩))) T (wanted_yes rfl rfl (T.ev 5 rfl) (decide_eq_true h2)) rfl rfl rfl (rn_fieldAddr (off := 0) rfl (T.ev 0 rfl) (fun _ _ _ => by kernel_rfl)) ?_; clear T ac; intro ac T
        refine l_q (v := (.pointer (some ⟨g1, 0, none⟩))) T (wanted_yes rfl rfl (T.ev 6 rfl) (decide_eq_true h2)) rfl rfl rfl (rn_fieldAddr (off := 0) rfl (T.ev 0 rfl) (fun _ _ _ => by kernel_rfl)) ?_; clear T ac; intro ac T
        refine l_q T (wanted_yes rfl rfl (T.ev 7 rfl) (decide_eq_true h2)) rfl rfl rfl (rn_one (Mem.nth M 0 rfl) rfl (T.ev 0 rfl) rfl) ?_; clear T ac; intro ac T
        refine l_q T (wanted_yes rfl rfl (T.ev 8 rfl) (decide_eq_true h2)) rfl rfl rfl (rn_sub rfl (T.ev 4 rfl) (T.ev 0 rfl) (by omega)) ?_; clear T ac; intro ac T
        refine l_q T (wanted_yes rfl rfl (T.ev 9 rfl) (decide_eq_true h2)) rfl rfl rfl (rn_gtr rfl (T.ev 0 rfl) evc) ?_; clear T ac; intro ac T
        refine l_q T (wanted_yes rfl rfl (T.ev 10 rfl) (decide_eq_true h2)) rfl rfl rfl (rn_move rfl (T.ev 0 rfl)) ?_; clear T ac; intro ac T
        rcases Bool.eq_false_or_eq_true (decide (8 < (j.p1 - j.p0))) with h3 | h3
        · replace h3 := of_decide_eq_true h3
          refine l_pass T (wanted_no rfl rfl (T.ev 0 rfl) (decide_eq_true h3)) rfl rfl rfl ?_; clear T ac; intro ac T
          refine l_pass T (wanted_no rfl rfl (T.ev 1 rfl) (decide_eq_true h3)) rfl rfl rfl ?_; clear T ac; intro ac T
          refine l_pass T (wanted_no rfl rfl (T.ev 2 rfl) (decide_eq_true h3)) rfl rfl rfl ?_; clear T ac; intro ac T
          refine l_pass T (wanted_no rfl rfl (T.ev 3 rfl) (decide_eq_true h3)) rfl rfl rfl ?_; clear T ac; intro ac T
          refine l_pass T (wanted_no rfl rfl (T.ev 4 rfl) (decide_eq_true h3)) rfl rfl rfl ?_; clear T ac; intro ac T
          refine l_pass T (wanted_no rfl rfl (T.ev 5 rfl) (decide_eq_true h3)) rfl rfl rfl ?_; clear T ac; intro ac T
          refine l_pass T (wanted_no rfl rfl (T.ev 6 rfl) (decide_eq_true h3)) rfl rfl rfl ?_; clear T ac; intro ac T
          refine l_pass T (wanted_no rfl rfl (T.ev 7 rfl) (decide_eq_true h3)) rfl rfl rfl ?_; clear T ac; intro ac T
          refine l_pass T (wanted_no rfl rfl (T.ev 8 rfl) (decide_eq_true h3)) rfl rfl rfl ?_; clear T ac; intro ac T
          refine l_pass T (wanted_no rfl rfl (T.ev 9 rfl) (decide_eq_true h3)) rfl rfl rfl ?_; clear T ac; intro ac T
          refine l_q T (wanted_yes rfl rfl (T.ev 21 rfl) (decide_eq_true h2)) rfl rfl rfl (rn_pick1 rfl (T.ev 10 rfl) (decide_eq_true h3) evc) ?_; clear T ac; intro ac T
          refine l_q T (wanted_yes rfl rfl (T.ev 22 rfl) (decide_eq_true h2)) rfl rfl rfl (rn_move rfl (T.ev 0 rfl)) ?_; clear T ac; intro ac T
          refine l_pass T (wanted_no rfl rfl (T.ev 0 rfl) rfl) rfl rfl rfl ?_; clear T ac; intro ac T
          refine l_pass T (wanted_no rfl rfl (T.ev 1 rfl) rfl) rfl rfl rfl ?_; clear T ac; intro ac T
          refine l_pass T (wanted_no rfl rfl (T.ev 2 rfl) rfl) rfl rfl rfl ?_; clear T ac; intro ac T
          refine l_pass T (wanted_no rfl rfl (T.ev 3 rfl) rfl) rfl rfl rfl ?_; clear T ac; intro ac T
          refine l_pass T (wanted_no rfl rfl (T.ev 4 rfl) rfl) rfl rfl rfl ?_; clear T ac; intro ac T
          refine l_pass T (wanted_no rfl rfl (T.ev 5 rfl) rfl) rfl rfl rfl ?_; clear T ac; intro ac T
          refine l_pass T (wanted_no rfl rfl (T.ev 6 rfl) rfl) rfl rfl rfl ?_; clear T ac; intro ac T
          refine l_pass T (wanted_no rfl rfl (T.ev 7 rfl) rfl) rfl rfl rfl ?_; clear T ac; intro ac T
          refine l_pass T (wanted_no rfl rfl (T.ev 8 rfl) rfl) rfl rfl rfl ?_; clear T ac; intro ac T
          refine l_pass T (wanted_no rfl rfl (T.ev 9 rfl) rfl) rfl rfl rfl ?_; clear T ac; intro ac T
          refine l_q T (wanted_yes rfl rfl (T.ev 33 rfl) (decide_eq_true h2)) rfl rfl rfl (rn_pick1 rfl (T.ev 10 rfl) rfl evc) ?_; clear T ac; intro ac T
          refine l_q T (wanted_yes rfl rfl (T.ev 34 rfl) (decide_eq_true h2)) rfl rfl rfl (rn_move rfl (T.ev 0 rfl)) ?_; clear T ac; intro ac T
          refine l_pass T (wanted_no rfl rfl (T.ev 0 rfl) rfl) rfl rfl rfl ?_; clear T ac; intro ac T
          refine l_pass T (wanted_no rfl rfl (T.ev 1 rfl) rfl) rfl rfl rfl ?_; clear T ac; intro ac T
          refine l_pass T (wanted_no rfl rfl (T.ev 2 rfl) rfl) rfl rfl rfl ?_; clear T ac; intro ac T
          refine l_q T (wanted_yes rfl rfl (T.ev 38 rfl) (decide_eq_true h2)) rfl rfl rfl (rn_pick1 rfl (T.ev 3 rfl) rfl evc) ?_; clear T ac; intro ac T
          refine l_q T rfl rfl rfl rfl (rn_pick1 rfl (T.ev 39 rfl) (decide_eq_true h2) (T.ev 0 rfl)) ?_; clear T ac; intro ac T
          refine l_q T rfl rfl rfl rfl (rn_assign rfl (T.ev 0 rfl)) ?_; clear T ac; intro ac T
          refine wpList_nil ?_
          replace T := T.pick [0] rfl
          replace M := M.mask [false] rfl
          exact ⟨(T.pick (E' := [(2, .bool true)]) [0] rfl).as (by (try rw [show (decide ((checkJ j) = 0)) = true from (decide_eq_true h2)]); (try rw [show (decide (8 < (j.p1 - j.p0))) = true from (decide_eq_true h3)]); rfl), M.mask [] rfl⟩
        · replace h3 := of_decide_eq_false h3
          refine l_q (v := (.pointer (some ⟨g1, 6, none⟩))) T (wanted_yes rfl rfl (T.ev 0 rfl) (decide_eq_false h3)) rfl rfl rfl (rn_fieldAddr (off := 6) rfl (T.ev 16 rfl) (fun _ _ _ => by kernel_rfl)) ?_; clear T ac; intro ac T
          refine l_q (v := (.pointer (some ⟨g1, 6, none⟩))) T (wanted_yes rfl rfl (T.ev 1 rfl) (decide_eq_false h3)) rfl rfl rfl (rn_fieldAddr (off := 0) rfl (T.ev 0 rfl) (fun _ _ _ => by kernel_rfl)) ?_; clear T ac; intro ac T
          refine l_q (v := (.pointer (some ⟨g1, 7, none⟩))) T (wanted_yes rfl rfl (T.ev 2 rfl) (decide_eq_false h3)) rfl rfl rfl (rn_fieldAddr (off := 1) rfl (T.ev 0 rfl) (fun _ _ _ => by kernel_rfl)) ?_; clear T ac; intro ac T
          refine l_q T (wanted_yes rfl rfl (T.ev 3 rfl) (decide_eq_false h3)) rfl rfl rfl (rn_one (Mem.nth M 0 rfl) rfl (T.ev 0 rfl) rfl) ?_; clear T ac; intro ac T
          refine l_q (v := (.pointer (some ⟨g1, 6, none⟩))) T (wanted_yes rfl rfl (T.ev 4 rfl) (decide_eq_false h3)) rfl rfl rfl (rn_fieldAddr (off := 6) rfl (T.ev 20 rfl) (fun _ _ _ => by kernel_rfl)) ?_; clear T ac; intro ac T
          refine l_q (v := (.pointer (some ⟨g1, 6, none⟩))) T (wanted_yes rfl rfl (T.ev 5 rfl) (decide_eq_false h3)) rfl rfl rfl (rn_fieldAddr (off := 0) rfl (T.ev 0 rfl) (fun _ _ _ => by kernel_rfl)) ?_; clear T ac; intro ac T
          refine l_q (v := (.pointer (some ⟨g1, 6, none⟩))) T (wanted_yes rfl rfl (T.ev 6 rfl) (decide_eq_false h3)) rfl rfl rfl (rn_fieldAddr (off := 0) rfl (T.ev 0 rfl) (fun _ _ _ => by kernel_rfl)) ?_; clear T ac; intro ac T
          refine l_q T (wanted_yes rfl rfl (T.ev 7 rfl) (decide_eq_false h3)) rfl rfl rfl (rn_one (Mem.nth M 0 rfl) rfl (T.ev 0 rfl) rfl) ?_; clear T ac; intro ac T
          refine l_q T (wanted_yes rfl rfl (T.ev 8 rfl) (decide_eq_false h3)) rfl rfl rfl (rn_sub rfl (T.ev 4 rfl) (T.ev 0 rfl) (by omega)) ?_; clear T ac; intro ac T
          refine l_q T (wanted_yes rfl rfl (T.ev 9 rfl) (decide_eq_false h3)) rfl rfl rfl (rn_gtr rfl (T.ev 0 rfl) evc) ?_; clear T ac; intro ac T
          refine l_q T (wanted_yes rfl rfl (T.ev 21 rfl) (decide_eq_true h2)) rfl rfl rfl (rn_pick0 rfl (T.ev 10 rfl) (decide_eq_false h3) (T.ev 0 rfl)) ?_; clear T ac; intro ac T
          refine l_q T (wanted_yes rfl rfl (T.ev 22 rfl) (decide_eq_true h2)) rfl rfl rfl (rn_move rfl (T.ev 0 rfl)) ?_; clear T ac; intro ac T
          rcases Bool.eq_false_or_eq_true (decide (3 < (j.u1 - j.u0))) with h4 | h4
          · replace h4 := of_decide_eq_true h4
            refine l_pass T (wanted_no rfl rfl (T.ev 0 rfl) (decide_eq_true h4)) rfl rfl rfl ?_; clear T ac; intro ac T
            refine l_pass T (wanted_no rfl rfl (T.ev 1 rfl) (decide_eq_true h4)) rfl rfl rfl ?_; clear T ac; intro ac T
            refine l_pass T (wanted_no rfl rfl (T.ev 2 rfl) (decide_eq_true h4)) rfl rfl rfl ?_; clear T ac; intro ac T
            refine l_pass T (wanted_no rfl rfl (T.ev 3 rfl) (decide_eq_true h4)) rfl rfl rfl ?_; clear T ac; intro ac T
            refine l_pass T (wanted_no rfl rfl (T.ev 4 rfl) (decide_eq_true h4)) rfl rfl rfl ?_; clear T ac; intro ac T
            refine l_pass T (wanted_no rfl rfl (T.ev 5 rfl) (decide_eq_true h4)) rfl rfl rfl ?_; clear T ac; intro ac T
            refine l_pass T (wanted_no rfl rfl (T.ev 6 rfl) (decide_eq_true h4)) rfl rfl rfl ?_; clear T ac; intro ac T
            refine l_pass T (wanted_no rfl rfl (T.ev 7 rfl) (decide_eq_true h4)) rfl rfl rfl ?_; clear T ac; intro ac T
            refine l_pass T (wanted_no rfl rfl (T.ev 8 rfl) (decide_eq_true h4)) rfl rfl rfl ?_; clear T ac; intro ac T
            refine l_pass T (wanted_no rfl rfl (T.ev 9 rfl) (decide_eq_true h4)) rfl rfl rfl ?_; clear T ac; intro ac T
            refine l_q T (wanted_yes rfl rfl (T.ev 33 rfl) (decide_eq_true h2)) rfl rfl rfl (rn_pick1 rfl (T.ev 10 rfl) (decide_eq_true h4) evc) ?_; clear T ac; intro ac T
            refine l_q T (wanted_yes rfl rfl (T.ev 34 rfl) (decide_eq_true h2)) rfl rfl rfl (rn_move rfl (T.ev 0 rfl)) ?_; clear T ac; intro ac T
            refine l_pass T (wanted_no rfl rfl (T.ev 0 rfl) rfl) rfl rfl rfl ?_; clear T ac; intro ac T
            refine l_pass T (wanted_no rfl rfl (T.ev 1 rfl) rfl) rfl rfl rfl ?_; clear T ac; intro ac T
            refine l_pass T (wanted_no rfl rfl (T.ev 2 rfl) rfl) rfl rfl rfl ?_; clear T ac; intro ac T
            refine l_q T (wanted_yes rfl rfl (T.ev 38 rfl) (decide_eq_true h2)) rfl rfl rfl (rn_pick1 rfl (T.ev 3 rfl) rfl evc) ?_; clear T ac; intro ac T
            refine l_q T rfl rfl rfl rfl (rn_pick1 rfl (T.ev 39 rfl) (decide_eq_true h2) (T.ev 0 rfl)) ?_; clear T ac; intro ac T
            refine l_q T rfl rfl rfl rfl (rn_assign rfl (T.ev 0 rfl)) ?_; clear T ac; intro ac T
            refine wpList_nil ?_
            replace T := T.pick [0] rfl
            replace M := M.mask [false] rfl
            exact ⟨(T.pick (E' := [(2, .bool true)]) [0] rfl).as (by (try rw [show (decide ((checkJ j) = 0)) = true from (decide_eq_true h2)]); (try rw [show (decide (8 < (j.p1 - j.p0))) = false from (decide_eq_false h3)]); (try rw [show (decide (3 < (j.u1 - j.u0))) = true from (decide_eq_true h4)]); rfl), M.mask [] rfl⟩
          · replace h4 := of_decide_eq_false h4
            refine l_q (v := (.pointer (some ⟨g1, 6, none⟩))) T (wanted_yes rfl rfl (T.ev 0 rfl) (decide_eq_false h4)) rfl rfl rfl (rn_fieldAddr (off := 6) rfl (T.ev 28 rfl) (fun _ _ _ => by kernel_rfl)) ?_; clear T ac; intro ac T
            refine l_q (v := (.pointer (some ⟨g1, 8, none⟩))) T (wanted_yes rfl rfl (T.ev 1 rfl) (decide_eq_false h4)) rfl rfl rfl (rn_fieldAddr (off := 2) rfl (T.ev 0 rfl) (fun _ _ _ => by kernel_rfl)) ?_; clear T ac; intro ac T
            refine l_q (v := (.pointer (some ⟨g1, 9, none⟩))) T (wanted_yes rfl rfl (T.ev 2 rfl) (decide_eq_false h4)) rfl rfl rfl (rn_fieldAddr (off := 1) rfl (T.ev 0 rfl) (fun _ _ _ => by kernel_rfl)) ?_; clear T ac; intro ac T
            refine l_q T (wanted_yes rfl rfl (T.ev 3 rfl) (decide_eq_false h4)) rfl rfl rfl (rn_one (Mem.nth M 0 rfl) rfl (T.ev 0 rfl) rfl) ?_; clear T ac; intro ac T
            refine l_q (v := (.pointer (some ⟨g1, 6, none⟩))) T (wanted_yes rfl rfl (T.ev 4 rfl) (decide_eq_false h4)) rfl rfl rfl (rn_fieldAddr (off := 6) rfl (T.ev 32 rfl) (fun _ _ _ => by kernel_rfl)) ?_; clear T ac; intro ac T
            refine l_q (v := (.pointer (some ⟨g1, 8, none⟩))) T (wanted_yes rfl rfl (T.ev 5 rfl) (decide_eq_false h4)) rfl rfl rfl (rn_fieldAddr (off := 2) rfl (T.ev 0 rfl) (fun _ _ _ => by kernel_rfl)) ?_; clear T ac; intro ac T
            refine l_q (v := (.pointer (some ⟨g1, 8, none⟩))) T (wanted_yes rfl rfl (T.ev 6 rfl) (decide_eq_false h4)) rfl rfl rfl (rn_fieldAddr (off := 0) rfl (T.ev 0 rfl) (fun _ _ _ => by kernel_rfl)) ?_; clear T ac; intro ac T
            refine l_q T (wanted_yes rfl rfl (T.ev 7 rfl) (decide_eq_false h4)) rfl rfl rfl (rn_one (Mem.nth M 0 rfl) rfl (T.ev 0 rfl) rfl) ?_; clear T ac; intro ac T
            refine l_q T (wanted_yes rfl rfl (T.ev 8 rfl) (decide_eq_false h4)) rfl rfl rfl (rn_sub rfl (T.ev 4 rfl) (T.ev 0 rfl) (by omega)) ?_; clear T ac; intro ac T
            refine l_q T (wanted_yes rfl rfl (T.ev 9 rfl) (decide_eq_false h4)) rfl rfl rfl (rn_gtr rfl (T.ev 0 rfl) evc) ?_; clear T ac; intro ac T
            refine l_q T (wanted_yes rfl rfl (T.ev 33 rfl) (decide_eq_true h2)) rfl rfl rfl (rn_pick0 rfl (T.ev 10 rfl) (decide_eq_false h4) (T.ev 0 rfl)) ?_; clear T ac; intro ac T
            refine l_q T (wanted_yes rfl rfl (T.ev 34 rfl) (decide_eq_true h2)) rfl rfl rfl (rn_move rfl (T.ev 0 rfl)) ?_; clear T ac; intro ac T
            rcases Bool.eq_false_or_eq_true (decide (3 < (j.d1 - j.d0))) with h5 | h5
            · replace h5 := of_decide_eq_true h5
              refine l_pass T (wanted_no rfl rfl (T.ev 0 rfl) (decide_eq_true h5)) rfl rfl rfl ?_; clear T ac; intro ac T
              refine l_pass T (wanted_no rfl rfl (T.ev 1 rfl) (decide_eq_true h5)) rfl rfl rfl ?_; clear T ac; intro ac T
              refine l_pass T (wanted_no rfl rfl (T.ev 2 rfl) (decide_eq_true h5)) rfl rfl rfl ?_; clear T ac; intro ac T
              refine l_q T (wanted_yes rfl rfl (T.ev 38 rfl) (decide_eq_true h2)) rfl rfl rfl (rn_pick1 rfl (T.ev 3 rfl) (decide_eq_true h5) evc) ?_; clear T ac; intro ac T
              refine l_q T rfl rfl rfl rfl (rn_pick1 rfl (T.ev 39 rfl) (decide_eq_true h2) (T.ev 0 rfl)) ?_; clear T ac; intro ac T
              refine l_q T rfl rfl rfl rfl (rn_assign rfl (T.ev 0 rfl)) ?_; clear T ac; intro ac T
              refine wpList_nil ?_
              replace T := T.pick [0] rfl
              replace M := M.mask [false] rfl
              exact ⟨(T.pick (E' := [(2, .bool true)]) [0] rfl).as (by (try rw [show (decide ((checkJ j) = 0)) = true from (decide_eq_true h2)]); (try rw [show (decide (8 < (j.p1 - j.p0))) = false from (decide_eq_false h3)]); (try rw [show (decide (3 < (j.u1 - j.u0))) = false from (decide_eq_false h4)]); (try rw [show (decide (3 < (j.d1 - j.d0))) = true from (decide_eq_true h5)]); rfl), M.mask [] rfl⟩
            · replace h5 := of_decide_eq_false h5
              refine l_q (v := (.pointer (some ⟨g1, 17, none⟩))) T (wanted_yes rfl rfl (T.ev 0 rfl) (decide_eq_false h5)) rfl rfl rfl (rn_fieldAddr (off := 17) rfl (T.ev 40 rfl) (fun _ _ _ => by kernel_rfl)) ?_; clear T ac; intro ac T
              refine l_q T (wanted_yes rfl rfl (T.ev 1 rfl) (decide_eq_false h5)) rfl rfl rfl (rn_one (Mem.nth M 0 rfl) rfl (T.ev 0 rfl) rfl) ?_; clear T ac; intro ac T
              refine l_q T (wanted_yes rfl rfl (T.ev 2 rfl) (decide_eq_false h5)) rfl rfl rfl (rn_gtr rfl (T.ev 0 rfl) evc) ?_; clear T ac; intro ac T
              refine l_q T (wanted_yes rfl rfl (T.ev 38 rfl) (decide_eq_true h2)) rfl rfl rfl (rn_pick0 rfl (T.ev 3 rfl) (decide_eq_false h5) (T.ev 0 rfl)) ?_; clear T ac; intro ac T
              refine l_q T rfl rfl rfl rfl (rn_pick1 rfl (T.ev 39 rfl) (decide_eq_true h2) (T.ev 0 rfl)) ?_; clear T ac; intro ac T
              refine l_q T rfl rfl rfl rfl (rn_assign rfl (T.ev 0 rfl)) ?_; clear T ac; intro ac T
              refine wpList_nil ?_
              replace T := T.pick [0] rfl
              replace M := M.mask [false] rfl
              exact ⟨(T.pick (E' := [(2, .bool (decide (3 < j.me)))]) [0] rfl).as (by (try rw [show (decide ((checkJ j) = 0)) = true from (decide_eq_true h2)]); (try rw [show (decide (8 < (j.p1 - j.p0))) = false from (decide_eq_false h3)]); (try rw [show (decide (3 < (j.u1 - j.u0))) = false from (decide_eq_false h4)]); (try rw [show (decide (3 < (j.d1 - j.d0))) = false from (decide_eq_false h5)]); rfl), M.mask [] rfl⟩
      · replace h2 := of_decide_eq_false h2
        refine l_pass T (wanted_no rfl rfl (T.ev 0 rfl) (decide_eq_false h2)) rfl rfl rfl ?_; clear T ac; intro ac T
        refine l_pass T (wanted_no rfl rfl (T.ev 1 rfl) (decide_eq_false h2)) rfl rfl rfl ?_; clear T ac; intro ac T
        refine l_pass T (wanted_no rfl rfl (T.ev 2 rfl) (decide_eq_false h2)) rfl rfl rfl ?_; clear T ac; intro ac T
        refine l_pass T (wanted_no rfl rfl (T.ev 3 rfl) (decide_eq_false h2)) rfl rfl rfl ?_; clear T ac; intro ac T
        refine l_pass T (wanted_no rfl rfl (T.ev 4 rfl) (decide_eq_false h2)) rfl rfl rfl ?_; clear T ac; intro ac T
        refine l_pass T (wanted_no rfl rfl (T.ev 5 rfl) (decide_eq_false h2)) rfl rfl rfl ?_; clear T ac; intro ac T
        refine l_pass T (wanted_no rfl rfl (T.ev 6 rfl) (decide_eq_false h2)) rfl rfl rfl ?_; clear T ac; intro ac T
        refine l_pass T (wanted_no rfl rfl (T.ev 7 rfl) (decide_eq_false h2)) rfl rfl rfl ?_; clear T ac; intro ac T
        refine l_pass T (wanted_no rfl rfl (T.ev 8 rfl) (decide_eq_false h2)) rfl rfl rfl ?_; clear T ac; intro ac T
        refine l_pass T (wanted_no rfl rfl (T.ev 9 rfl) (decide_eq_false h2)) rfl rfl rfl ?_; clear T ac; intro ac T
        refine l_pass T (wanted_no rfl rfl (T.ev 10 rfl) (decide_eq_false h2)) rfl rfl rfl ?_; clear T ac; intro ac T
        refine l_pass T (wanted_un rfl rfl (T.ev 0 rfl)) rfl rfl rfl ?_; clear T ac; intro ac T
        refine l_pass T (wanted_un rfl rfl (T.ev 1 rfl)) rfl rfl rfl ?_; clear T ac; intro ac T
        refine l_pass T (wanted_un rfl rfl (T.ev 2 rfl)) rfl rfl rfl ?_; clear T ac; intro ac T
        refine l_pass T (wanted_un rfl rfl (T.ev 3 rfl)) rfl rfl rfl ?_; clear T ac; intro ac T
        refine l_pass T (wanted_un rfl rfl (T.ev 4 rfl)) rfl rfl rfl ?_; clear T ac; intro ac T
        refine l_pass T (wanted_un rfl rfl (T.ev 5 rfl)) rfl rfl rfl ?_; clear T ac; intro ac T
        refine l_pass T (wanted_un rfl rfl (T.ev 6 rfl)) rfl rfl rfl ?_; clear T ac; intro ac T
        refine l_pass T (wanted_un rfl rfl (T.ev 7 rfl)) rfl rfl rfl ?_; clear T ac; intro ac T
        refine l_pass T (wanted_un rfl rfl (T.ev 8 rfl)) rfl rfl rfl ?_; clear T ac; intro ac T
        refine l_pass T (wanted_un rfl rfl (T.ev 9 rfl)) rfl rfl rfl ?_; clear T ac; intro ac T
        refine l_pass T (wanted_no rfl rfl (T.ev 21 rfl) (decide_eq_false h2)) rfl rfl rfl ?_; clear T ac; intro ac T
        refine l_pass T (wanted_no rfl rfl (T.ev 22 rfl) (decide_eq_false h2)) rfl rfl rfl ?_; clear T ac; intro ac T
        refine l_pass T (wanted_un rfl rfl (T.ev 0 rfl)) rfl rfl rfl ?_; clear T ac; intro ac T
        refine l_pass T (wanted_un rfl rfl (T.ev 1 rfl)) rfl rfl rfl ?_; clear T ac; intro ac T
        refine l_pass T (wanted_un rfl rfl (T.ev 2 rfl)) rfl rfl rfl ?_; clear T ac; intro ac T
        refine l_pass T (wanted_un rfl rfl (T.ev 3 rfl)) rfl rfl rfl ?_; clear T ac; intro ac T
        refine l_pass T (wanted_un rfl rfl (T.ev 4 rfl)) rfl rfl rfl ?_; clear T ac; intro ac T
        refine l_pass T (wanted_un rfl rfl (T.ev 5 rfl)) rfl rfl rfl ?_; clear T ac; intro ac T
        refine l_pass T (wanted_un rfl rfl (T.ev 6 rfl)) rfl rfl rfl ?_; clear T ac; intro ac T
        refine l_pass T (wanted_un rfl rfl (T.ev 7 rfl)) rfl rfl rfl ?_; clear T ac; intro ac T
        refine l_pass T (wanted_un rfl rfl (T.ev 8 rfl)) rfl rfl rfl ?_; clear T ac; intro ac T
        refine l_pass T (wanted_un rfl rfl (T.ev 9 rfl)) rfl rfl rfl ?_; clear T ac; intro ac T
        refine l_pass T (wanted_no rfl rfl (T.ev 33 rfl) (decide_eq_false h2)) rfl rfl rfl ?_; clear T ac; intro ac T
        refine l_pass T (wanted_no rfl rfl (T.ev 34 rfl) (decide_eq_false h2)) rfl rfl rfl ?_; clear T ac; intro ac T
        refine l_pass T (wanted_un rfl rfl (T.ev 0 rfl)) rfl rfl rfl ?_; clear T ac; intro ac T
        refine l_pass T (wanted_un rfl rfl (T.ev 1 rfl)) rfl rfl rfl ?_; clear T ac; intro ac T
        refine l_pass T (wanted_un rfl rfl (T.ev 2 rfl)) rfl rfl rfl ?_; clear T ac; intro ac T
        refine l_pass T (wanted_no rfl rfl (T.ev 38 rfl) (decide_eq_false h2)) rfl rfl rfl ?_; clear T ac; intro ac T
        refine l_q T rfl rfl rfl rfl (rn_pick0 rfl (T.ev 39 rfl) (decide_eq_false h2) evc) ?_; clear T ac; intro ac T
        refine l_q T rfl rfl rfl rfl (rn_assign rfl (T.ev 0 rfl)) ?_; clear T ac; intro ac T
        refine wpList_nil ?_
        replace T := T.pick [0] rfl
        replace M := M.mask [false] rfl
        exact ⟨(T.pick (E' := [(2, .bool false)]) [0] rfl).as (by (try rw [show (decide ((checkJ j) = 0)) = false from (decide_eq_false h2)]); rfl), M.mask [] rfl⟩
    · clear T M
      rintro ac wc ⟨T, M⟩
      refine wp_ret ?_
      refine rt_1 T rfl (T.ev 0 rfl) ?_
      exact ⟨_, rfl, fun h9 => by first | omega | (simp at h9; done), M.below⟩

set_option maxRecDepth 100000 in
set_option maxHeartbeats 1000000 in
theorem ReedGames_any (j : Jb) (A : Option Addr) (c : Nat) (D : Option Addr) (d n : Nat) (l : List Int) (w : World) (hr : Rd w w.heap.size 2 A j.sh.length (rc j.sh)) (hn : j.sh.length ≤ 9223372036854775807) (hl : Rd w w.heap.size 1 D n (ic l)) (hm : n ≤ 9223372036854775807) :
    Calls Try.prog 4 #[jobV j A c, .slice D n d] w fun e w' => e = .returned (.bool true) ∧ Below w.heap.size w w' := by
  obtain ⟨bJ, oJ, SJ⟩ := Sp.old hr
  have hll := hl.len1
  obtain ⟨bI, oI, SI⟩ := Sp.old hl
  refine px_enter noEx Try.func4 rfl 102 rfl [.agg #[.int .i64 j.p0, .int .i64 j.p1, .int .i64 j.t0, .int .i64 j.t1, .int .i64 j.r0, .int .i64 j.r1, .int .i64 j.u0, .int .i64 j.u1, .int .i64 j.d0, .int .i64 j.d1, .int .i64 j.a0, .int .i64 j.a1, .int .i64 j.b0, .int .i64 j.b1, .int .i64 j.le, .slice A j.sh.length c, .int .i64 j.wi, .int .i64 j.me], .slice D n d] rfl rfl (Mem.init w _) ?_
  intro ac wc T M
  refine wp_seq ?_
  refine wp_region_lit ?_
  refine l_w rfl ?_; intro K hK
  refine ow_bx M T rfl rfl rfl rfl (T.ev 0 rfl) rfl ?_; clear M T; intro g1 wc ac M T
  refine sh_out hK _ _ ?_; clear hK K
  refine l_q T rfl rfl rfl rfl (rn_assign rfl evc) ?_; clear T ac; intro ac T
  refine wpList_nil ?_
  replace T := T.pick [1, 3] rfl
  refine nm_then ?_
  refine wp_seq ?_
  refine wp_seq ?_
  refine wp_region_lit ?_
  refine l_q (v := (.agg #[.int .i64 j.p0, .int .i64 j.p1, .int .i64 j.t0, .int .i64 j.t1, .int .i64 j.r0, .int .i64 j.r1, .int .i64 j.u0, .int .i64 j.u1, .int .i64 j.d0, .int .i64 j.d1, .int .i64 j.a0, .int .i64 j.a1, .int .i64 j.b0, .int .i64 j.b1, .int .i64 j.le, .slice A j.sh.length c, .int .i64 j.wi, .int .i64 j.me])) T rfl rfl rfl rfl (rn_row (Mem.nth M 0 rfl) rfl (T.ev 0 rfl) rfl rfl) ?_; clear T ac; intro ac T
  refine l_w rfl ?_; intro K hK
  refine ow_call (first := []) (cap := []) T rfl rfl rfl rfl evf (.cons (T.ev 0 rfl) .nil) Try.func23 rfl rfl ?_
  refine Calls.mono (slow_any j _ _ _ (SJ.rd M (List.nil_sublist _)) (by omega)) ?_
  clear T
  rintro e wc ⟨bu1, rfl, hslu1, hb⟩
  intro ac T
  replace M := M.call hb; clear hb
  refine sh_out hK _ _ ?_; clear hK K
  refine wpList_nil ?_
  replace T := T.pick [0, 2, 3] rfl
  refine nm_then ?_
  refine wp_cond_split (T.ev 0 rfl) ?_ ?_
  · intro h1
    refine wp_seq ?_
    refine wp_region_lit ?_
    refine l_w rfl ?_; intro K hK
    refine ow_call (first := []) (cap := []) T rfl rfl rfl rfl evf .nil Try.func15 rfl rfl ?_
    refine Calls.mono (tuned_any _) ?_
    clear T
    rintro e wc ⟨rfl, hb⟩
    intro ac T
    replace M := M.call hb; clear hb
    refine sh_out hK _ _ ?_; clear hK K
    refine l_q T rfl rfl rfl rfl (rn_assign rfl (T.ev 0 rfl)) ?_; clear T ac; intro ac T
    refine wpList_nil ?_
    replace T := T.pick [0] rfl
    replace M := M.mask [false] rfl
    refine nm_then ?_
    refine wp_ret ?_
    refine rt_then ?_
    refine rt_1 T rfl (T.ev 0 rfl) ?_
    exact ⟨rfl, M.below⟩
  · intro h1
    have h20 := hslu1 h1
    refine wp_skip ?_
    refine nm_then ?_
    refine wp_seq ?_
    refine wp_region_lit ?_
    refine l_q T rfl rfl rfl rfl (rn_move rfl (T.ev 2 rfl)) ?_; clear T ac; intro ac T
    refine l_w rfl ?_; intro K hK
    refine ow_call (first := []) (cap := []) T rfl rfl rfl rfl evf (.cons (T.ev 0 rfl) .nil) Try.func16 rfl rfl ?_
    refine Calls.mono (newPot_any _ _ _ l _ (SI.rd M (List.nil_sublist _)) (by omega)) ?_
    clear T
    rintro e wc ⟨bpu3, su3, hsu3, rfl, N⟩
    intro ac T
    replace M := M.join N; clear N
    replace M := M.mask [true, true] rfl
    refine sh_out hK _ _ ?_; clear hK K
    refine l_q T rfl rfl rfl rfl (rn_assign rfl (T.ev 0 rfl)) ?_; clear T ac; intro ac T
    refine wpList_nil ?_
    replace T := T.pick [0, 4] rfl
    refine nm_then ?_
    refine wp_seq ?_
    refine g_start2 M (M.perm [1] rfl rfl) 7 (by kernel_rfl) rfl (by kernel_rfl) ?_
    clear M; intro wc M
    refine g_addG 2 M ?_
    refine g_q (v := (.agg #[.int .i64 j.p0, .int .i64 j.p1, .int .i64 j.t0, .int .i64 j.t1, .int .i64 j.r0, .int .i64 j.r1, .int .i64 j.u0, .int .i64 j.u1, .int .i64 j.d0, .int .i64 j.d1, .int .i64 j.a0, .int .i64 j.a1, .int .i64 j.b0, .int .i64 j.b1, .int .i64 j.le, .slice A j.sh.length c, .int .i64 j.wi, .int .i64 j.me])) (T := T) (i := 0) rfl (by kernel_rfl) (by kernel_rfl : (pbits 7 0).setIfInBounds 0 true = pbits 7 1) (si_and (si_G rfl) si_U) (fun _ _ _ h => h) rfl rfl rfl rfl (fun B w' hD hl hS => (rn_row (Mem.nth (show Mem w noEx w' _ from (MA.rgt hS)) 0 rfl) rfl (T.ev 1 rfl) rfl rfl)) ?_; clear T ac; intro ac T
    refine g_q (T := T) (i := 1) rfl (by kernel_rfl) (by kernel_rfl : (pbits 7 1).setIfInBounds 1 true = pbits 7 3) (si_and (si_G rfl) si_U) (fun _ _ _ h => h) rfl rfl rfl rfl (fun _ _ _ _ _ => (rn_move rfl (T.ev 1 rfl))) ?_; clear T ac; intro ac T
    refine g_q (T := T) (i := 3) rfl (by kernel_rfl) (by kernel_rfl : (pbits 7 3).setIfInBounds 3 true = pbits 7 11) (si_and (si_G rfl) si_U) (fun _ _ _ h => h) rfl rfl rfl rfl (fun _ _ _ _ _ => (rn_move rfl (T.ev 2 rfl))) ?_; clear T ac; intro ac T
    refine g_w (i := 2) (by kernel_rfl) rfl (by kernel_rfl : (pbits 7 11).setIfInBounds 2 true = pbits 7 15) rfl ?_; intro K hK
    refine ow_call (first := []) (cap := []) T rfl rfl rfl rfl evf (.cons (T.ev 1 rfl) (.cons evc (.cons evc .nil))) Try.func17 rfl rfl ?_
    refine Calls.mono (jobOf_any _ bpu3 3 1 _ (by omega) (by omega) (by omega) (by omega) (M.nth 0 rfl) hsu3) ?_
    clear T
    rintro e wc ⟨ju4, Au4, cu4, su4, Iu4, rfl, hmu4, hsu4, hslu4, N⟩
    intro ac T
    obtain ⟨bu4, ou4, Su4⟩ := hslu4.sp (w := w) (ex := noEx) (rc_length _)
    replace M := (M.joinW .head N).swapI
    replace M := M.mask [true, true] rfl
    clear N hslu4
    have hgu4 := hmu4.good
    have hfewu4 := hgu4.few
    refine sh_out hK _ _ (MA.mk (fun h => (no_of (by kernel_rfl) h).elim) (M.perm [1] rfl rfl)) ?_; clear hK K
    refine g_w (i := 4) (by kernel_rfl) rfl (by kernel_rfl : (pbits 7 15).setIfInBounds 4 true = pbits 7 31) rfl ?_; intro K hK
    refine ow_call (first := []) (cap := []) T rfl rfl rfl rfl evf (.cons (T.ev 1 rfl) (.cons evc (.cons evc .nil))) Try.func17 rfl rfl ?_
    refine Calls.mono (jobOf_any _ bpu3 4 2 _ (by omega) (by omega) (by omega) (by omega) (M.nth 0 rfl) hsu4) ?_
    clear T
    rintro e wc ⟨ju5, Au5, cu5, su5, Iu5, rfl, hmu5, hsu5, hslu5, N⟩
    intro ac T
    obtain ⟨bu5, ou5, Su5⟩ := hslu5.sp (w := w) (ex := noEx) (rc_length _)
    replace M := (M.joinW .head N).swapI
    replace M := M.mask [true, true] rfl
    clear N hslu5
    have hgu5 := hmu5.good
    have hfewu5 := hgu5.few
    refine sh_out hK _ _ (MA.mk (fun h => (no_of (by kernel_rfl) h).elim) (M.perm [1] rfl rfl)) ?_; clear hK K
    refine g_w (i := 5) (by kernel_rfl) rfl (by kernel_rfl : (pbits 7 31).setIfInBounds 5 true = pbits 7 63) rfl ?_; intro K hK
    refine ow_bs (e := 30) [.int .i64 j.p0, .int .i64 j.p1, .int .i64 j.t0, .int .i64 j.t1, .int .i64 j.r0, .int .i64 j.r1, .int .i64 j.u0, .int .i64 j.u1, .int .i64 j.d0, .int .i64 j.d1, .int .i64 j.a0, .int .i64 j.a1, .int .i64 j.b0, .int .i64 j.b1, .int .i64 j.le, .slice A j.sh.length c, .int .i64 j.wi, .int .i64 j.me, .int .i64 ju4.p0, .int .i64 ju4.p1, .int .i64 ju4.t0, .int .i64 ju4.t1, .int .i64 ju4.r0, .int .i64 ju4.r1, .int .i64 ju4.u0, .int .i64 ju4.u1, .int .i64 ju4.d0, .int .i64 ju4.d1, .int .i64 ju4.a0, .int .i64 ju4.a1, .int .i64 ju4.b0, .int .i64 ju4.b1, .int .i64 ju4.le, .slice Au4 ju4.sh.length cu4, .int .i64 ju4.wi, .int .i64 ju4.me, .int .i64 ju5.p0, .int .i64 ju5.p1, .int .i64 ju5.t0, .int .i64 ju5.t1, .int .i64 ju5.r0, .int .i64 ju5.r1, .int .i64 ju5.u0, .int .i64 ju5.u1, .int .i64 ju5.d0, .int .i64 ju5.d1, .int .i64 ju5.a0, .int .i64 ju5.a1, .int .i64 ju5.b0, .int .i64 ju5.b1, .int .i64 ju5.le, .slice Au5 ju5.sh.length cu5, .int .i64 ju5.wi, .int .i64 ju5.me] M T rfl rfl rfl rfl (.cons (T.ev 4 rfl) (.cons (T.ev 1 rfl) (.cons (T.ev 0 rfl) .nil))) (fun _ => by kernel_rfl) ?_; clear M T; intro g2 wc ac M T
    refine sh_out hK _ _ (MA.mk (fun h => (no_of (by kernel_rfl) h).elim) (M.perm [2] rfl rfl)) ?_; clear hK K
    refine g_q (T := T) (i := 6) rfl (by kernel_rfl) (by kernel_rfl : (pbits 7 63).setIfInBounds 6 true = pbits 7 127) (si_and (si_G rfl) si_U) (fun _ _ _ h => h) rfl rfl rfl rfl (fun _ _ _ _ _ => (rn_assign rfl (T.ev 0 rfl))) ?_; clear T ac; intro ac T
    refine g_done (by kernel_rfl) ?_
    replace T := T.pick [0] rfl
    replace M := M.mask [true, false, false] rfl
    refine nm_then ?_
    refine wp_seq ?_
    refine wp_seq ?_
    refine wp_region_lit ?_
    refine l_q T rfl rfl rfl rfl (rn_assign rfl evc) ?_; clear T ac; intro ac T
    refine wpList_nil ?_
    refine nm_then ?_
    refine wp_block ?_
    refine wp_loop_rounds 4 ?_
    refine rounds_S ?_
    refine wp_seq ?_
    refine wp_seq ?_
    refine wp_region_lit ?_
    refine l_q T rfl rfl rfl rfl (rn_move rfl (T.ev 0 rfl)) ?_; clear T ac; intro ac T
    refine l_q T rfl rfl rfl rfl (rn_move rfl (T.ev 2 rfl)) ?_; clear T ac; intro ac T
    refine l_q (v := (.int .i64 3)) T rfl rfl rfl rfl (rn_lenS rfl Try.underlying36 (T.ev 0 rfl)) ?_; clear T ac; intro ac T
    refine l_q (v := (.bool true)) T rfl rfl rfl rfl (rn_neqof (rn_lss rfl (T.ev 2 rfl) (T.ev 0 rfl)) (by simp)) ?_; clear T ac; intro ac T
    refine wpList_nil ?_
    replace T := T.pick [0, 4, 5] rfl
    refine nm_then ?_
    refine wp_cond_true (T.ev 0 rfl) ?_
    refine wp_skip ?_
    refine nm_then ?_
    refine wp_seq ?_
    refine wp_block ?_
    refine wp_seq ?_
    refine wp_region_lit ?_
    refine l_q T rfl rfl rfl rfl (rn_move rfl (T.ev 2 rfl)) ?_; clear T ac; intro ac T
    refine l_q T rfl rfl rfl rfl (rn_move rfl (T.ev 2 rfl)) ?_; clear T ac; intro ac T
    refine l_q (v := (.pointer (some ⟨g2, 0, none⟩))) T rfl rfl rfl rfl (rn_indexAddr (size := 18) 0 rfl (T.ev 1 rfl) (T.ev 0 rfl) ⟨_, Try.underlying36, by kernel_rfl⟩ rfl (by decide) rfl) ?_; clear T ac; intro ac T
    refine l_q (v := (.agg #[.int .i64 j.p0, .int .i64 j.p1, .int .i64 j.t0, .int .i64 j.t1, .int .i64 j.r0, .int .i64 j.r1, .int .i64 j.u0, .int .i64 j.u1, .int .i64 j.d0, .int .i64 j.d1, .int .i64 j.a0, .int .i64 j.a1, .int .i64 j.b0, .int .i64 j.b1, .int .i64 j.le, .slice A j.sh.length c, .int .i64 j.wi, .int .i64 j.me])) T rfl rfl rfl rfl (rn_row (Mem.nth M 0 rfl) rfl (T.ev 0 rfl) rfl rfl) ?_; clear T ac; intro ac T
    refine l_w rfl ?_; intro K hK
    refine ow_call (first := []) (cap := []) T rfl rfl rfl rfl evf (.cons (T.ev 0 rfl) .nil) Try.func18 rfl rfl ?_
    refine Calls.mono (copyJob_any j _ _ _ (SJ.rd M (List.nil_sublist _)) (by first | omega | (dsimp only [Jb.one]; omega))) ?_
    clear T
    rintro e wc ⟨Au6, cu6, Iu6, rfl, hsnu6, N⟩
    intro ac T
    obtain ⟨bu6, ou6, Su6⟩ := hsnu6.sp (w := w) (ex := noEx) (rc_length _)
    replace M := (M.join N).swapI
    replace M := M.mask [true] rfl
    clear N hsnu6
    refine sh_out hK _ _ ?_; clear hK K
    refine l_w rfl ?_; intro K hK
    refine ow_al M T rfl rfl rfl rfl ?_; clear M T; intro g3 wc ac M T
    refine sh_out hK _ _ ?_; clear hK K
    refine l_w rfl ?_; intro K hK
    refine ow_st [.int .i64 j.p0, .int .i64 j.p1, .int .i64 j.t0, .int .i64 j.t1, .int .i64 j.r0, .int .i64 j.r1, .int .i64 j.u0, .int .i64 j.u1, .int .i64 j.d0, .int .i64 j.d1, .int .i64 j.a0, .int .i64 j.a1, .int .i64 j.b0, .int .i64 j.b1, .int .i64 j.le, .slice Au6 j.sh.length cu6, .int .i64 j.wi, .int .i64 j.me] M T rfl rfl (T.ev 0 rfl) (T.ev 1 rfl) rfl .head rfl rfl rfl (by kernel_rfl) ?_; clear M T; intro wc ac M T
    refine sh_out hK _ _ ?_; clear hK K
    refine wpList_nil ?_
    replace T := T.pick [0, 7, 8] rfl
    refine nm_then ?_
    refine wp_seq ?_
    refine wp_region_lit ?_
    refine l_q (v := (.agg #[.int .i64 j.p0, .int .i64 j.p1, .int .i64 j.t0, .int .i64 j.t1, .int .i64 j.r0, .int .i64 j.r1, .int .i64 j.u0, .int .i64 j.u1, .int .i64 j.d0, .int .i64 j.d1, .int .i64 j.a0, .int .i64 j.a1, .int .i64 j.b0, .int .i64 j.b1, .int .i64 j.le, .slice Au6 j.sh.length cu6, .int .i64 j.wi, .int .i64 j.me])) T rfl rfl rfl rfl (rn_row (Mem.nth M 0 rfl) rfl (T.ev 0 rfl) rfl rfl) ?_; clear T ac; intro ac T
    refine l_w rfl ?_; intro K hK
    refine ow_call (first := []) (cap := []) T rfl rfl rfl rfl evf (.cons (T.ev 0 rfl) .nil) Try.func24 rfl rfl ?_
    refine Calls.mono (Guided_any j _ _ _ (Su6.rd M (.cons _ (.cons _ (List.sublist_append_right _ _)))) (by first | omega | (dsimp only [Jb.one]; omega))) ?_
    clear T
    rintro e wc ⟨rfl, hb⟩
    intro ac T
    replace M := M.call hb; clear hb
    refine sh_out hK _ _ ?_; clear hK K
    refine l_q T rfl rfl rfl rfl (rn_move rfl (T.ev 0 rfl)) ?_; clear T ac; intro ac T
    refine l_q T rfl rfl rfl rfl (rn_extract rfl (T.ev 0 rfl) rfl) ?_; clear T ac; intro ac T
    refine l_q T rfl rfl rfl rfl (rn_extract rfl (T.ev 1 rfl) rfl) ?_; clear T ac; intro ac T
    refine l_q T rfl rfl rfl rfl (rn_assign rfl (T.ev 1 rfl)) ?_; clear T ac; intro ac T
    refine l_q T rfl rfl rfl rfl (rn_assign rfl (T.ev 1 rfl)) ?_; clear T ac; intro ac T
    refine wpList_nil ?_
    replace T := T.pick [0, 1, 7, 8, 9] rfl
    refine nm_then ?_
    refine wp_seq ?_
    refine wp_region_lit ?_
    refine l_q T rfl rfl rfl rfl (rn_move rfl (T.ev 4 rfl)) ?_; clear T ac; intro ac T
    refine l_q T rfl rfl rfl rfl (rn_move rfl (T.ev 4 rfl)) ?_; clear T ac; intro ac T
    refine l_q (v := (.pointer (some ⟨g2, 0, none⟩))) T rfl rfl rfl rfl (rn_indexAddr (size := 18) 0 rfl (T.ev 1 rfl) (T.ev 0 rfl) ⟨_, Try.underlying36, by kernel_rfl⟩ rfl (by decide) rfl) ?_; clear T ac; intro ac T
    refine l_q (v := (.agg #[.int .i64 j.p0, .int .i64 j.p1, .int .i64 j.t0, .int .i64 j.t1, .int .i64 j.r0, .int .i64 j.r1, .int .i64 j.u0, .int .i64 j.u1, .int .i64 j.d0, .int .i64 j.d1, .int .i64 j.a0, .int .i64 j.a1, .int .i64 j.b0, .int .i64 j.b1, .int .i64 j.le, .slice A j.sh.length c, .int .i64 j.wi, .int .i64 j.me])) T rfl rfl rfl rfl (rn_row (Mem.nth M 1 rfl) rfl (T.ev 0 rfl) rfl rfl) ?_; clear T ac; intro ac T
    refine l_w rfl ?_; intro K hK
    refine ow_call (first := []) (cap := []) T rfl rfl rfl rfl evf (.cons (T.ev 0 rfl) .nil) Try.func25 rfl rfl ?_
    refine Calls.mono (rGuided_any j _ _ _ (SJ.rd M (List.nil_sublist _)) (by omega)) ?_
    clear T
    rintro e wc ⟨rfl, hb⟩
    intro ac T
    replace M := M.call hb; clear hb
    refine sh_out hK _ _ ?_; clear hK K
    refine l_q T rfl rfl rfl rfl (rn_move rfl (T.ev 0 rfl)) ?_; clear T ac; intro ac T
    refine l_q T rfl rfl rfl rfl (rn_extract rfl (T.ev 0 rfl) rfl) ?_; clear T ac; intro ac T
    refine l_q T rfl rfl rfl rfl (rn_extract rfl (T.ev 1 rfl) rfl) ?_; clear T ac; intro ac T
    refine l_q T rfl rfl rfl rfl (rn_assign rfl (T.ev 1 rfl)) ?_; clear T ac; intro ac T
    refine l_q T rfl rfl rfl rfl (rn_assign rfl (T.ev 1 rfl)) ?_; clear T ac; intro ac T
    refine wpList_nil ?_
    replace T := T.pick [0, 1, 10, 11, 12, 13, 14] rfl
    refine nm_then ?_
    refine wp_seq ?_
    refine wp_region_lit ?_
    refine l_q (v := (.agg #[.int .i64 j.p0, .int .i64 j.p1, .int .i64 j.t0, .int .i64 j.t1, .int .i64 j.r0, .int .i64 j.r1, .int .i64 j.u0, .int .i64 j.u1, .int .i64 j.d0, .int .i64 j.d1, .int .i64 j.a0, .int .i64 j.a1, .int .i64 j.b0, .int .i64 j.b1, .int .i64 j.le, .slice Au6 j.sh.length cu6, .int .i64 j.wi, .int .i64 j.me])) T rfl rfl rfl rfl (rn_row (Mem.nth M 0 rfl) rfl (T.ev 4 rfl) rfl rfl) ?_; clear T ac; intro ac T
    refine l_w rfl ?_; intro K hK
    refine ow_call (first := []) (cap := []) T rfl rfl rfl rfl evf (.cons (T.ev 0 rfl) .nil) Try.func26 rfl rfl ?_
    refine Calls.mono (Next_any j _ _ _ (Su6.rd M (.cons _ (.cons _ (List.sublist_append_right _ _)))) (by first | omega | (dsimp only [Jb.one]; omega))) ?_
    clear T
    rintro e wc ⟨rfl, hb⟩
    intro ac T
    replace M := M.call hb; clear hb
    refine sh_out hK _ _ ?_; clear hK K
    refine l_q T rfl rfl rfl rfl (rn_move rfl (T.ev 0 rfl)) ?_; clear T ac; intro ac T
    refine l_q T rfl rfl rfl rfl (rn_extract rfl (T.ev 0 rfl) rfl) ?_; clear T ac; intro ac T
    refine l_q T rfl rfl rfl rfl (rn_extract rfl (T.ev 1 rfl) rfl) ?_; clear T ac; intro ac T
    refine l_q T rfl rfl rfl rfl (rn_extract rfl (T.ev 2 rfl) rfl) ?_; clear T ac; intro ac T
    refine l_q T rfl rfl rfl rfl (rn_assign rfl (T.ev 2 rfl)) ?_; clear T ac; intro ac T
    refine l_q T rfl rfl rfl rfl (rn_assign rfl (T.ev 2 rfl)) ?_; clear T ac; intro ac T
    refine l_q T rfl rfl rfl rfl (rn_assign rfl (T.ev 2 rfl)) ?_; clear T ac; intro ac T
    refine wpList_nil ?_
    replace T := T.pick [0, 1, 2, 9, 10, 11, 12, 13, 14, 15] rfl
    refine nm_then ?_
    refine wp_seq ?_
    refine wp_region_lit ?_
    refine l_q T rfl rfl rfl rfl (rn_move rfl (T.ev 9 rfl)) ?_; clear T ac; intro ac T
    refine l_q T rfl rfl rfl rfl (rn_move rfl (T.ev 9 rfl)) ?_; clear T ac; intro ac T
    refine l_q (v := (.pointer (some ⟨g2, 0, none⟩))) T rfl rfl rfl rfl (rn_indexAddr (size := 18) 0 rfl (T.ev 1 rfl) (T.ev 0 rfl) ⟨_, Try.underlying36, by kernel_rfl⟩ rfl (by decide) rfl) ?_; clear T ac; intro ac T
    refine l_q (v := (.agg #[.int .i64 j.p0, .int .i64 j.p1, .int .i64 j.t0, .int .i64 j.t1, .int .i64 j.r0, .int .i64 j.r1, .int .i64 j.u0, .int .i64 j.u1, .int .i64 j.d0, .int .i64 j.d1, .int .i64 j.a0, .int .i64 j.a1, .int .i64 j.b0, .int .i64 j.b1, .int .i64 j.le, .slice A j.sh.length c, .int .i64 j.wi, .int .i64 j.me])) T rfl rfl rfl rfl (rn_row (Mem.nth M 1 rfl) rfl (T.ev 0 rfl) rfl rfl) ?_; clear T ac; intro ac T
    refine l_w rfl ?_; intro K hK
    refine ow_call (first := []) (cap := []) T rfl rfl rfl rfl evf (.cons (T.ev 0 rfl) .nil) Try.func27 rfl rfl ?_
    refine Calls.mono (rNext_any j _ _ _ (SJ.rd M (List.nil_sublist _)) (by omega)) ?_
    clear T
    rintro e wc ⟨rfl, hb⟩
    intro ac T
    replace M := M.call hb; clear hb
    refine sh_out hK _ _ ?_; clear hK K
    refine l_q T rfl rfl rfl rfl (rn_move rfl (T.ev 0 rfl)) ?_; clear T ac; intro ac T
    refine l_q T rfl rfl rfl rfl (rn_extract rfl (T.ev 0 rfl) rfl) ?_; clear T ac; intro ac T
    refine l_q T rfl rfl rfl rfl (rn_extract rfl (T.ev 1 rfl) rfl) ?_; clear T ac; intro ac T
    refine l_q T rfl rfl rfl rfl (rn_extract rfl (T.ev 2 rfl) rfl) ?_; clear T ac; intro ac T
    refine l_q T rfl rfl rfl rfl (rn_assign rfl (T.ev 2 rfl)) ?_; clear T ac; intro ac T
    refine l_q T rfl rfl rfl rfl (rn_assign rfl (T.ev 2 rfl)) ?_; clear T ac; intro ac T
    refine l_q T rfl rfl rfl rfl (rn_assign rfl (T.ev 2 rfl)) ?_; clear T ac; intro ac T
    refine wpList_nil ?_
    replace T := T.pick [0, 1, 2, 12, 13, 14, 15, 16, 17, 18, 19, 20, 21] rfl
    refine nm_then ?_
    refine wp_seq ?_
    refine g_start2 M (M.mask [true, true] rfl) 32 (by kernel_rfl) rfl (by kernel_rfl) ?_
    clear M; intro wc M
    refine g_q (T := T) (i := 0) rfl (by kernel_rfl) (by kernel_rfl : (pbits 32 0).setIfInBounds 0 true = pbits 32 1) si_U (fun _ _ _ h => h) rfl rfl rfl rfl (fun _ _ _ _ _ => (rn_move rfl (T.ev 9 rfl))) ?_; clear T ac; intro ac T
    refine g_q (T := T) (i := 1) rfl (by kernel_rfl) (by kernel_rfl : (pbits 32 1).setIfInBounds 1 true = pbits 32 3) si_U (fun _ _ _ h => h) rfl rfl rfl rfl (fun _ _ _ _ _ => (rn_move rfl (T.ev 8 rfl))) ?_; clear T ac; intro ac T
    refine g_q (v := (.bool false)) (T := T) (i := 2) rfl (by kernel_rfl) (by kernel_rfl : (pbits 32 3).setIfInBounds 2 true = pbits 32 7) si_U (fun _ _ _ h => h) rfl rfl rfl rfl (fun _ _ _ _ _ => (rn_neqof (rn_neq rfl (T.ev 1 rfl) (T.ev 0 rfl)) (by simp))) ?_; clear T ac; intro ac T
    refine g_q (T := T) (i := 3) rfl (by kernel_rfl) (by kernel_rfl : (pbits 32 7).setIfInBounds 3 true = pbits 32 15) si_U (fun _ _ _ h => h) rfl rfl rfl rfl (fun _ _ _ _ _ => (rn_move rfl (T.ev 0 rfl))) ?_; clear T ac; intro ac T
    refine g_q (T := T) (i := 4) rfl (by kernel_rfl) (by kernel_rfl : (pbits 32 15).setIfInBounds 4 true = pbits 32 31) si_U (fun _ _ _ h => h) (wanted_yes rfl rfl (T.ev 0 rfl) rfl) rfl rfl rfl (fun _ _ _ _ _ => (rn_move rfl (T.ev 12 rfl))) ?_; clear T ac; intro ac T
    refine g_q (T := T) (i := 5) rfl (by kernel_rfl) (by kernel_rfl : (pbits 32 31).setIfInBounds 5 true = pbits 32 63) si_U (fun _ _ _ h => h) (wanted_yes rfl rfl (T.ev 1 rfl) rfl) rfl rfl rfl (fun _ _ _ _ _ => (rn_move rfl (T.ev 11 rfl))) ?_; clear T ac; intro ac T
    refine g_q (v := (.bool false)) (T := T) (i := 6) rfl (by kernel_rfl) (by kernel_rfl : (pbits 32 63).setIfInBounds 6 true = pbits 32 127) si_U (fun _ _ _ h => h) (wanted_yes rfl rfl (T.ev 2 rfl) rfl) rfl rfl rfl (fun _ _ _ _ _ => (rn_neqof (rn_neq rfl (T.ev 1 rfl) (T.ev 0 rfl)) (by simp))) ?_; clear T ac; intro ac T
    refine g_q (T := T) (i := 7) rfl (by kernel_rfl) (by kernel_rfl : (pbits 32 127).setIfInBounds 7 true = pbits 32 255) si_U (fun _ _ _ h => h) rfl rfl rfl rfl (fun _ _ _ _ _ => (rn_pick0 rfl (T.ev 3 rfl) rfl (T.ev 0 rfl))) ?_; clear T ac; intro ac T
    refine g_q (T := T) (i := 8) rfl (by kernel_rfl) (by kernel_rfl : (pbits 32 255).setIfInBounds 8 true = pbits 32 511) si_U (fun _ _ _ h => h) rfl rfl rfl rfl (fun _ _ _ _ _ => (rn_move rfl (T.ev 0 rfl))) ?_; clear T ac; intro ac T
    refine g_q (T := T) (i := 9) rfl (by kernel_rfl) (by kernel_rfl : (pbits 32 511).setIfInBounds 9 true = pbits 32 1023) si_U (fun _ _ _ h => h) (wanted_yes rfl rfl (T.ev 0 rfl) rfl) rfl rfl rfl (fun _ _ _ _ _ => (rn_move rfl (T.ev 14 rfl))) ?_; clear T ac; intro ac T
    refine g_q (T := T) (i := 10) rfl (by kernel_rfl) (by kernel_rfl : (pbits 32 1023).setIfInBounds 10 true = pbits 32 2047) si_U (fun _ _ _ h => h) (wanted_yes rfl rfl (T.ev 1 rfl) rfl) rfl rfl rfl (fun _ _ _ _ _ => (rn_move rfl (T.ev 12 rfl))) ?_; clear T ac; intro ac T
    refine g_q (v := (.bool false)) (T := T) (i := 11) rfl (by kernel_rfl) (by kernel_rfl : (pbits 32 2047).setIfInBounds 11 true = pbits 32 4095) si_U (fun _ _ _ h => h) (wanted_yes rfl rfl (T.ev 2 rfl) rfl) rfl rfl rfl (fun _ _ _ _ _ => (rn_neqof (rn_neq rfl (T.ev 1 rfl) (T.ev 0 rfl)) (by simp))) ?_; clear T ac; intro ac T
    refine g_q (T := T) (i := 12) rfl (by kernel_rfl) (by kernel_rfl : (pbits 32 4095).setIfInBounds 12 true = pbits 32 8191) si_U (fun _ _ _ h => h) rfl rfl rfl rfl (fun _ _ _ _ _ => (rn_pick0 rfl (T.ev 3 rfl) rfl (T.ev 0 rfl))) ?_; clear T ac; intro ac T
    refine g_q (T := T) (i := 13) rfl (by kernel_rfl) (by kernel_rfl : (pbits 32 8191).setIfInBounds 13 true = pbits 32 16383) si_U (fun _ _ _ h => h) rfl rfl rfl rfl (fun _ _ _ _ _ => (rn_move rfl (T.ev 0 rfl))) ?_; clear T ac; intro ac T
    refine g_q (T := T) (i := 14) rfl (by kernel_rfl) (by kernel_rfl : (pbits 32 16383).setIfInBounds 14 true = pbits 32 32767) si_U (fun _ _ _ h => h) (wanted_yes rfl rfl (T.ev 0 rfl) rfl) rfl rfl rfl (fun _ _ _ _ _ => (rn_move rfl (T.ev 18 rfl))) ?_; clear T ac; intro ac T
    refine g_q (T := T) (i := 15) rfl (by kernel_rfl) (by kernel_rfl : (pbits 32 32767).setIfInBounds 15 true = pbits 32 65535) si_U (fun _ _ _ h => h) (wanted_yes rfl rfl (T.ev 1 rfl) rfl) rfl rfl rfl (fun _ _ _ _ _ => (rn_move rfl (T.ev 16 rfl))) ?_; clear T ac; intro ac T
    refine g_q (v := (.bool false)) (T := T) (i := 16) rfl (by kernel_rfl) (by kernel_rfl : (pbits 32 65535).setIfInBounds 16 true = pbits 32 131071) si_U (fun _ _ _ h => h) (wanted_yes rfl rfl (T.ev 2 rfl) rfl) rfl rfl rfl (fun _ _ _ _ _ => (rn_neqof (rn_neq rfl (T.ev 1 rfl) (T.ev 0 rfl)) (by simp))) ?_; clear T ac; intro ac T
    refine g_q (T := T) (i := 17) rfl (by kernel_rfl) (by kernel_rfl : (pbits 32 131071).setIfInBounds 17 true = pbits 32 262143) si_U (fun _ _ _ h => h) rfl rfl rfl rfl (fun _ _ _ _ _ => (rn_pick0 rfl (T.ev 3 rfl) rfl (T.ev 0 rfl))) ?_; clear T ac; intro ac T
    refine g_q (T := T) (i := 18) rfl (by kernel_rfl) (by kernel_rfl : (pbits 32 262143).setIfInBounds 18 true = pbits 32 524287) si_U (fun _ _ _ h => h) rfl rfl rfl rfl (fun _ _ _ _ _ => (rn_move rfl (T.ev 0 rfl))) ?_; clear T ac; intro ac T
    refine g_q (T := T) (i := 19) rfl (by kernel_rfl) (by kernel_rfl : (pbits 32 524287).setIfInBounds 19 true = pbits 32 1048575) si_U (fun _ _ _ h => h) (wanted_yes rfl rfl (T.ev 0 rfl) rfl) rfl rfl rfl (fun _ _ _ _ _ => (rn_move rfl (T.ev 22 rfl))) ?_; clear T ac; intro ac T
    refine g_q (T := T) (i := 20) rfl (by kernel_rfl) (by kernel_rfl : (pbits 32 1048575).setIfInBounds 20 true = pbits 32 2097151) si_U (fun _ _ _ h => h) (wanted_yes rfl rfl (T.ev 1 rfl) rfl) rfl rfl rfl (fun _ _ _ _ _ => (rn_move rfl (T.ev 20 rfl))) ?_; clear T ac; intro ac T
    refine g_q (v := (.bool false)) (T := T) (i := 21) rfl (by kernel_rfl) (by kernel_rfl : (pbits 32 2097151).setIfInBounds 21 true = pbits 32 4194303) si_U (fun _ _ _ h => h) (wanted_yes rfl rfl (T.ev 2 rfl) rfl) rfl rfl rfl (fun _ _ _ _ _ => (rn_neqof (rn_neq rfl (T.ev 1 rfl) (T.ev 0 rfl)) (by simp))) ?_; clear T ac; intro ac T
    refine g_q (T := T) (i := 22) rfl (by kernel_rfl) (by kernel_rfl : (pbits 32 4194303).setIfInBounds 22 true = pbits 32 8388607) si_U (fun _ _ _ h => h) rfl rfl rfl rfl (fun _ _ _ _ _ => (rn_pick0 rfl (T.ev 3 rfl) rfl (T.ev 0 rfl))) ?_; clear T ac; intro ac T
    refine g_q (T := T) (i := 23) rfl (by kernel_rfl) (by kernel_rfl : (pbits 32 8388607).setIfInBounds 23 true = pbits 32 16777215) si_U (fun _ _ _ h => h) rfl rfl rfl rfl (fun _ _ _ _ _ => (rn_move rfl (T.ev 0 rfl))) ?_; clear T ac; intro ac T
    refine g_q (v := (.agg #[.int .i64 j.p0, .int .i64 j.p1, .int .i64 j.t0, .int .i64 j.t1, .int .i64 j.r0, .int .i64 j.r1, .int .i64 j.u0, .int .i64 j.u1, .int .i64 j.d0, .int .i64 j.d1, .int .i64 j.a0, .int .i64 j.a1, .int .i64 j.b0, .int .i64 j.b1, .int .i64 j.le, .slice Au6 j.sh.length cu6, .int .i64 j.wi, .int .i64 j.me])) (T := T) (i := 24) rfl (by kernel_rfl) (by kernel_rfl : (pbits 32 16777215).setIfInBounds 24 true = pbits 32 33554431) si_U (fun _ _ _ h => h) (wanted_yes rfl rfl (T.ev 0 rfl) rfl) rfl rfl rfl (fun B w' hD hl hS => (rn_row (Mem.nth (show Mem w noEx w' _ from hS) 0 rfl) rfl (T.ev 34 rfl) rfl rfl)) ?_; clear T ac; intro ac T
    refine g_q (T := T) (i := 25) rfl (by kernel_rfl) (by kernel_rfl : (pbits 32 33554431).setIfInBounds 25 true = pbits 32 67108863) si_U (fun _ _ _ h => h) (wanted_yes rfl rfl (T.ev 1 rfl) rfl) rfl rfl rfl (fun _ _ _ _ _ => (rn_move rfl (T.ev 37 rfl))) ?_; clear T ac; intro ac T
    refine g_q (T := T) (i := 26) rfl (by kernel_rfl) (by kernel_rfl : (pbits 32 67108863).setIfInBounds 26 true = pbits 32 134217727) si_U (fun _ _ _ h => h) (wanted_yes rfl rfl (T.ev 2 rfl) rfl) rfl rfl rfl (fun _ _ _ _ _ => (rn_move rfl (T.ev 37 rfl))) ?_; clear T ac; intro ac T
    refine g_q (v := (.pointer (some ⟨g2, 0, none⟩))) (T := T) (i := 27) rfl (by kernel_rfl) (by kernel_rfl : (pbits 32 134217727).setIfInBounds 27 true = pbits 32 268435455) si_U (fun _ _ _ h => h) (wanted_yes rfl rfl (T.ev 3 rfl) rfl) rfl rfl rfl (fun _ _ _ _ _ => (rn_indexAddr (size := 18) 0 rfl (T.ev 1 rfl) (T.ev 0 rfl) ⟨_, Try.underlying36, by kernel_rfl⟩ rfl (by decide) rfl)) ?_; clear T ac; intro ac T
    refine g_q (v := (.agg #[.int .i64 j.p0, .int .i64 j.p1, .int .i64 j.t0, .int .i64 j.t1, .int .i64 j.r0, .int .i64 j.r1, .int .i64 j.u0, .int .i64 j.u1, .int .i64 j.d0, .int .i64 j.d1, .int .i64 j.a0, .int .i64 j.a1, .int .i64 j.b0, .int .i64 j.b1, .int .i64 j.le, .slice A j.sh.length c, .int .i64 j.wi, .int .i64 j.me])) (T := T) (i := 28) rfl (by kernel_rfl) (by kernel_rfl : (pbits 32 268435455).setIfInBounds 28 true = pbits 32 536870911) si_U (fun _ _ _ h => h) (wanted_yes rfl rfl (T.ev 4 rfl) rfl) rfl rfl rfl (fun B w' hD hl hS => (rn_row (Mem.nth (show Mem w noEx w' _ from hS) 1 rfl) rfl (T.ev 0 rfl) rfl rfl)) ?_; clear T ac; intro ac T
    refine g_w (i := 29) (by kernel_rfl) rfl (by kernel_rfl : (pbits 32 536870911).setIfInBounds 29 true = pbits 32 1073741823) (wanted_yes rfl rfl (T.ev 5 rfl) rfl) ?_; intro K hK
    refine ow_call (first := []) (cap := []) T rfl rfl rfl rfl evf (.cons (T.ev 4 rfl) (.cons (T.ev 0 rfl) .nil)) Try.func22 rfl rfl ?_
    refine Calls.mono (sameJobs_same j _ _ _ _ _ (Su6.rd M (.cons _ (.cons _ (List.sublist_append_right _ _)))) (SJ.rd M (List.nil_sublist _)) (by omega)) ?_
    clear T
    rintro e wc ⟨rfl, hb⟩
    intro ac T
    replace M := M.call hb; clear hb
    refine sh_out hK _ _ (M.mask [true, true] rfl) ?_; clear hK K
    refine g_q (v := (.bool false)) (T := T) (i := 30) rfl (by kernel_rfl) (by kernel_rfl : (pbits 32 1073741823).setIfInBounds 30 true = pbits 32 2147483647) si_U (fun _ _ _ h => h) (wanted_yes rfl rfl (T.ev 6 rfl) rfl) rfl rfl rfl (fun _ _ _ _ _ => (rn_neqof (rn_not rfl (T.ev 0 rfl)) (by simp))) ?_; clear T ac; intro ac T
    refine g_q (T := T) (i := 31) rfl (by kernel_rfl) (by kernel_rfl : (pbits 32 2147483647).setIfInBounds 31 true = pbits 32 4294967295) si_U (fun _ _ _ h => h) rfl rfl rfl rfl (fun _ _ _ _ _ => (rn_pick0 rfl (T.ev 7 rfl) rfl (T.ev 0 rfl))) ?_; clear T ac; intro ac T
    refine g_done (by kernel_rfl) ?_
    replace T := T.pick [0, 1, 2, 3, 4, 5, 6, 7, 10, 11, 12, 15, 16, 17, 20, 21, 22, 25, 26, 27, 43, 44] rfl
    replace M := M.mask [false, true] rfl
    refine nm_then ?_
    refine wp_cond_false (T.ev 0 rfl) ?_
    refine wp_skip ?_
    refine nm_blk ?_
    refine nm_then ?_
    refine wp_region_lit ?_
    refine l_q T rfl rfl rfl rfl (rn_move rfl (T.ev 20 rfl)) ?_; clear T ac; intro ac T
    refine l_q (v := (.int .i64 1)) T rfl rfl rfl rfl (rn_ofI (rn_add rfl (T.ev 0 rfl) evc (by omega)) (by rfl)) ?_; clear T ac; intro ac T
    refine l_q (v := (.int .i64 1)) (T.pick [0, 1, 2, 3, 4, 5, 6, 7, 8, 9, 10, 11, 12, 13, 14, 15, 16, 17, 18, 19, 20, 21, 23] rfl) rfl rfl rfl rfl (rn_assign rfl (T.ev 0 rfl)) ?_; clear T ac; intro ac T
    refine wpList_nil ?_
    replace T := T.pick [0, 4, 5, 6, 7, 8, 9, 10, 11, 12, 13, 14, 15, 16, 17, 18, 19, 20, 21, 22, 23] rfl
    refine nm_then ?_
    refine rounds_S ?_
    refine wp_seq ?_
    refine wp_seq ?_
    refine wp_region_lit ?_
    refine l_q T rfl rfl rfl rfl (rn_move rfl (T.ev 0 rfl)) ?_; clear T ac; intro ac T
    refine l_q T rfl rfl rfl rfl (rn_move rfl (T.ev 21 rfl)) ?_; clear T ac; intro ac T
    refine l_q (v := (.int .i64 3)) T rfl rfl rfl rfl (rn_lenS rfl Try.underlying36 (T.ev 0 rfl)) ?_; clear T ac; intro ac T
    refine l_q (v := (.bool true)) T rfl rfl rfl rfl (rn_neqof (rn_lss rfl (T.ev 2 rfl) (T.ev 0 rfl)) (by simp)) ?_; clear T ac; intro ac T
    refine wpList_nil ?_
    replace T := T.pick [0, 4, 5, 6, 7, 8, 9, 10, 11, 12, 13, 14, 15, 16, 17, 18, 19, 20, 21, 22, 23, 24] rfl
    refine nm_then ?_
    refine wp_cond_true (T.ev 0 rfl) ?_
    refine wp_skip ?_
    refine nm_then ?_
    refine wp_seq ?_
    refine wp_block ?_
    refine wp_seq ?_
    refine wp_region_lit ?_
    refine l_q T rfl rfl rfl rfl (rn_move rfl (T.ev 21 rfl)) ?_; clear T ac; intro ac T
    refine l_q T rfl rfl rfl rfl (rn_move rfl (T.ev 2 rfl)) ?_; clear T ac; intro ac T
    refine l_q (v := (.pointer (some ⟨g2, 18, none⟩))) T rfl rfl rfl rfl (rn_indexAddr (size := 18) 1 rfl (T.ev 1 rfl) (T.ev 0 rfl) ⟨_, Try.underlying36, by kernel_rfl⟩ rfl (by decide) rfl) ?_; clear T ac; intro ac T
    refine l_q (v := (.agg #[.int .i64 ju4.p0, .int .i64 ju4.p1, .int .i64 ju4.t0, .int .i64 ju4.t1, .int .i64 ju4.r0, .int .i64 ju4.r1, .int .i64 ju4.u0, .int .i64 ju4.u1, .int .i64 ju4.d0, .int .i64 ju4.d1, .int .i64 ju4.a0, .int .i64 ju4.a1, .int .i64 ju4.b0, .int .i64 ju4.b1, .int .i64 ju4.le, .slice Au4 ju4.sh.length cu4, .int .i64 ju4.wi, .int .i64 ju4.me])) T rfl rfl rfl rfl (rn_row (Mem.nth M 0 rfl) rfl (T.ev 0 rfl) rfl rfl) ?_; clear T ac; intro ac T
    refine l_w rfl ?_; intro K hK
    refine ow_call (first := []) (cap := []) T rfl rfl rfl rfl evf (.cons (T.ev 0 rfl) .nil) Try.func18 rfl rfl ?_
    refine Calls.mono (copyJob_any ju4 _ _ _ (Su4.rd M (.cons _ (List.Sublist.trans (List.Sublist.trans (List.Sublist.refl _) (List.sublist_append_left _ _)) (List.sublist_append_left _ _)))) (by first | omega | (dsimp only [Jb.one]; omega))) ?_
    clear T
    rintro e wc ⟨Au12, cu12, Iu12, rfl, hsnu12, N⟩
    intro ac T
    obtain ⟨bu12, ou12, Su12⟩ := hsnu12.sp (w := w) (ex := noEx) (rc_length _)
    replace M := (M.join N).swapI
    replace M := M.mask [true] rfl
    clear N hsnu12
    refine sh_out hK _ _ ?_; clear hK K
    refine l_w rfl ?_; intro K hK
    refine ow_al M T rfl rfl rfl rfl ?_; clear M T; intro g4 wc ac M T
    refine sh_out hK _ _ ?_; clear hK K
    refine l_w rfl ?_; intro K hK
    refine ow_st [.int .i64 ju4.p0, .int .i64 ju4.p1, .int .i64 ju4.t0, .int .i64 ju4.t1, .int .i64 ju4.r0, .int .i64 ju4.r1, .int .i64 ju4.u0, .int .i64 ju4.u1, .int .i64 ju4.d0, .int .i64 ju4.d1, .int .i64 ju4.a0, .int .i64 ju4.a1, .int .i64 ju4.b0, .int .i64 ju4.b1, .int .i64 ju4.le, .slice Au12 ju4.sh.length cu12, .int .i64 ju4.wi, .int .i64 ju4.me] M T rfl rfl (T.ev 0 rfl) (T.ev 1 rfl) rfl .head rfl rfl rfl (by kernel_rfl) ?_; clear M T; intro wc ac M T
    refine sh_out hK _ _ ?_; clear hK K
    refine wpList_nil ?_
    replace T := T.pick [0, 7, 8, 9, 10, 11, 12, 13, 14, 15, 16, 17, 18, 19, 20, 21, 22, 23, 24, 25, 26, 27] rfl
    refine nm_then ?_
    refine wp_seq ?_
    refine wp_region_lit ?_
    refine l_q (v := (.agg #[.int .i64 ju4.p0, .int .i64 ju4.p1, .int .i64 ju4.t0, .int .i64 ju4.t1, .int .i64 ju4.r0, .int .i64 ju4.r1, .int .i64 ju4.u0, .int .i64 ju4.u1, .int .i64 ju4.d0, .int .i64 ju4.d1, .int .i64 ju4.a0, .int .i64 ju4.a1, .int .i64 ju4.b0, .int .i64 ju4.b1, .int .i64 ju4.le, .slice Au12 ju4.sh.length cu12, .int .i64 ju4.wi, .int .i64 ju4.me])) T rfl rfl rfl rfl (rn_row (Mem.nth M 0 rfl) rfl (T.ev 0 rfl) rfl rfl) ?_; clear T ac; intro ac T
    refine l_w rfl ?_; intro K hK
    refine ow_call (first := []) (cap := []) T rfl rfl rfl rfl evf (.cons (T.ev 0 rfl) .nil) Try.func24 rfl rfl ?_
    refine Calls.mono (Guided_any ju4 _ _ _ (Su12.rd M (.cons _ (.cons _ (List.sublist_append_right _ _)))) (by first | omega | (dsimp only [Jb.one]; omega))) ?_
    clear T
    rintro e wc ⟨rfl, hb⟩
    intro ac T
    replace M := M.call hb; clear hb
    refine sh_out hK _ _ ?_; clear hK K
    refine l_q T rfl rfl rfl rfl (rn_move rfl (T.ev 0 rfl)) ?_; clear T ac; intro ac T
    refine l_q T rfl rfl rfl rfl (rn_extract rfl (T.ev 0 rfl) rfl) ?_; clear T ac; intro ac T
    refine l_q T rfl rfl rfl rfl (rn_extract rfl (T.ev 1 rfl) rfl) ?_; clear T ac; intro ac T
    refine l_q T rfl rfl rfl rfl (rn_assign rfl (T.ev 1 rfl)) ?_; clear T ac; intro ac T
    refine l_q T rfl rfl rfl rfl (rn_assign rfl (T.ev 1 rfl)) ?_; clear T ac; intro ac T
    refine wpList_nil ?_
    replace T := T.pick [0, 1, 7, 8, 9, 10, 11, 12, 13, 14, 15, 16, 17, 18, 19, 20, 21, 22, 23, 24, 25, 26, 27, 28] rfl
    refine nm_then ?_
    refine wp_seq ?_
    refine wp_region_lit ?_
    refine l_q T rfl rfl rfl rfl (rn_move rfl (T.ev 23 rfl)) ?_; clear T ac; intro ac T
    refine l_q T rfl rfl rfl rfl (rn_move rfl (T.ev 4 rfl)) ?_; clear T ac; intro ac T
    refine l_q (v := (.pointer (some ⟨g2, 18, none⟩))) T rfl rfl rfl rfl (rn_indexAddr (size := 18) 1 rfl (T.ev 1 rfl) (T.ev 0 rfl) ⟨_, Try.underlying36, by kernel_rfl⟩ rfl (by decide) rfl) ?_; clear T ac; intro ac T
    refine l_q (v := (.agg #[.int .i64 ju4.p0, .int .i64 ju4.p1, .int .i64 ju4.t0, .int .i64 ju4.t1, .int .i64 ju4.r0, .int .i64 ju4.r1, .int .i64 ju4.u0, .int .i64 ju4.u1, .int .i64 ju4.d0, .int .i64 ju4.d1, .int .i64 ju4.a0, .int .i64 ju4.a1, .int .i64 ju4.b0, .int .i64 ju4.b1, .int .i64 ju4.le, .slice Au4 ju4.sh.length cu4, .int .i64 ju4.wi, .int .i64 ju4.me])) T rfl rfl rfl rfl (rn_row (Mem.nth M 1 rfl) rfl (T.ev 0 rfl) rfl rfl) ?_; clear T ac; intro ac T
    refine l_w rfl ?_; intro K hK
    refine ow_call (first := []) (cap := []) T rfl rfl rfl rfl evf (.cons (T.ev 0 rfl) .nil) Try.func25 rfl rfl ?_
    refine Calls.mono (rGuided_any ju4 _ _ _ (Su4.rd M (.cons _ (.cons _ (List.Sublist.trans (List.Sublist.trans (List.Sublist.trans (List.Sublist.refl _) (List.sublist_append_left _ _)) (List.sublist_append_left _ _)) (List.sublist_append_left _ _))))) (by omega)) ?_
    clear T
    rintro e wc ⟨rfl, hb⟩
    intro ac T
    replace M := M.call hb; clear hb
    refine sh_out hK _ _ ?_; clear hK K
    refine l_q T rfl rfl rfl rfl (rn_move rfl (T.ev 0 rfl)) ?_; clear T ac; intro ac T
    refine l_q T rfl rfl rfl rfl (rn_extract rfl (T.ev 0 rfl) rfl) ?_; clear T ac; intro ac T
    refine l_q T rfl rfl rfl rfl (rn_extract rfl (T.ev 1 rfl) rfl) ?_; clear T ac; intro ac T
    refine l_q T rfl rfl rfl rfl (rn_assign rfl (T.ev 1 rfl)) ?_; clear T ac; intro ac T
    refine l_q T rfl rfl rfl rfl (rn_assign rfl (T.ev 1 rfl)) ?_; clear T ac; intro ac T
    refine wpList_nil ?_
    replace T := T.pick [0, 1, 10, 11, 12, 13, 14, 15, 16, 17, 18, 19, 20, 21, 22, 23, 24, 25, 26, 27, 28, 29, 30, 31, 32, 33] rfl
    refine nm_then ?_
    refine wp_seq ?_
    refine wp_region_lit ?_
    refine l_q (v := (.agg #[.int .i64 ju4.p0, .int .i64 ju4.p1, .int .i64 ju4.t0, .int .i64 ju4.t1, .int .i64 ju4.r0, .int .i64 ju4.r1, .int .i64 ju4.u0, .int .i64 ju4.u1, .int .i64 ju4.d0, .int .i64 ju4.d1, .int .i64 ju4.a0, .int .i64 ju4.a1, .int .i64 ju4.b0, .int .i64 ju4.b1, .int .i64 ju4.le, .slice Au12 ju4.sh.length cu12, .int .i64 ju4.wi, .int .i64 ju4.me])) T rfl rfl rfl rfl (rn_row (Mem.nth M 0 rfl) rfl (T.ev 4 rfl) rfl rfl) ?_; clear T ac; intro ac T
    refine l_w rfl ?_; intro K hK
    refine ow_call (first := []) (cap := []) T rfl rfl rfl rfl evf (.cons (T.ev 0 rfl) .nil) Try.func26 rfl rfl ?_
    refine Calls.mono (Next_any ju4 _ _ _ (Su12.rd M (.cons _ (.cons _ (List.sublist_append_right _ _)))) (by first | omega | (dsimp only [Jb.one]; omega))) ?_
    clear T
    rintro e wc ⟨rfl, hb⟩
    intro ac T
    replace M := M.call hb; clear hb
    refine sh_out hK _ _ ?_; clear hK K
    refine l_q T rfl rfl rfl rfl (rn_move rfl (T.ev 0 rfl)) ?_; clear T ac; intro ac T
    refine l_q T rfl rfl rfl rfl (rn_extract rfl (T.ev 0 rfl) rfl) ?_; clear T ac; intro ac T
    refine l_q T rfl rfl rfl rfl (rn_extract rfl (T.ev 1 rfl) rfl) ?_; clear T ac; intro ac T
    refine l_q T rfl rfl rfl rfl (rn_extract rfl (T.ev 2 rfl) rfl) ?_; clear T ac; intro ac T
    refine l_q T rfl rfl rfl rfl (rn_assign rfl (T.ev 2 rfl)) ?_; clear T ac; intro ac T
    refine l_q T rfl rfl rfl rfl (rn_assign rfl (T.ev 2 rfl)) ?_; clear T ac; intro ac T
    refine l_q T rfl rfl rfl rfl (rn_assign rfl (T.ev 2 rfl)) ?_; clear T ac; intro ac T
    refine wpList_nil ?_
    replace T := T.pick [0, 1, 2, 9, 10, 11, 12, 13, 14, 15, 16, 17, 18, 19, 20, 21, 22, 23, 24, 25, 26, 27, 28, 29, 30, 31, 32, 33, 34] rfl
    refine nm_then ?_
    refine wp_seq ?_
    refine wp_region_lit ?_
    refine l_q T rfl rfl rfl rfl (rn_move rfl (T.ev 28 rfl)) ?_; clear T ac; intro ac T
    refine l_q T rfl rfl rfl rfl (rn_move rfl (T.ev 9 rfl)) ?_; clear T ac; intro ac T
    refine l_q (v := (.pointer (some ⟨g2, 18, none⟩))) T rfl rfl rfl rfl (rn_indexAddr (size := 18) 1 rfl (T.ev 1 rfl) (T.ev 0 rfl) ⟨_, Try.underlying36, by kernel_rfl⟩ rfl (by decide) rfl) ?_; clear T ac; intro ac T
    refine l_q (v := (.agg #[.int .i64 ju4.p0, .int .i64 ju4.p1, .int .i64 ju4.t0, .int .i64 ju4.t1, .int .i64 ju4.r0, .int .i64 ju4.r1, .int .i64 ju4.u0, .int .i64 ju4.u1, .int .i64 ju4.d0, .int .i64 ju4.d1, .int .i64 ju4.a0, .int .i64 ju4.a1, .int .i64 ju4.b0, .int .i64 ju4.b1, .int .i64 ju4.le, .slice Au4 ju4.sh.length cu4, .int .i64 ju4.wi, .int .i64 ju4.me])) T rfl rfl rfl rfl (rn_row (Mem.nth M 1 rfl) rfl (T.ev 0 rfl) rfl rfl) ?_; clear T ac; intro ac T
    refine l_w rfl ?_; intro K hK
    refine ow_call (first := []) (cap := []) T rfl rfl rfl rfl evf (.cons (T.ev 0 rfl) .nil) Try.func27 rfl rfl ?_
    refine Calls.mono (rNext_any ju4 _ _ _ (Su4.rd M (.cons _ (.cons _ (List.Sublist.trans (List.Sublist.trans (List.Sublist.trans (List.Sublist.refl _) (List.sublist_append_left _ _)) (List.sublist_append_left _ _)) (List.sublist_append_left _ _))))) (by omega)) ?_
    clear T
    rintro e wc ⟨rfl, hb⟩
    intro ac T
    replace M := M.call hb; clear hb
    refine sh_out hK _ _ ?_; clear hK K
    refine l_q T rfl rfl rfl rfl (rn_move rfl (T.ev 0 rfl)) ?_; clear T ac; intro ac T
    refine l_q T rfl rfl rfl rfl (rn_extract rfl (T.ev 0 rfl) rfl) ?_; clear T ac; intro ac T
    refine l_q T rfl rfl rfl rfl (rn_extract rfl (T.ev 1 rfl) rfl) ?_; clear T ac; intro ac T
    refine l_q T rfl rfl rfl rfl (rn_extract rfl (T.ev 2 rfl) rfl) ?_; clear T ac; intro ac T
    refine l_q T rfl rfl rfl rfl (rn_assign rfl (T.ev 2 rfl)) ?_; clear T ac; intro ac T
    refine l_q T rfl rfl rfl rfl (rn_assign rfl (T.ev 2 rfl)) ?_; clear T ac; intro ac T
    refine l_q T rfl rfl rfl rfl (rn_assign rfl (T.ev 2 rfl)) ?_; clear T ac; intro ac T
    refine wpList_nil ?_
    replace T := T.pick [0, 1, 2, 12, 13, 14, 15, 16, 17, 18, 19, 20, 21, 22, 23, 24, 25, 26, 27, 28, 29, 30, 31, 32, 33, 34, 35, 36, 37, 38, 39, 40] rfl
    refine nm_then ?_
    refine wp_seq ?_
    refine g_start2 M (M.mask [true, true] rfl) 32 (by kernel_rfl) rfl (by kernel_rfl) ?_
    clear M; intro wc M
    refine g_q (T := T) (i := 0) rfl (by kernel_rfl) (by kernel_rfl : (pbits 32 0).setIfInBounds 0 true = pbits 32 1) si_U (fun _ _ _ h => h) rfl rfl rfl rfl (fun _ _ _ _ _ => (rn_move rfl (T.ev 9 rfl))) ?_; clear T ac; intro ac T
    refine g_q (T := T) (i := 1) rfl (by kernel_rfl) (by kernel_rfl : (pbits 32 1).setIfInBounds 1 true = pbits 32 3) si_U (fun _ _ _ h => h) rfl rfl rfl rfl (fun _ _ _ _ _ => (rn_move rfl (T.ev 8 rfl))) ?_; clear T ac; intro ac T
    refine g_q (v := (.bool false)) (T := T) (i := 2) rfl (by kernel_rfl) (by kernel_rfl : (pbits 32 3).setIfInBounds 2 true = pbits 32 7) si_U (fun _ _ _ h => h) rfl rfl rfl rfl (fun _ _ _ _ _ => (rn_neqof (rn_neq rfl (T.ev 1 rfl) (T.ev 0 rfl)) (by simp))) ?_; clear T ac; intro ac T
    refine g_q (T := T) (i := 3) rfl (by kernel_rfl) (by kernel_rfl : (pbits 32 7).setIfInBounds 3 true = pbits 32 15) si_U (fun _ _ _ h => h) rfl rfl rfl rfl (fun _ _ _ _ _ => (rn_move rfl (T.ev 0 rfl))) ?_; clear T ac; intro ac T
    refine g_q (v := (.int .i64 ((guidedJ ju4).2))) (T := T.pick [0, 1, 2, 3, 4, 5, 6, 7, 8, 9, 10, 11, 12, 13, 14, 15, 16, 17, 18, 19, 20, 21, 22, 23, 24, 25, 26, 27, 28, 29, 30, 31, 32, 33, 35] rfl) (i := 4) rfl (by kernel_rfl) (by kernel_rfl : (pbits 32 15).setIfInBounds 4 true = pbits 32 31) si_U (fun _ _ _ h => h) (wanted_yes rfl rfl (T.ev 0 rfl) rfl) rfl rfl rfl (fun _ _ _ _ _ => (rn_move rfl (T.ev 12 rfl))) ?_; clear T ac; intro ac T
    refine g_q (v := (.int .i64 ((guidedJ ju4).2))) (T := T.pick [0, 1, 2, 3, 4, 5, 6, 7, 8, 9, 10, 11, 12, 13, 14, 15, 16, 17, 18, 19, 20, 21, 22, 23, 24, 25, 26, 27, 28, 29, 30, 31, 32, 33, 35] rfl) (i := 5) rfl (by kernel_rfl) (by kernel_rfl : (pbits 32 31).setIfInBounds 5 true = pbits 32 63) si_U (fun _ _ _ h => h) (wanted_yes rfl rfl (T.ev 1 rfl) rfl) rfl rfl rfl (fun _ _ _ _ _ => (rn_move rfl (T.ev 11 rfl))) ?_; clear T ac; intro ac T
    refine g_q (v := (.bool false)) (T := T.pick [0, 1, 2, 3, 4, 5, 6, 7, 8, 9, 10, 11, 12, 13, 14, 15, 16, 17, 18, 19, 20, 21, 22, 23, 24, 25, 26, 27, 28, 29, 30, 31, 32, 33, 35] rfl) (i := 6) rfl (by kernel_rfl) (by kernel_rfl : (pbits 32 63).setIfInBounds 6 true = pbits 32 127) si_U (fun _ _ _ h => h) (wanted_yes rfl rfl (T.ev 2 rfl) rfl) rfl rfl rfl (fun _ _ _ _ _ => (rn_neqof (rn_neq rfl (T.ev 1 rfl) (T.ev 0 rfl)) (by simp))) ?_; clear T ac; intro ac T
    refine g_q (T := T) (i := 7) rfl (by kernel_rfl) (by kernel_rfl : (pbits 32 127).setIfInBounds 7 true = pbits 32 255) si_U (fun _ _ _ h => h) rfl rfl rfl rfl (fun _ _ _ _ _ => (rn_pick0 rfl (T.ev 3 rfl) rfl (T.ev 0 rfl))) ?_; clear T ac; intro ac T
    refine g_q (T := T) (i := 8) rfl (by kernel_rfl) (by kernel_rfl : (pbits 32 255).setIfInBounds 8 true = pbits 32 511) si_U (fun _ _ _ h => h) rfl rfl rfl rfl (fun _ _ _ _ _ => (rn_move rfl (T.ev 0 rfl))) ?_; clear T ac; intro ac T
    refine g_q (v := (.int .i64 ((nextJ ju4).1))) (T := T.pick [0, 1, 2, 3, 4, 5, 6, 7, 8, 9, 10, 11, 12, 13, 14, 15, 16, 17, 18, 19, 20, 21, 22, 23, 24, 25, 26, 27, 28, 29, 30, 31, 32, 33, 34, 35, 37] rfl) (i := 9) rfl (by kernel_rfl) (by kernel_rfl : (pbits 32 511).setIfInBounds 9 true = pbits 32 1023) si_U (fun _ _ _ h => h) (wanted_yes rfl rfl (T.ev 0 rfl) rfl) rfl rfl rfl (fun _ _ _ _ _ => (rn_move rfl (T.ev 14 rfl))) ?_; clear T ac; intro ac T
    refine g_q (v := (.int .i64 ((nextJ ju4).1))) (T := T.pick [0, 1, 2, 3, 4, 5, 6, 7, 8, 9, 10, 11, 12, 13, 14, 15, 16, 17, 18, 19, 20, 21, 22, 23, 24, 25, 26, 27, 28, 29, 30, 31, 32, 33, 34, 35, 37] rfl) (i := 10) rfl (by kernel_rfl) (by kernel_rfl : (pbits 32 1023).setIfInBounds 10 true = pbits 32 2047) si_U (fun _ _ _ h => h) (wanted_yes rfl rfl (T.ev 1 rfl) rfl) rfl rfl rfl (fun _ _ _ _ _ => (rn_move rfl (T.ev 12 rfl))) ?_; clear T ac; intro ac T
    refine g_q (v := (.bool false)) (T := T.pick [0, 1, 2, 3, 4, 5, 6, 7, 8, 9, 10, 11, 12, 13, 14, 15, 16, 17, 18, 19, 20, 21, 22, 23, 24, 25, 26, 27, 28, 29, 30, 31, 32, 33, 34, 35, 37] rfl) (i := 11) rfl (by kernel_rfl) (by kernel_rfl : (pbits 32 2047).setIfInBounds 11 true = pbits 32 4095) si_U (fun _ _ _ h => h) (wanted_yes rfl rfl (T.ev 2 rfl) rfl) rfl rfl rfl (fun _ _ _ _ _ => (rn_neqof (rn_neq rfl (T.ev 1 rfl) (T.ev 0 rfl)) (by simp))) ?_; clear T ac; intro ac T
    refine g_q (T := T) (i := 12) rfl (by kernel_rfl) (by kernel_rfl : (pbits 32 4095).setIfInBounds 12 true = pbits 32 8191) si_U (fun _ _ _ h => h) rfl rfl rfl rfl (fun _ _ _ _ _ => (rn_pick0 rfl (T.ev 3 rfl) rfl (T.ev 0 rfl))) ?_; clear T ac; intro ac T
    refine g_q (T := T) (i := 13) rfl (by kernel_rfl) (by kernel_rfl : (pbits 32 8191).setIfInBounds 13 true = pbits 32 16383) si_U (fun _ _ _ h => h) rfl rfl rfl rfl (fun _ _ _ _ _ => (rn_move rfl (T.ev 0 rfl))) ?_; clear T ac; intro ac T
    refine g_q (v := (.int .i64 ((nextJ ju4).2.1))) (T := T.pick [0, 1, 2, 3, 4, 5, 6, 7, 8, 9, 10, 11, 12, 13, 14, 15, 16, 17, 18, 19, 20, 21, 22, 23, 24, 25, 26, 27, 28, 29, 30, 31, 32, 33, 34, 35, 36, 37, 39] rfl) (i := 14) rfl (by kernel_rfl) (by kernel_rfl : (pbits 32 16383).setIfInBounds 14 true = pbits 32 32767) si_U (fun _ _ _ h => h) (wanted_yes rfl rfl (T.ev 0 rfl) rfl) rfl rfl rfl (fun _ _ _ _ _ => (rn_move rfl (T.ev 18 rfl))) ?_; clear T ac; intro ac T
    refine g_q (v := (.int .i64 ((nextJ ju4).2.1))) (T := T.pick [0, 1, 2, 3, 4, 5, 6, 7, 8, 9, 10, 11, 12, 13, 14, 15, 16, 17, 18, 19, 20, 21, 22, 23, 24, 25, 26, 27, 28, 29, 30, 31, 32, 33, 34, 35, 36, 37, 39] rfl) (i := 15) rfl (by kernel_rfl) (by kernel_rfl : (pbits 32 32767).setIfInBounds 15 true = pbits 32 65535) si_U (fun _ _ _ h => h) (wanted_yes rfl rfl (T.ev 1 rfl) rfl) rfl rfl rfl (fun _ _ _ _ _ => (rn_move rfl (T.ev 16 rfl))) ?_; clear T ac; intro ac T
    refine g_q (v := (.bool false)) (T := T.pick [0, 1, 2, 3, 4, 5, 6, 7, 8, 9, 10, 11, 12, 13, 14, 15, 16, 17, 18, 19, 20, 21, 22, 23, 24, 25, 26, 27, 28, 29, 30, 31, 32, 33, 34, 35, 36, 37, 39] rfl) (i := 16) rfl (by kernel_rfl) (by kernel_rfl : (pbits 32 65535).setIfInBounds 16 true = pbits 32 131071) si_U (fun _ _ _ h => h) (wanted_yes rfl rfl (T.ev 2 rfl) rfl) rfl rfl rfl (fun _ _ _ _ _ => (rn_neqof (rn_neq rfl (T.ev 1 rfl) (T.ev 0 rfl)) (by simp))) ?_; clear T ac; intro ac T
    refine g_q (T := T) (i := 17) rfl (by kernel_rfl) (by kernel_rfl : (pbits 32 131071).setIfInBounds 17 true = pbits 32 262143) si_U (fun _ _ _ h => h) rfl rfl rfl rfl (fun _ _ _ _ _ => (rn_pick0 rfl (T.ev 3 rfl) rfl (T.ev 0 rfl))) ?_; clear T ac; intro ac T
    refine g_q (T := T) (i := 18) rfl (by kernel_rfl) (by kernel_rfl : (pbits 32 262143).setIfInBounds 18 true = pbits 32 524287) si_U (fun _ _ _ h => h) rfl rfl rfl rfl (fun _ _ _ _ _ => (rn_move rfl (T.ev 0 rfl))) ?_; clear T ac; intro ac T
    refine g_q (v := (.int .i64 ((nextJ ju4).2.2))) (T := T.pick [0, 1, 2, 3, 4, 5, 6, 7, 8, 9, 10, 11, 12, 13, 14, 15, 16, 17, 18, 19, 20, 21, 22, 23, 24, 25, 26, 27, 28, 29, 30, 31, 32, 33, 34, 35, 36, 37, 38, 39, 41] rfl) (i := 19) rfl (by kernel_rfl) (by kernel_rfl : (pbits 32 524287).setIfInBounds 19 true = pbits 32 1048575) si_U (fun _ _ _ h => h) (wanted_yes rfl rfl (T.ev 0 rfl) rfl) rfl rfl rfl (fun _ _ _ _ _ => (rn_move rfl (T.ev 22 rfl))) ?_; clear T ac; intro ac T
    refine g_q (v := (.int .i64 ((nextJ ju4).2.2))) (T := T.pick [0, 1, 2, 3, 4, 5, 6, 7, 8, 9, 10, 11, 12, 13, 14, 15, 16, 17, 18, 19, 20, 21, 22, 23, 24, 25, 26, 27, 28, 29, 30, 31, 32, 33, 34, 35, 36, 37, 38, 39, 41] rfl) (i := 20) rfl (by kernel_rfl) (by kernel_rfl : (pbits 32 1048575).setIfInBounds 20 true = pbits 32 2097151) si_U (fun _ _ _ h => h) (wanted_yes rfl rfl (T.ev 1 rfl) rfl) rfl rfl rfl (fun _ _ _ _ _ => (rn_move rfl (T.ev 20 rfl))) ?_; clear T ac; intro ac T
    refine g_q (v := (.bool false)) (T := T.pick [0, 1, 2, 3, 4, 5, 6, 7, 8, 9, 10, 11, 12, 13, 14, 15, 16, 17, 18, 19, 20, 21, 22, 23, 24, 25, 26, 27, 28, 29, 30, 31, 32, 33, 34, 35, 36, 37, 38, 39, 41] rfl) (i := 21) rfl (by kernel_rfl) (by kernel_rfl : (pbits 32 2097151).setIfInBounds 21 true = pbits 32 4194303) si_U (fun _ _ _ h => h) (wanted_yes rfl rfl (T.ev 2 rfl) rfl) rfl rfl rfl (fun _ _ _ _ _ => (rn_neqof (rn_neq rfl (T.ev 1 rfl) (T.ev 0 rfl)) (by simp))) ?_; clear T ac; intro ac T
    refine g_q (T := T) (i := 22) rfl (by kernel_rfl) (by kernel_rfl : (pbits 32 4194303).setIfInBounds 22 true = pbits 32 8388607) si_U (fun _ _ _ h => h) rfl rfl rfl rfl (fun _ _ _ _ _ => (rn_pick0 rfl (T.ev 3 rfl) rfl (T.ev 0 rfl))) ?_; clear T ac; intro ac T
    refine g_q (T := T) (i := 23) rfl (by kernel_rfl) (by kernel_rfl : (pbits 32 8388607).setIfInBounds 23 true = pbits 32 16777215) si_U (fun _ _ _ h => h) rfl rfl rfl rfl (fun _ _ _ _ _ => (rn_move rfl (T.ev 0 rfl))) ?_; clear T ac; intro ac T
    refine g_q (v := (.agg #[.int .i64 ju4.p0, .int .i64 ju4.p1, .int .i64 ju4.t0, .int .i64 ju4.t1, .int .i64 ju4.r0, .int .i64 ju4.r1, .int .i64 ju4.u0, .int .i64 ju4.u1, .int .i64 ju4.d0, .int .i64 ju4.d1, .int .i64 ju4.a0, .int .i64 ju4.a1, .int .i64 ju4.b0, .int .i64 ju4.b1, .int .i64 ju4.le, .slice Au12 ju4.sh.length cu12, .int .i64 ju4.wi, .int .i64 ju4.me])) (T := T.pick [0, 1, 2, 3, 4, 5, 6, 7, 8, 9, 10, 11, 12, 13, 14, 15, 16, 17, 18, 19, 20, 21, 22, 23, 24, 25, 26, 27, 28, 29, 30, 31, 32, 33, 34, 35, 36, 37, 38, 39, 40, 41, 43] rfl) (i := 24) rfl (by kernel_rfl) (by kernel_rfl : (pbits 32 16777215).setIfInBounds 24 true = pbits 32 33554431) si_U (fun _ _ _ h => h) (wanted_yes rfl rfl (T.ev 0 rfl) rfl) rfl rfl rfl (fun B w' hD hl hS => (rn_row (Mem.nth (show Mem w noEx w' _ from hS) 0 rfl) rfl (T.ev 34 rfl) rfl rfl)) ?_; clear T ac; intro ac T
    refine g_q (v := (.slice (some ⟨g2, 0, none⟩) 3 3)) (T := T.pick [0, 1, 2, 3, 4, 5, 6, 7, 8, 9, 10, 11, 12, 13, 14, 15, 16, 17, 18, 19, 20, 21, 22, 23, 24, 25, 26, 27, 28, 29, 30, 31, 32, 33, 34, 35, 36, 37, 38, 39, 40, 41, 43] rfl) (i := 25) rfl (by kernel_rfl) (by kernel_rfl : (pbits 32 33554431).setIfInBounds 25 true = pbits 32 67108863) si_U (fun _ _ _ h => h) (wanted_yes rfl rfl (T.ev 1 rfl) rfl) rfl rfl rfl (fun _ _ _ _ _ => (rn_move rfl (T.ev 43 rfl))) ?_; clear T ac; intro ac T
    refine g_q (v := (.int .i64 1)) (T := T.pick [0, 1, 2, 3, 4, 5, 6, 7, 8, 9, 10, 11, 12, 13, 14, 15, 16, 17, 18, 19, 20, 21, 22, 23, 24, 25, 26, 27, 28, 29, 30, 31, 32, 33, 34, 35, 36, 37, 38, 39, 40, 41, 43] rfl) (i := 26) rfl (by kernel_rfl) (by kernel_rfl : (pbits 32 67108863).setIfInBounds 26 true = pbits 32 134217727) si_U (fun _ _ _ h => h) (wanted_yes rfl rfl (T.ev 2 rfl) rfl) rfl rfl rfl (fun _ _ _ _ _ => (rn_move rfl (T.ev 37 rfl))) ?_; clear T ac; intro ac T
    refine g_q (v := (.pointer (some ⟨g2, 18, none⟩))) (T := T.pick [0, 1, 2, 3, 4, 5, 6, 7, 8, 9, 10, 11, 12, 13, 14, 15, 16, 17, 18, 19, 20, 21, 22, 23, 24, 25, 26, 27, 28, 29, 30, 31, 32, 33, 34, 35, 36, 37, 38, 39, 40, 41, 43] rfl) (i := 27) rfl (by kernel_rfl) (by kernel_rfl : (pbits 32 134217727).setIfInBounds 27 true = pbits 32 268435455) si_U (fun _ _ _ h => h) (wanted_yes rfl rfl (T.ev 3 rfl) rfl) rfl rfl rfl (fun _ _ _ _ _ => (rn_indexAddr (size := 18) 1 rfl (T.ev 1 rfl) (T.ev 0 rfl) ⟨_, Try.underlying36, by kernel_rfl⟩ rfl (by decide) rfl)) ?_; clear T ac; intro ac T
    refine g_q (v := (.agg #[.int .i64 ju4.p0, .int .i64 ju4.p1, .int .i64 ju4.t0, .int .i64 ju4.t1, .int .i64 ju4.r0, .int .i64 ju4.r1, .int .i64 ju4.u0, .int .i64 ju4.u1, .int .i64 ju4.d0, .int .i64 ju4.d1, .int .i64 ju4.a0, .int .i64 ju4.a1, .int .i64 ju4.b0, .int .i64 ju4.b1, .int .i64 ju4.le, .slice Au4 ju4.sh.length cu4, .int .i64 ju4.wi, .int .i64 ju4.me])) (T := T.pick [0, 1, 2, 3, 4, 5, 6, 7, 8, 9, 10, 11, 12, 13, 14, 15, 16, 17, 18, 19, 20, 21, 22, 23, 24, 25, 26, 27, 28, 29, 30, 31, 32, 33, 34, 35, 36, 37, 38, 39, 40, 41, 43] rfl) (i := 28) rfl (by kernel_rfl) (by kernel_rfl : (pbits 32 268435455).setIfInBounds 28 true = pbits 32 536870911) si_U (fun _ _ _ h => h) (wanted_yes rfl rfl (T.ev 4 rfl) rfl) rfl rfl rfl (fun B w' hD hl hS => (rn_row (Mem.nth (show Mem w noEx w' _ from hS) 1 rfl) rfl (T.ev 0 rfl) rfl rfl)) ?_; clear T ac; intro ac T
    refine g_w (i := 29) (by kernel_rfl) rfl (by kernel_rfl : (pbits 32 536870911).setIfInBounds 29 true = pbits 32 1073741823) (wanted_yes rfl rfl (T.ev 5 rfl) rfl) ?_; intro K hK
    replace T := T.pick [0, 1, 2, 3, 4, 5, 6, 7, 8, 9, 10, 11, 12, 13, 14, 15, 16, 17, 18, 19, 20, 21, 22, 23, 24, 25, 26, 27, 28, 29, 30, 31, 32, 33, 34, 35, 36, 37, 38, 39, 40, 41, 43] rfl
    refine ow_call (first := []) (cap := []) T rfl rfl rfl rfl evf (.cons (T.ev 4 rfl) (.cons (T.ev 0 rfl) .nil)) Try.func22 rfl rfl ?_
    refine Calls.mono (sameJobs_same ju4 _ _ _ _ _ (Su12.rd M (.cons _ (.cons _ (List.sublist_append_right _ _)))) (Su4.rd M (.cons _ (.cons _ (List.Sublist.trans (List.Sublist.trans (List.Sublist.trans (List.Sublist.refl _) (List.sublist_append_left _ _)) (List.sublist_append_left _ _)) (List.sublist_append_left _ _))))) (by omega)) ?_
    clear T
    rintro e wc ⟨rfl, hb⟩
    intro ac T
    replace M := M.call hb; clear hb
    refine sh_out hK _ _ (M.mask [true, true] rfl) ?_; clear hK K
    refine g_q (v := (.bool false)) (T := T.pick [0, 1, 2, 3, 4, 5, 6, 7, 8, 9, 10, 11, 12, 13, 14, 15, 16, 17, 18, 19, 20, 21, 22, 23, 24, 25, 26, 27, 28, 29, 30, 31, 32, 33, 34, 35, 36, 37, 38, 39, 40, 41, 43] rfl) (i := 30) rfl (by kernel_rfl) (by kernel_rfl : (pbits 32 1073741823).setIfInBounds 30 true = pbits 32 2147483647) si_U (fun _ _ _ h => h) (wanted_yes rfl rfl (T.ev 6 rfl) rfl) rfl rfl rfl (fun _ _ _ _ _ => (rn_neqof (rn_not rfl (T.ev 0 rfl)) (by simp))) ?_; clear T ac; intro ac T
    refine g_q (T := T) (i := 31) rfl (by kernel_rfl) (by kernel_rfl : (pbits 32 2147483647).setIfInBounds 31 true = pbits 32 4294967295) si_U (fun _ _ _ h => h) rfl rfl rfl rfl (fun _ _ _ _ _ => (rn_pick0 rfl (T.ev 7 rfl) rfl (T.ev 0 rfl))) ?_; clear T ac; intro ac T
    refine g_done (by kernel_rfl) ?_
    replace T := T.pick [0, 1, 2, 3, 4, 5, 6, 7, 10, 11, 12, 15, 16, 17, 20, 21, 22, 25, 26, 27, 43, 44] rfl
    replace M := M.mask [false, true] rfl
    refine nm_then ?_
    refine wp_cond_false (T.ev 0 rfl) ?_
    refine wp_skip ?_
    refine nm_blk ?_
    refine nm_then ?_
    refine wp_region_lit ?_
    refine l_q T rfl rfl rfl rfl (rn_move rfl (T.ev 20 rfl)) ?_; clear T ac; intro ac T
    refine l_q (v := (.int .i64 2)) T rfl rfl rfl rfl (rn_ofI (rn_add rfl (T.ev 0 rfl) evc (by omega)) (by rfl)) ?_; clear T ac; intro ac T
    refine l_q (v := (.int .i64 2)) (T.pick [0, 1, 2, 3, 4, 5, 6, 7, 8, 9, 10, 11, 12, 13, 14, 15, 16, 17, 18, 19, 20, 21, 23] rfl) rfl rfl rfl rfl (rn_assign rfl (T.ev 0 rfl)) ?_; clear T ac; intro ac T
    refine wpList_nil ?_
    replace T := T.pick [0, 4, 5, 6, 7, 8, 9, 10, 11, 12, 13, 14, 15, 16, 17, 18, 19, 20, 21, 22, 23] rfl
    refine nm_then ?_
    refine rounds_S ?_
    refine wp_seq ?_
    refine wp_seq ?_
    refine wp_region_lit ?_
    refine l_q T rfl rfl rfl rfl (rn_move rfl (T.ev 0 rfl)) ?_; clear T ac; intro ac T
    refine l_q T rfl rfl rfl rfl (rn_move rfl (T.ev 21 rfl)) ?_; clear T ac; intro ac T
    refine l_q (v := (.int .i64 3)) T rfl rfl rfl rfl (rn_lenS rfl Try.underlying36 (T.ev 0 rfl)) ?_; clear T ac; intro ac T
    refine l_q (v := (.bool true)) T rfl rfl rfl rfl (rn_neqof (rn_lss rfl (T.ev 2 rfl) (T.ev 0 rfl)) (by simp)) ?_; clear T ac; intro ac T
    refine wpList_nil ?_
    replace T := T.pick [0, 4, 5, 6, 7, 8, 9, 10, 11, 12, 13, 14, 15, 16, 17, 18, 19, 20, 21, 22, 23, 24] rfl
    refine nm_then ?_
    refine wp_cond_true (T.ev 0 rfl) ?_
    refine wp_skip ?_
    refine nm_then ?_
    refine wp_seq ?_
    refine wp_block ?_
    refine wp_seq ?_
    refine wp_region_lit ?_
    refine l_q T rfl rfl rfl rfl (rn_move rfl (T.ev 21 rfl)) ?_; clear T ac; intro ac T
    refine l_q T rfl rfl rfl rfl (rn_move rfl (T.ev 2 rfl)) ?_; clear T ac; intro ac T
    refine l_q (v := (.pointer (some ⟨g2, 36, none⟩))) T rfl rfl rfl rfl (rn_indexAddr (size := 18) 2 rfl (T.ev 1 rfl) (T.ev 0 rfl) ⟨_, Try.underlying36, by kernel_rfl⟩ rfl (by decide) rfl) ?_; clear T ac; intro ac T
    refine l_q (v := (.agg #[.int .i64 ju5.p0, .int .i64 ju5.p1, .int .i64 ju5.t0, .int .i64 ju5.t1, .int .i64 ju5.r0, .int .i64 ju5.r1, .int .i64 ju5.u0, .int .i64 ju5.u1, .int .i64 ju5.d0, .int .i64 ju5.d1, .int .i64 ju5.a0, .int .i64 ju5.a1, .int .i64 ju5.b0, .int .i64 ju5.b1, .int .i64 ju5.le, .slice Au5 ju5.sh.length cu5, .int .i64 ju5.wi, .int .i64 ju5.me])) T rfl rfl rfl rfl (rn_row (Mem.nth M 0 rfl) rfl (T.ev 0 rfl) rfl rfl) ?_; clear T ac; intro ac T
    refine l_w rfl ?_; intro K hK
    refine ow_call (first := []) (cap := []) T rfl rfl rfl rfl evf (.cons (T.ev 0 rfl) .nil) Try.func18 rfl rfl ?_
    refine Calls.mono (copyJob_any ju5 _ _ _ (Su5.rd M (.cons _ (List.Sublist.trans (List.Sublist.trans (List.sublist_append_right _ _) (List.sublist_append_left _ _)) (List.sublist_append_left _ _)))) (by first | omega | (dsimp only [Jb.one]; omega))) ?_
    clear T
    rintro e wc ⟨Au18, cu18, Iu18, rfl, hsnu18, N⟩
    intro ac T
    obtain ⟨bu18, ou18, Su18⟩ := hsnu18.sp (w := w) (ex := noEx) (rc_length _)
    replace M := (M.join N).swapI
    replace M := M.mask [true] rfl
    clear N hsnu18
    refine sh_out hK _ _ ?_; clear hK K
    refine l_w rfl ?_; intro K hK
    refine ow_al M T rfl rfl rfl rfl ?_; clear M T; intro g5 wc ac M T
    refine sh_out hK _ _ ?_; clear hK K
    refine l_w rfl ?_; intro K hK
    refine ow_st [.int .i64 ju5.p0, .int .i64 ju5.p1, .int .i64 ju5.t0, .int .i64 ju5.t1, .int .i64 ju5.r0, .int .i64 ju5.r1, .int .i64 ju5.u0, .int .i64 ju5.u1, .int .i64 ju5.d0, .int .i64 ju5.d1, .int .i64 ju5.a0, .int .i64 ju5.a1, .int .i64 ju5.b0, .int .i64 ju5.b1, .int .i64 ju5.le, .slice Au18 ju5.sh.length cu18, .int .i64 ju5.wi, .int .i64 ju5.me] M T rfl rfl (T.ev 0 rfl) (T.ev 1 rfl) rfl .head rfl rfl rfl (by kernel_rfl) ?_; clear M T; intro wc ac M T
    refine sh_out hK _ _ ?_; clear hK K
    refine wpList_nil ?_
    replace T := T.pick [0, 7, 8, 9, 10, 11, 12, 13, 14, 15, 16, 17, 18, 19, 20, 21, 22, 23, 24, 25, 26, 27] rfl
    refine nm_then ?_
    refine wp_seq ?_
    refine wp_region_lit ?_
    refine l_q (v := (.agg #[.int .i64 ju5.p0, .int .i64 ju5.p1, .int .i64 ju5.t0, .int .i64 ju5.t1, .int .i64 ju5.r0, .int .i64 ju5.r1, .int .i64 ju5.u0, .int .i64 ju5.u1, .int .i64 ju5.d0, .int .i64 ju5.d1, .int .i64 ju5.a0, .int .i64 ju5.a1, .int .i64 ju5.b0, .int .i64 ju5.b1, .int .i64 ju5.le, .slice Au18 ju5.sh.length cu18, .int .i64 ju5.wi, .int .i64 ju5.me])) T rfl rfl rfl rfl (rn_row (Mem.nth M 0 rfl) rfl (T.ev 0 rfl) rfl rfl) ?_; clear T ac; intro ac T
    refine l_w rfl ?_; intro K hK
    refine ow_call (first := []) (cap := []) T rfl rfl rfl rfl evf (.cons (T.ev 0 rfl) .nil) Try.func24 rfl rfl ?_
    refine Calls.mono (Guided_any ju5 _ _ _ (Su18.rd M (.cons _ (.cons _ (List.sublist_append_right _ _)))) (by first | omega | (dsimp only [Jb.one]; omega))) ?_
    clear T
    rintro e wc ⟨rfl, hb⟩
    intro ac T
    replace M := M.call hb; clear hb
    refine sh_out hK _ _ ?_; clear hK K
    refine l_q T rfl rfl rfl rfl (rn_move rfl (T.ev 0 rfl)) ?_; clear T ac; intro ac T
    refine l_q T rfl rfl rfl rfl (rn_extract rfl (T.ev 0 rfl) rfl) ?_; clear T ac; intro ac T
    refine l_q T rfl rfl rfl rfl (rn_extract rfl (T.ev 1 rfl) rfl) ?_; clear T ac; intro ac T
    refine l_q T rfl rfl rfl rfl (rn_assign rfl (T.ev 1 rfl)) ?_; clear T ac; intro ac T
    refine l_q T rfl rfl rfl rfl (rn_assign rfl (T.ev 1 rfl)) ?_; clear T ac; intro ac T
    refine wpList_nil ?_
    replace T := T.pick [0, 1, 7, 8, 9, 10, 11, 12, 13, 14, 15, 16, 17, 18, 19, 20, 21, 22, 23, 24, 25, 26, 27, 28] rfl
    refine nm_then ?_
    refine wp_seq ?_
    refine wp_region_lit ?_
    refine l_q T rfl rfl rfl rfl (rn_move rfl (T.ev 23 rfl)) ?_; clear T ac; intro ac T
    refine l_q T rfl rfl rfl rfl (rn_move rfl (T.ev 4 rfl)) ?_; clear T ac; intro ac T
    refine l_q (v := (.pointer (some ⟨g2, 36, none⟩))) T rfl rfl rfl rfl (rn_indexAddr (size := 18) 2 rfl (T.ev 1 rfl) (T.ev 0 rfl) ⟨_, Try.underlying36, by kernel_rfl⟩ rfl (by decide) rfl) ?_; clear T ac; intro ac T
    refine l_q (v := (.agg #[.int .i64 ju5.p0, .int .i64 ju5.p1, .int .i64 ju5.t0, .int .i64 ju5.t1, .int .i64 ju5.r0, .int .i64 ju5.r1, .int .i64 ju5.u0, .int .i64 ju5.u1, .int .i64 ju5.d0, .int .i64 ju5.d1, .int .i64 ju5.a0, .int .i64 ju5.a1, .int .i64 ju5.b0, .int .i64 ju5.b1, .int .i64 ju5.le, .slice Au5 ju5.sh.length cu5, .int .i64 ju5.wi, .int .i64 ju5.me])) T rfl rfl rfl rfl (rn_row (Mem.nth M 1 rfl) rfl (T.ev 0 rfl) rfl rfl) ?_; clear T ac; intro ac T
    refine l_w rfl ?_; intro K hK
    refine ow_call (first := []) (cap := []) T rfl rfl rfl rfl evf (.cons (T.ev 0 rfl) .nil) Try.func25 rfl rfl ?_
    refine Calls.mono (rGuided_any ju5 _ _ _ (Su5.rd M (.cons _ (.cons _ (List.Sublist.trans (List.Sublist.trans (List.Sublist.trans (List.sublist_append_right _ _) (List.sublist_append_left _ _)) (List.sublist_append_left _ _)) (List.sublist_append_left _ _))))) (by omega)) ?_
    clear T
    rintro e wc ⟨rfl, hb⟩
    intro ac T
    replace M := M.call hb; clear hb
    refine sh_out hK _ _ ?_; clear hK K
    refine l_q T rfl rfl rfl rfl (rn_move rfl (T.ev 0 rfl)) ?_; clear T ac; intro ac T
    refine l_q T rfl rfl rfl rfl (rn_extract rfl (T.ev 0 rfl) rfl) ?_; clear T ac; intro ac T
    refine l_q T rfl rfl rfl rfl (rn_extract rfl (T.ev 1 rfl) rfl) ?_; clear T ac; intro ac T
    refine l_q T rfl rfl rfl rfl (rn_assign rfl (T.ev 1 rfl)) ?_; clear T ac; intro ac T
    refine l_q T rfl rfl rfl rfl (rn_assign rfl (T.ev 1 rfl)) ?_; clear T ac; intro ac T
    refine wpList_nil ?_
    replace T := T.pick [0, 1, 10, 11, 12, 13, 14, 15, 16, 17, 18, 19, 20, 21, 22, 23, 24, 25, 26, 27, 28, 29, 30, 31, 32, 33] rfl
    refine nm_then ?_
    refine wp_seq ?_
    refine wp_region_lit ?_
    refine l_q (v := (.agg #[.int .i64 ju5.p0, .int .i64 ju5.p1, .int .i64 ju5.t0, .int .i64 ju5.t1, .int .i64 ju5.r0, .int .i64 ju5.r1, .int .i64 ju5.u0, .int .i64 ju5.u1, .int .i64 ju5.d0, .int .i64 ju5.d1, .int .i64 ju5.a0, .int .i64 ju5.a1, .int .i64 ju5.b0, .int .i64 ju5.b1, .int .i64 ju5.le, .slice Au18 ju5.sh.length cu18, .int .i64 ju5.wi, .int .i64 ju5.me])) T rfl rfl rfl rfl (rn_row (Mem.nth M 0 rfl) rfl (T.ev 4 rfl) rfl rfl) ?_; clear T ac; intro ac T
    refine l_w rfl ?_; intro K hK
    refine ow_call (first := []) (cap := []) T rfl rfl rfl rfl evf (.cons (T.ev 0 rfl) .nil) Try.func26 rfl rfl ?_
    refine Calls.mono (Next_any ju5 _ _ _ (Su18.rd M (.cons _ (.cons _ (List.sublist_append_right _ _)))) (by first | omega | (dsimp only [Jb.one]; omega))) ?_
    clear T
    rintro e wc ⟨rfl, hb⟩
    intro ac T
    replace M := M.call hb; clear hb
    refine sh_out hK _ _ ?_; clear hK K
    refine l_q T rfl rfl rfl rfl (rn_move rfl (T.ev 0 rfl)) ?_; clear T ac; intro ac T
    refine l_q T rfl rfl rfl rfl (rn_extract rfl (T.ev 0 rfl) rfl) ?_; clear T ac; intro ac T
    refine l_q T rfl rfl rfl rfl (rn_extract rfl (T.ev 1 rfl) rfl) ?_; clear T ac; intro ac T
    refine l_q T rfl rfl rfl rfl (rn_extract rfl (T.ev 2 rfl) rfl) ?_; clear T ac; intro ac T
    refine l_q T rfl rfl rfl rfl (rn_assign rfl (T.ev 2 rfl)) ?_; clear T ac; intro ac T
    refine l_q T rfl rfl rfl rfl (rn_assign rfl (T.ev 2 rfl)) ?_; clear T ac; intro ac T
    refine l_q T rfl rfl rfl rfl (rn_assign rfl (T.ev 2 rfl)) ?_; clear T ac; intro ac T
    refine wpList_nil ?_
    replace T := T.pick [0, 1, 2, 9, 10, 11, 12, 13, 14, 15, 16, 17, 18, 19, 20, 21, 22, 23, 24, 25, 26, 27, 28, 29, 30, 31, 32, 33, 34] rfl
    refine nm_then ?_
    refine wp_seq ?_
    refine wp_region_lit ?_
    refine l_q T rfl rfl rfl rfl (rn_move rfl (T.ev 28 rfl)) ?_; clear T ac; intro ac T
    refine l_q T rfl rfl rfl rfl (rn_move rfl (T.ev 9 rfl)) ?_; clear T ac; intro ac T
    refine l_q (v := (.pointer (some ⟨g2, 36, none⟩))) T rfl rfl rfl rfl (rn_indexAddr (size := 18) 2 rfl (T.ev 1 rfl) (T.ev 0 rfl) ⟨_, Try.underlying36, by kernel_rfl⟩ rfl (by decide) rfl) ?_; clear T ac; intro ac T
    refine l_q (v := (.agg #[.int .i64 ju5.p0, .int .i64 ju5.p1, .int .i64 ju5.t0, .int .i64 ju5.t1, .int .i64 ju5.r0, .int .i64 ju5.r1, .int .i64 ju5.u0, .int .i64 ju5.u1, .int .i64 ju5.d0, .int .i64 ju5.d1, .int .i64 ju5.a0, .int .i64 ju5.a1, .int .i64 ju5.b0, .int .i64 ju5.b1, .int .i64 ju5.le, .slice Au5 ju5.sh.length cu5, .int .i64 ju5.wi, .int .i64 ju5.me])) T rfl rfl rfl rfl (rn_row (Mem.nth M 1 rfl) rfl (T.ev 0 rfl) rfl rfl) ?_; clear T ac; intro ac T
    refine l_w rfl ?_; intro K hK
    refine ow_call (first := []) (cap := []) T rfl rfl rfl rfl evf (.cons (T.ev 0 rfl) .nil) Try.func27 rfl rfl ?_
    refine Calls.mono (rNext_any ju5 _ _ _ (Su5.rd M (.cons _ (.cons _ (List.Sublist.trans (List.Sublist.trans (List.Sublist.trans (List.sublist_append_right _ _) (List.sublist_append_left _ _)) (List.sublist_append_left _ _)) (List.sublist_append_left _ _))))) (by omega)) ?_
    clear T
    rintro e wc ⟨rfl, hb⟩
    intro ac T
    replace M := M.call hb; clear hb
    refine sh_out hK _ _ ?_; clear hK K
    refine l_q T rfl rfl rfl rfl (rn_move rfl (T.ev 0 rfl)) ?_; clear T ac; intro ac T
    refine l_q T rfl rfl rfl rfl (rn_extract rfl (T.ev 0 rfl) rfl) ?_; clear T ac; intro ac T
    refine l_q T rfl rfl rfl rfl (rn_extract rfl (T.ev 1 rfl) rfl) ?_; clear T ac; intro ac T
    refine l_q T rfl rfl rfl rfl (rn_extract rfl (T.ev 2 rfl) rfl) ?_; clear T ac; intro ac T
    refine l_q T rfl rfl rfl rfl (rn_assign rfl (T.ev 2 rfl)) ?_; clear T ac; intro ac T
    refine l_q T rfl rfl rfl rfl (rn_assign rfl (T.ev 2 rfl)) ?_; clear T ac; intro ac T
    refine l_q T rfl rfl rfl rfl (rn_assign rfl (T.ev 2 rfl)) ?_; clear T ac; intro ac T
    refine wpList_nil ?_
    replace T := T.pick [0, 1, 2, 12, 13, 14, 15, 16, 17, 18, 19, 20, 21, 22, 23, 24, 25, 26, 27, 28, 29, 30, 31, 32, 33, 34, 35, 36, 37, 38, 39, 40] rfl
    refine nm_then ?_
    refine wp_seq ?_
    refine g_start2 M (M.mask [true, true] rfl) 32 (by kernel_rfl) rfl (by kernel_rfl) ?_
    clear M; intro wc M
    refine g_q (T := T) (i := 0) rfl (by kernel_rfl) (by kernel_rfl : (pbits 32 0).setIfInBounds 0 true = pbits 32 1) si_U (fun _ _ _ h => h) rfl rfl rfl rfl (fun _ _ _ _ _ => (rn_move rfl (T.ev 9 rfl))) ?_; clear T ac; intro ac T
    refine g_q (T := T) (i := 1) rfl (by kernel_rfl) (by kernel_rfl : (pbits 32 1).setIfInBounds 1 true = pbits 32 3) si_U (fun _ _ _ h => h) rfl rfl rfl rfl (fun _ _ _ _ _ => (rn_move rfl (T.ev 8 rfl))) ?_; clear T ac; intro ac T
    refine g_q (v := (.bool false)) (T := T) (i := 2) rfl (by kernel_rfl) (by kernel_rfl : (pbits 32 3).setIfInBounds 2 true = pbits 32 7) si_U (fun _ _ _ h => h) rfl rfl rfl rfl (fun _ _ _ _ _ => (rn_neqof (rn_neq rfl (T.ev 1 rfl) (T.ev 0 rfl)) (by simp))) ?_; clear T ac; intro ac T
    refine g_q (T := T) (i := 3) rfl (by kernel_rfl) (by kernel_rfl : (pbits 32 7).setIfInBounds 3 true = pbits 32 15) si_U (fun _ _ _ h => h) rfl rfl rfl rfl (fun _ _ _ _ _ => (rn_move rfl (T.ev 0 rfl))) ?_; clear T ac; intro ac T
    refine g_q (v := (.int .i64 ((guidedJ ju5).2))) (T := T.pick [0, 1, 2, 3, 4, 5, 6, 7, 8, 9, 10, 11, 12, 13, 14, 15, 16, 17, 18, 19, 20, 21, 22, 23, 24, 25, 26, 27, 28, 29, 30, 31, 32, 33, 35] rfl) (i := 4) rfl (by kernel_rfl) (by kernel_rfl : (pbits 32 15).setIfInBounds 4 true = pbits 32 31) si_U (fun _ _ _ h => h) (wanted_yes rfl rfl (T.ev 0 rfl) rfl) rfl rfl rfl (fun _ _ _ _ _ => (rn_move rfl (T.ev 12 rfl))) ?_; clear T ac; intro ac T
    refine g_q (v := (.int .i64 ((guidedJ ju5).2))) (T := T.pick [0, 1, 2, 3, 4, 5, 6, 7, 8, 9, 10, 11, 12, 13, 14, 15, 16, 17, 18, 19, 20, 21, 22, 23, 24, 25, 26, 27, 28, 29, 30, 31, 32, 33, 35] rfl) (i := 5) rfl (by kernel_rfl) (by kernel_rfl : (pbits 32 31).setIfInBounds 5 true = pbits 32 63) si_U (fun _ _ _ h => h) (wanted_yes rfl rfl (T.ev 1 rfl) rfl) rfl rfl rfl (fun _ _ _ _ _ => (rn_move rfl (T.ev 11 rfl))) ?_; clear T ac; intro ac T
    refine g_q (v := (.bool false)) (T := T.pick [0, 1, 2, 3, 4, 5, 6, 7, 8, 9, 10, 11, 12, 13, 14, 15, 16, 17, 18, 19, 20, 21, 22, 23, 24, 25, 26, 27, 28, 29, 30, 31, 32, 33, 35] rfl) (i := 6) rfl (by kernel_rfl) (by kernel_rfl : (pbits 32 63).setIfInBounds 6 true = pbits 32 127) si_U (fun _ _ _ h => h) (wanted_yes rfl rfl (T.ev 2 rfl) rfl) rfl rfl rfl (fun _ _ _ _ _ => (rn_neqof (rn_neq rfl (T.ev 1 rfl) (T.ev 0 rfl)) (by simp))) ?_; clear T ac; intro ac T
    refine g_q (T := T) (i := 7) rfl (by kernel_rfl) (by kernel_rfl : (pbits 32 127).setIfInBounds 7 true = pbits 32 255) si_U (fun _ _ _ h => h) rfl rfl rfl rfl (fun _ _ _ _ _ => (rn_pick0 rfl (T.ev 3 rfl) rfl (T.ev 0 rfl))) ?_; clear T ac; intro ac T
    refine g_q (T := T) (i := 8) rfl (by kernel_rfl) (by kernel_rfl : (pbits 32 255).setIfInBounds 8 true = pbits 32 511) si_U (fun _ _ _ h => h) rfl rfl rfl rfl (fun _ _ _ _ _ => (rn_move rfl (T.ev 0 rfl))) ?_; clear T ac; intro ac T
    refine g_q (v := (.int .i64 ((nextJ ju5).1))) (T := T.pick [0, 1, 2, 3, 4, 5, 6, 7, 8, 9, 10, 11, 12, 13, 14, 15, 16, 17, 18, 19, 20, 21, 22, 23, 24, 25, 26, 27, 28, 29, 30, 31, 32, 33, 34, 35, 37] rfl) (i := 9) rfl (by kernel_rfl) (by kernel_rfl : (pbits 32 511).setIfInBounds 9 true = pbits 32 1023) si_U (fun _ _ _ h => h) (wanted_yes rfl rfl (T.ev 0 rfl) rfl) rfl rfl rfl (fun _ _ _ _ _ => (rn_move rfl (T.ev 14 rfl))) ?_; clear T ac; intro ac T
    refine g_q (v := (.int .i64 ((nextJ ju5).1))) (T := T.pick [0, 1, 2, 3, 4, 5, 6, 7, 8, 9, 10, 11, 12, 13, 14, 15, 16, 17, 18, 19, 20, 21, 22, 23, 24, 25, 26, 27, 28, 29, 30, 31, 32, 33, 34, 35, 37] rfl) (i := 10) rfl (by kernel_rfl) (by kernel_rfl : (pbits 32 1023).setIfInBounds 10 true = pbits 32 2047) si_U (fun _ _ _ h => h) (wanted_yes rfl rfl (T.ev 1 rfl) rfl) rfl rfl rfl (fun _ _ _ _ _ => (rn_move rfl (T.ev 12 rfl))) ?_; clear T ac; intro ac T
    refine g_q (v := (.bool false)) (T := T.pick [0, 1, 2, 3, 4, 5, 6, 7, 8, 9, 10, 11, 12, 13, 14, 15, 16, 17, 18, 19, 20, 21, 22, 23, 24, 25, 26, 27, 28, 29, 30, 31, 32, 33, 34, 35, 37] rfl) (i := 11) rfl (by kernel_rfl) (by kernel_rfl : (pbits 32 2047).setIfInBounds 11 true = pbits 32 4095) si_U (fun _ _ _ h => h) (wanted_yes rfl rfl (T.ev 2 rfl) rfl) rfl rfl rfl (fun _ _ _ _ _ => (rn_neqof (rn_neq rfl (T.ev 1 rfl) (T.ev 0 rfl)) (by simp))) ?_; clear T ac; intro ac T
    refine g_q (T := T) (i := 12) rfl (by kernel_rfl) (by kernel_rfl : (pbits 32 4095).setIfInBounds 12 true = pbits 32 8191) si_U (fun _ _ _ h => h) rfl rfl rfl rfl (fun _ _ _ _ _ => (rn_pick0 rfl (T.ev 3 rfl) rfl (T.ev 0 rfl))) ?_; clear T ac; intro ac T
    refine g_q (T := T) (i := 13) rfl (by kernel_rfl) (by kernel_rfl : (pbits 32 8191).setIfInBounds 13 true = pbits 32 16383) si_U (fun _ _ _ h => h) rfl rfl rfl rfl (fun _ _ _ _ _ => (rn_move rfl (T.ev 0 rfl))) ?_; clear T ac; intro ac T
    refine g_q (v := (.int .i64 ((nextJ ju5).2.1))) (T := T.pick [0, 1, 2, 3, 4, 5, 6, 7, 8, 9, 10, 11, 12, 13, 14, 15, 16, 17, 18, 19, 20, 21, 22, 23, 24, 25, 26, 27, 28, 29, 30, 31, 32, 33, 34, 35, 36, 37, 39] rfl) (i := 14) rfl (by kernel_rfl) (by kernel_rfl : (pbits 32 16383).setIfInBounds 14 true = pbits 32 32767) si_U (fun _ _ _ h => h) (wanted_yes rfl rfl (T.ev 0 rfl) rfl) rfl rfl rfl (fun _ _ _ _ _ => (rn_move rfl (T.ev 18 rfl))) ?_; clear T ac; intro ac T
    refine g_q (v := (.int .i64 ((nextJ ju5).2.1))) (T := T.pick [0, 1, 2, 3, 4, 5, 6, 7, 8, 9, 10, 11, 12, 13, 14, 15, 16, 17, 18, 19, 20, 21, 22, 23, 24, 25, 26, 27, 28, 29, 30, 31, 32, 33, 34, 35, 36, 37, 39] rfl) (i := 15) rfl (by kernel_rfl) (by kernel_rfl : (pbits 32 32767).setIfInBounds 15 true = pbits 32 65535) si_U (fun _ _ _ h => h) (wanted_yes rfl rfl (T.ev 1 rfl) rfl) rfl rfl rfl (fun _ _ _ _ _ => (rn_move rfl (T.ev 16 rfl))) ?_; clear T ac; intro ac T
    refine g_q (v := (.bool false)) (T := T.pick [0, 1, 2, 3, 4, 5, 6, 7, 8, 9, 10, 11, 12, 13, 14, 15, 16, 17, 18, 19, 20, 21, 22, 23, 24, 25, 26, 27, 28, 29, 30, 31, 32, 33, 34, 35, 36, 37, 39] rfl) (i := 16) rfl (by kernel_rfl) (by kernel_rfl : (pbits 32 65535).setIfInBounds 16 true = pbits 32 131071) si_U (fun _ _ _ h => h) (wanted_yes rfl rfl (T.ev 2 rfl) rfl) rfl rfl rfl (fun _ _ _ _ _ => (rn_neqof (rn_neq rfl (T.ev 1 rfl) (T.ev 0 rfl)) (by simp))) ?_; clear T ac; intro ac T
    refine g_q (T := T) (i := 17) rfl (by kernel_rfl) (by kernel_rfl : (pbits 32 131071).setIfInBounds 17 true = pbits 32 262143) si_U (fun _ _ _ h => h) rfl rfl rfl rfl (fun _ _ _ _ _ => (rn_pick0 rfl (T.ev 3 rfl) rfl (T.ev 0 rfl))) ?_; clear T ac; intro ac T
    refine g_q (T := T) (i := 18) rfl (by kernel_rfl) (by kernel_rfl : (pbits 32 262143).setIfInBounds 18 true = pbits 32 524287) si_U (fun _ _ _ h => h) rfl rfl rfl rfl (fun _ _ _ _ _ => (rn_move rfl (T.ev 0 rfl))) ?_; clear T ac; intro ac T
    refine g_q (v := (.int .i64 ((nextJ ju5).2.2))) (T := T.pick [0, 1, 2, 3, 4, 5, 6, 7, 8, 9, 10, 11, 12, 13, 14, 15, 16, 17, 18, 19, 20, 21, 22, 23, 24, 25, 26, 27, 28, 29, 30, 31, 32, 33, 34, 35, 36, 37, 38, 39, 41] rfl) (i := 19) rfl (by kernel_rfl) (by kernel_rfl : (pbits 32 524287).setIfInBounds 19 true = pbits 32 1048575) si_U (fun _ _ _ h => h) (wanted_yes rfl rfl (T.ev 0 rfl) rfl) rfl rfl rfl (fun _ _ _ _ _ => (rn_move rfl (T.ev 22 rfl))) ?_; clear T ac; intro ac T
    refine g_q (v := (.int .i64 ((nextJ ju5).2.2))) (T := T.pick [0, 1, 2, 3, 4, 5, 6, 7, 8, 9, 10, 11, 12, 13, 14, 15, 16, 17, 18, 19, 20, 21, 22, 23, 24, 25, 26, 27, 28, 29, 30, 31, 32, 33, 34, 35, 36, 37, 38, 39, 41] rfl) (i := 20) rfl (by kernel_rfl) (by kernel_rfl : (pbits 32 1048575).setIfInBounds 20 true = pbits 32 2097151) si_U (fun _ _ _ h => h) (wanted_yes rfl rfl (T.ev 1 rfl) rfl) rfl rfl rfl (fun _ _ _ _ _ => (rn_move rfl (T.ev 20 rfl))) ?_; clear T ac; intro ac T
    refine g_q (v := (.bool false)) (T := T.pick [0, 1, 2, 3, 4, 5, 6, 7, 8, 9, 10, 11, 12, 13, 14, 15, 16, 17, 18, 19, 20, 21, 22, 23, 24, 25, 26, 27, 28, 29, 30, 31, 32, 33, 34, 35, 36, 37, 38, 39, 41] rfl) (i := 21) rfl (by kernel_rfl) (by kernel_rfl : (pbits 32 2097151).setIfInBounds 21 true = pbits 32 4194303) si_U (fun _ _ _ h => h) (wanted_yes rfl rfl (T.ev 2 rfl) rfl) rfl rfl rfl (fun _ _ _ _ _ => (rn_neqof (rn_neq rfl (T.ev 1 rfl) (T.ev 0 rfl)) (by simp))) ?_; clear T ac; intro ac T
    refine g_q (T := T) (i := 22) rfl (by kernel_rfl) (by kernel_rfl : (pbits 32 4194303).setIfInBounds 22 true = pbits 32 8388607) si_U (fun _ _ _ h => h) rfl rfl rfl rfl (fun _ _ _ _ _ => (rn_pick0 rfl (T.ev 3 rfl) rfl (T.ev 0 rfl))) ?_; clear T ac; intro ac T
    refine g_q (T := T) (i := 23) rfl (by kernel_rfl) (by kernel_rfl : (pbits 32 8388607).setIfInBounds 23 true = pbits 32 16777215) si_U (fun _ _ _ h => h) rfl rfl rfl rfl (fun _ _ _ _ _ => (rn_move rfl (T.ev 0 rfl))) ?_; clear T ac; intro ac T
    refine g_q (v := (.agg #[.int .i64 ju5.p0, .int .i64 ju5.p1, .int .i64 ju5.t0, .int .i64 ju5.t1, .int .i64 ju5.r0, .int .i64 ju5.r1, .int .i64 ju5.u0, .int .i64 ju5.u1, .int .i64 ju5.d0, .int .i64 ju5.d1, .int .i64 ju5.a0, .int .i64 ju5.a1, .int .i64 ju5.b0, .int .i64 ju5.b1, .int .i64 ju5.le, .slice Au18 ju5.sh.length cu18, .int .i64 ju5.wi, .int .i64 ju5.me])) (T := T.pick [0, 1, 2, 3, 4, 5, 6, 7, 8, 9, 10, 11, 12, 13, 14, 15, 16, 17, 18, 19, 20, 21, 22, 23, 24, 25, 26, 27, 28, 29, 30, 31, 32, 33, 34, 35, 36, 37, 38, 39, 40, 41, 43] rfl) (i := 24) rfl (by kernel_rfl) (by kernel_rfl : (pbits 32 16777215).setIfInBounds 24 true = pbits 32 33554431) si_U (fun _ _ _ h => h) (wanted_yes rfl rfl (T.ev 0 rfl) rfl) rfl rfl rfl (fun B w' hD hl hS => (rn_row (Mem.nth (show Mem w noEx w' _ from hS) 0 rfl) rfl (T.ev 34 rfl) rfl rfl)) ?_; clear T ac; intro ac T
    refine g_q (v := (.slice (some ⟨g2, 0, none⟩) 3 3)) (T := T.pick [0, 1, 2, 3, 4, 5, 6, 7, 8, 9, 10, 11, 12, 13, 14, 15, 16, 17, 18, 19, 20, 21, 22, 23, 24, 25, 26, 27, 28, 29, 30, 31, 32, 33, 34, 35, 36, 37, 38, 39, 40, 41, 43] rfl) (i := 25) rfl (by kernel_rfl) (by kernel_rfl : (pbits 32 33554431).setIfInBounds 25 true = pbits 32 67108863) si_U (fun _ _ _ h => h) (wanted_yes rfl rfl (T.ev 1 rfl) rfl) rfl rfl rfl (fun _ _ _ _ _ => (rn_move rfl (T.ev 43 rfl))) ?_; clear T ac; intro ac T
    refine g_q (v := (.int .i64 2)) (T := T.pick [0, 1, 2, 3, 4, 5, 6, 7, 8, 9, 10, 11, 12, 13, 14, 15, 16, 17, 18, 19, 20, 21, 22, 23, 24, 25, 26, 27, 28, 29, 30, 31, 32, 33, 34, 35, 36, 37, 38, 39, 40, 41, 43] rfl) (i := 26) rfl (by kernel_rfl) (by kernel_rfl : (pbits 32 67108863).setIfInBounds 26 true = pbits 32 134217727) si_U (fun _ _ _ h => h) (wanted_yes rfl rfl (T.ev 2 rfl) rfl) rfl rfl rfl (fun _ _ _ _ _ => (rn_move rfl (T.ev 37 rfl))) ?_; clear T ac; intro ac T
    refine g_q (v := (.pointer (some ⟨g2, 36, none⟩))) (T := T.pick [0, 1, 2, 3, 4, 5, 6, 7, 8, 9, 10, 11, 12, 13, 14, 15, 16, 17, 18, 19, 20, 21, 22, 23, 24, 25, 26, 27, 28, 29, 30, 31, 32, 33, 34, 35, 36, 37, 38, 39, 40, 41, 43] rfl) (i := 27) rfl (by kernel_rfl) (by kernel_rfl : (pbits 32 134217727).setIfInBounds 27 true = pbits 32 268435455) si_U (fun _ _ _ h => h) (wanted_yes rfl rfl (T.ev 3 rfl) rfl) rfl rfl rfl (fun _ _ _ _ _ => (rn_indexAddr (size := 18) 2 rfl (T.ev 1 rfl) (T.ev 0 rfl) ⟨_, Try.underlying36, by kernel_rfl⟩ rfl (by decide) rfl)) ?_; clear T ac; intro ac T
    refine g_q (v := (.agg #[.int .i64 ju5.p0, .int .i64 ju5.p1, .int .i64 ju5.t0, .int .i64 ju5.t1, .int .i64 ju5.r0, .int .i64 ju5.r1, .int .i64 ju5.u0, .int .i64 ju5.u1, .int .i64 ju5.d0, .int .i64 ju5.d1, .int .i64 ju5.a0, .int .i64 ju5.a1, .int .i64 ju5.b0, .int .i64 ju5.b1, .int .i64 ju5.le, .slice Au5 ju5.sh.length cu5, .int .i64 ju5.wi, .int .i64 ju5.me])) (T := T.pick [0, 1, 2, 3, 4, 5, 6, 7, 8, 9, 10, 11, 12, 13, 14, 15, 16, 17, 18, 19, 20, 21, 22, 23, 24, 25, 26, 27, 28, 29, 30, 31, 32, 33, 34, 35, 36, 37, 38, 39, 40, 41, 43] rfl) (i := 28) rfl (by kernel_rfl) (by kernel_rfl : (pbits 32 268435455).setIfInBounds 28 true = pbits 32 536870911) si_U (fun _ _ _ h => h) (wanted_yes rfl rfl (T.ev 4 rfl) rfl) rfl rfl rfl (fun B w' hD hl hS => (rn_row (Mem.nth (show Mem w noEx w' _ from hS) 1 rfl) rfl (T.ev 0 rfl) rfl rfl)) ?_; clear T ac; intro ac T
    refine g_w (i := 29) (by kernel_rfl) rfl (by kernel_rfl : (pbits 32 536870911).setIfInBounds 29 true = pbits 32 1073741823) (wanted_yes rfl rfl (T.ev 5 rfl) rfl) ?_; intro K hK
    replace T := T.pick [0, 1, 2, 3, 4, 5, 6, 7, 8, 9, 10, 11, 12, 13, 14, 15, 16, 17, 18, 19, 20, 21, 22, 23, 24, 25, 26, 27, 28, 29, 30, 31, 32, 33, 34, 35, 36, 37, 38, 39, 40, 41, 43] rfl
    refine ow_call (first := []) (cap := []) T rfl rfl rfl rfl evf (.cons (T.ev 4 rfl) (.cons (T.ev 0 rfl) .nil)) Try.func22 rfl rfl ?_
    refine Calls.mono (sameJobs_same ju5 _ _ _ _ _ (Su18.rd M (.cons _ (.cons _ (List.sublist_append_right _ _)))) (Su5.rd M (.cons _ (.cons _ (List.Sublist.trans (List.Sublist.trans (List.Sublist.trans (List.sublist_append_right _ _) (List.sublist_append_left _ _)) (List.sublist_append_left _ _)) (List.sublist_append_left _ _))))) (by omega)) ?_
    clear T
    rintro e wc ⟨rfl, hb⟩
    intro ac T
    replace M := M.call hb; clear hb
    refine sh_out hK _ _ (M.mask [true, true] rfl) ?_; clear hK K
    refine g_q (v := (.bool false)) (T := T.pick [0, 1, 2, 3, 4, 5, 6, 7, 8, 9, 10, 11, 12, 13, 14, 15, 16, 17, 18, 19, 20, 21, 22, 23, 24, 25, 26, 27, 28, 29, 30, 31, 32, 33, 34, 35, 36, 37, 38, 39, 40, 41, 43] rfl) (i := 30) rfl (by kernel_rfl) (by kernel_rfl : (pbits 32 1073741823).setIfInBounds 30 true = pbits 32 2147483647) si_U (fun _ _ _ h => h) (wanted_yes rfl rfl (T.ev 6 rfl) rfl) rfl rfl rfl (fun _ _ _ _ _ => (rn_neqof (rn_not rfl (T.ev 0 rfl)) (by simp))) ?_; clear T ac; intro ac T
    refine g_q (T := T) (i := 31) rfl (by kernel_rfl) (by kernel_rfl : (pbits 32 2147483647).setIfInBounds 31 true = pbits 32 4294967295) si_U (fun _ _ _ h => h) rfl rfl rfl rfl (fun _ _ _ _ _ => (rn_pick0 rfl (T.ev 7 rfl) rfl (T.ev 0 rfl))) ?_; clear T ac; intro ac T
    refine g_done (by kernel_rfl) ?_
    replace T := T.pick [0, 1, 2, 3, 4, 5, 6, 7, 10, 11, 12, 15, 16, 17, 20, 21, 22, 25, 26, 27, 43, 44] rfl
    replace M := M.mask [false, true] rfl
    refine nm_then ?_
    refine wp_cond_false (T.ev 0 rfl) ?_
    refine wp_skip ?_
    refine nm_blk ?_
    refine nm_then ?_
    refine wp_region_lit ?_
    refine l_q T rfl rfl rfl rfl (rn_move rfl (T.ev 20 rfl)) ?_; clear T ac; intro ac T
    refine l_q (v := (.int .i64 3)) T rfl rfl rfl rfl (rn_ofI (rn_add rfl (T.ev 0 rfl) evc (by omega)) (by rfl)) ?_; clear T ac; intro ac T
    refine l_q (v := (.int .i64 3)) (T.pick [0, 1, 2, 3, 4, 5, 6, 7, 8, 9, 10, 11, 12, 13, 14, 15, 16, 17, 18, 19, 20, 21, 23] rfl) rfl rfl rfl rfl (rn_assign rfl (T.ev 0 rfl)) ?_; clear T ac; intro ac T
    refine wpList_nil ?_
    replace T := T.pick [0, 4, 5, 6, 7, 8, 9, 10, 11, 12, 13, 14, 15, 16, 17, 18, 19, 20, 21, 22, 23] rfl
    refine nm_then ?_
    refine rounds_S ?_
    refine wp_seq ?_
    refine wp_seq ?_
    refine wp_region_lit ?_
    refine l_q T rfl rfl rfl rfl (rn_move rfl (T.ev 0 rfl)) ?_; clear T ac; intro ac T
    refine l_q T rfl rfl rfl rfl (rn_move rfl (T.ev 21 rfl)) ?_; clear T ac; intro ac T
    refine l_q (v := (.int .i64 3)) T rfl rfl rfl rfl (rn_lenS rfl Try.underlying36 (T.ev 0 rfl)) ?_; clear T ac; intro ac T
    refine l_q (v := (.bool false)) T rfl rfl rfl rfl (rn_neqof (rn_lss rfl (T.ev 2 rfl) (T.ev 0 rfl)) (by simp)) ?_; clear T ac; intro ac T
    refine wpList_nil ?_
    replace T := T.pick [0, 4, 5, 6, 7, 8, 9, 10, 11, 12, 13, 14, 15, 16, 17, 18, 19, 20, 21, 22, 23, 24] rfl
    refine nm_then ?_
    refine wp_cond_false (T.ev 0 rfl) ?_
    refine wp_exit ?_
    refine ex_then ?_
    refine ex_then ?_
    refine ex_hit ?_
    refine nm_then ?_
    refine wp_seq ?_
    refine wp_region_lit ?_
    refine l_w rfl ?_; intro K hK
    refine ow_call (first := []) (cap := []) T rfl rfl rfl rfl evf .nil Try.func15 rfl rfl ?_
    refine Calls.mono (tuned_any _) ?_
    clear T
    rintro e wc ⟨rfl, hb⟩
    intro ac T
    replace M := M.call hb; clear hb
    refine sh_out hK _ _ ?_; clear hK K
    refine l_q T rfl rfl rfl rfl (rn_assign rfl (T.ev 0 rfl)) ?_; clear T ac; intro ac T
    refine wpList_nil ?_
    replace T := T.pick [0] rfl
    replace M := M.mask [false] rfl
    refine nm_then ?_
    refine wp_ret ?_
    refine rt_1 T rfl (T.ev 0 rfl) ?_
    exact ⟨rfl, M.below⟩

end Go.Proofs.Ythlpceoajhcliaa
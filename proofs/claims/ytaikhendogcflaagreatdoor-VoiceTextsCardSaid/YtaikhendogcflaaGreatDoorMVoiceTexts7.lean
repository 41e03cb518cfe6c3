/-
  The law VoiceTexts, walked.
-/
import Derived.Test.YtaikhendogcflaaGreatDoorMVoiceTexts1
import Derived.Test.YtaikhendogcflaaGreatDoorMVoiceTexts2
import Derived.Test.YtaikhendogcflaaGreatDoorMVoiceTexts3
import Derived.Test.YtaikhendogcflaaGreatDoorMVoiceTexts4
import Derived.Test.YtaikhendogcflaaGreatDoorMVoiceTexts5
import Derived.Test.YtaikhendogcflaaGreatDoorMVoiceTexts6
namespace Go.Proofs.YtaikhendogcflaaGreatDoor
set_option linter.unusedSimpArgs false
set_option linter.unusedVariables false
open Go.RowKit
set_option maxRecDepth 100000 in
set_option maxHeartbeats 1000000 in
theorem VoiceTexts_any (b : Bx) (A : Option Addr) (c : Nat) (B : Option Addr) (d : Nat) (text : List UInt8) (D : Option Addr) (e n : Nat) (l : List Int) (x y : Int) (bb : UInt8) (w : World) (hA : Rd w w.heap.size 4 A b.lows.length (sc b.lows)) (hB : Rd w w.heap.size 4 B b.highs.length (sc b.highs)) (nA : b.lows.length ≤ 9223372036854775807) (nB : b.highs.length ≤ 9223372036854775807) (hl : Rd w w.heap.size 1 D n (ic l)) (hm : n ≤ 9223372036854775807) (hT : StrW w)  :
   Calls Tryz.prog 3 #[bxV b A c B d, sv text, .slice D n e, Zi x, Zi y, .int .u8 ((bb.toNat : Nat) : Int)] w fun e w' => e = .returned (.bool true) ∧ Below w.heap.size w w' := by
 have hlA := hA.len4
 have hlB := hB.len4
 obtain ⟨bA, oA, SA⟩ := Sp.old hA
 obtain ⟨bB, oB, SB⟩ := Sp.old hB
 have hll := hl.len1
 obtain ⟨bI, oI, SI⟩ := Sp.old hl
 refine Zpx noEx Tryz.func3 rfl 138 rfl [.agg #[Zi b.first, Zi b.step, Zi b.span, Zi b.press, Zi b.note, .slice A b.lows.length c, .slice B b.highs.length d, Zi b.t0, Zi b.t1, Zi b.r0, Zi b.r1, Zi b.u0, Zi b.u1, Zi b.d0, Zi b.d1, Zi b.a0, Zi b.a1, Zi b.b0, Zi b.b1, Zi b.le, Zi b.me], sv text, .slice D n e, Zi x, Zi y, .int .u8 ((bb.toNat : Nat) : Int)] rfl rfl (Mem.init w _) ?_
 intro ac wc T M
 refine Zsr ?_
 refine Zl2 ?_
 refine Zob M T rfl rfl rfl rfl (T.e 0 rfl) rfl ?_; clear M T; intro g1 wc ac M T
 refine lq T (Zra rfl evc) ?_; clear T ac; intro ac T
 replace T := T.pick [1, 3, 4, 5, 6, 7] rfl
 refine Zln ?_
 refine wp_seq ?_
 refine cut_seq (fun ac wc => Tm ac 138 [(1, sv text), (2, .slice D n e), (3, Zi x), (4, Zi y), (5, .int .u8 ((bb.toNat : Nat) : Int)), (6, Zj g1), (46, .bool ((decide (20 < ((b.lows.length : Nat) : Int))) || ((decide (20 < ((b.highs.length : Nat) : Int))) || ((decide (400 < ((text.length : Nat) : Int))) && (decide (((text.length : Nat) : Int) ≤ 500))))))] ∧ Mem w noEx wc [(g1, .cells (bxM b (.slice A b.lows.length c) (.slice B b.highs.length d)))]) ?_ ?_
 ·refine wp_region_lit ?_
  refine Zg5 (v1 := (.pointer (some ⟨g1, 5, none⟩))) T (Zq (Zrg 5 rfl (T.e 0 rfl))) rfl (Zo M 0 0 rfl rfl rfl rfl) rfl (Zl Tryz.underlying24 0 rfl rfl) rfl (fun _ T => Zq (rn_gtr rfl (T.e 0 rfl) evc)) rfl (Zm 0 rfl rfl) rfl ?_; clear T ac; intro ac T
  rcases Zx9 (decide (20 < ((b.lows.length : Nat) : Int))) with h1 | h1
  ·replace h1 := of_decide_eq_true h1
   refine Zg8 T (Zp (Zwn rfl rfl (T.e 0 rfl) (Zdt h1))) rfl (fun _ T => Zp (Zwn rfl rfl (T.e 1 rfl) (Zdt h1))) rfl (fun _ T => Zp (Zwn rfl rfl (T.e 2 rfl) (Zdt h1))) rfl (fun _ T => Zp (Zwn rfl rfl (T.e 3 rfl) (Zdt h1))) rfl (fun _ T => Zq (Zr1 rfl (T.e 4 rfl) (Zdt h1) evc)) rfl (Zm 0 rfl rfl) rfl (fun _ T => Zp (Zwn rfl rfl (T.e 0 rfl) rfl)) rfl (fun _ T => Zp (Zwn rfl rfl (T.e 1 rfl) rfl)) rfl ?_; clear T ac; intro ac T
   refine Zg7 T (Zp (Zwn rfl rfl (T.e 2 rfl) rfl)) rfl (fun _ T => Zp (Zwn rfl rfl (T.e 3 rfl) rfl)) rfl (fun _ T => Zp (Zwu rfl rfl (T.e 0 rfl))) rfl (fun _ T => Zp (Zwu rfl rfl (T.e 1 rfl))) rfl (fun _ T => Zp (Zwu rfl rfl (T.e 2 rfl))) rfl (fun _ T => Zp (Zwn rfl rfl (T.e 7 rfl) rfl)) rfl (fun _ T => Zq (Zr1 rfl (T.e 8 rfl) rfl evc)) rfl ?_; clear T ac; intro ac T
   refine wpList_nil ?_
   replace T := T.pick [0, 20, 21, 22, 23, 24, 25] rfl
   exact ⟨(T.pick (E' := [(1, sv text), (2, .slice D n e), (3, Zi x), (4, Zi y), (5, .int .u8 ((bb.toNat : Nat) : Int)), (6, Zj g1), (46, .bool true)]) [2, 3, 4, 5, 6, 1, 0] rfl).as (by (try rw [show (decide (20 < ((b.lows.length : Nat) : Int))) = true from (Zdt h1)]); (try rfl)), M.mask [true] rfl⟩
  replace h1 := of_decide_eq_false h1
  refine Zg6 (v1 := (.pointer (some ⟨g1, 6, none⟩))) T (Zw (Zwy rfl rfl (T.e 0 rfl) (Zdf h1)) (Zrg 6 rfl (T.e 5 rfl))) rfl (fun _ T => Zw (Zwy rfl rfl (T.e 1 rfl) (Zdf h1)) (Zro (Mem.nth M 0 rfl) rfl (T.e 0 rfl) rfl)) rfl (fun _ T => Zw (Zwy rfl rfl (T.e 2 rfl) (Zdf h1)) (Zrl rfl Tryz.underlying24 (T.e 0 rfl))) rfl (fun _ T => Zw (Zwy rfl rfl (T.e 3 rfl) (Zdf h1)) (rn_gtr rfl (T.e 0 rfl) evc)) rfl (fun _ T => Zq (Zr0 rfl (T.e 4 rfl) (Zdf h1) (T.e 0 rfl))) rfl (Zm 0 rfl rfl) rfl ?_; clear T ac; intro ac T
  rcases Zx9 (decide (20 < ((b.highs.length : Nat) : Int))) with h2 | h2
  ·replace h2 := of_decide_eq_true h2
   refine Zg8 T (Zp (Zwn rfl rfl (T.e 0 rfl) (Zdt h2))) rfl (fun _ T => Zp (Zwn rfl rfl (T.e 1 rfl) (Zdt h2))) rfl (fun _ T => Zp (Zwn rfl rfl (T.e 2 rfl) (Zdt h2))) rfl (fun _ T => Zp (Zwn rfl rfl (T.e 3 rfl) (Zdt h2))) rfl (fun _ T => Zp (Zwu rfl rfl (T.e 0 rfl))) rfl (fun _ T => Zp (Zwu rfl rfl (T.e 1 rfl))) rfl (fun _ T => Zp (Zwu rfl rfl (T.e 2 rfl))) rfl (fun _ T => Zp (Zwn rfl rfl (T.e 7 rfl) (Zdt h2))) rfl ?_; clear T ac; intro ac T
   refine lq T (Zr1 rfl (T.e 8 rfl) (Zdt h2) evc) ?_; clear T ac; intro ac T
   refine wpList_nil ?_
   replace T := T.pick [0, 20, 21, 22, 23, 24, 25] rfl
   exact ⟨(T.pick (E' := [(1, sv text), (2, .slice D n e), (3, Zi x), (4, Zi y), (5, .int .u8 ((bb.toNat : Nat) : Int)), (6, Zj g1), (46, .bool true)]) [2, 3, 4, 5, 6, 1, 0] rfl).as (by (try rw [show (decide (20 < ((b.lows.length : Nat) : Int))) = false from (Zdf h1)]); (try rw [show (decide (20 < ((b.highs.length : Nat) : Int))) = true from (Zdt h2)]); (try rfl)), M.mask [true] rfl⟩
  replace h2 := of_decide_eq_false h2
  refine Zg4 T (Zw (Zwy rfl rfl (T.e 0 rfl) (Zdf h2)) (Zrm rfl (T.e 12 rfl))) rfl (fun _ T => Zw (Zwy rfl rfl (T.e 1 rfl) (Zdf h2)) (rn_slen rfl Tryz.underlying9 (T.e 0 rfl))) rfl (fun _ T => Zw (Zwy rfl rfl (T.e 2 rfl) (Zdf h2)) (rn_gtr rfl (T.e 0 rfl) evc)) rfl (fun _ T => Zw (Zwy rfl rfl (T.e 3 rfl) (Zdf h2)) (Zrm rfl (T.e 0 rfl))) rfl ?_; clear T ac; intro ac T
  rcases Zx9 (decide (400 < ((text.length : Nat) : Int))) with h3 | h3
  ·replace h3 := of_decide_eq_true h3
   refine Zg5 T (Zw (Zwy rfl rfl (T.e 0 rfl) (Zdt h3)) (Zrm rfl (T.e 16 rfl))) rfl (fun _ T => Zw (Zwy rfl rfl (T.e 1 rfl) (Zdt h3)) (rn_slen rfl Tryz.underlying9 (T.e 0 rfl))) rfl (fun _ T => Zw (Zwy rfl rfl (T.e 2 rfl) (Zdt h3)) (rn_leq rfl (T.e 0 rfl) evc)) rfl (fun _ T => Zw (Zwy rfl rfl (T.e 7 rfl) (Zdf h2)) (Zr1 rfl (T.e 3 rfl) (Zdt h3) (T.e 0 rfl))) rfl (fun _ T => Zq (Zr0 rfl (T.e 8 rfl) (Zdf h2) (T.e 0 rfl))) rfl ?_; clear T ac; intro ac T
   refine wpList_nil ?_
   replace T := T.pick [0, 20, 21, 22, 23, 24, 25] rfl
   exact ⟨(T.pick (E' := [(1, sv text), (2, .slice D n e), (3, Zi x), (4, Zi y), (5, .int .u8 ((bb.toNat : Nat) : Int)), (6, Zj g1), (46, .bool (decide (((text.length : Nat) : Int) ≤ 500)))]) [2, 3, 4, 5, 6, 1, 0] rfl).as (by (try rw [show (decide (20 < ((b.lows.length : Nat) : Int))) = false from (Zdf h1)]); (try rw [show (decide (20 < ((b.highs.length : Nat) : Int))) = false from (Zdf h2)]); (try rw [show (decide (400 < ((text.length : Nat) : Int))) = true from (Zdt h3)]); (try rfl)), M.mask [true] rfl⟩
  replace h3 := of_decide_eq_false h3
  refine Zg5 T (Zp (Zwn rfl rfl (T.e 0 rfl) (Zdf h3))) rfl (fun _ T => Zp (Zwn rfl rfl (T.e 1 rfl) (Zdf h3))) rfl (fun _ T => Zp (Zwn rfl rfl (T.e 2 rfl) (Zdf h3))) rfl (fun _ T => Zw (Zwy rfl rfl (T.e 7 rfl) (Zdf h2)) (Zr0 rfl (T.e 3 rfl) (Zdf h3) evc)) rfl (fun _ T => Zq (Zr0 rfl (T.e 8 rfl) (Zdf h2) (T.e 0 rfl))) rfl ?_; clear T ac; intro ac T
  refine wpList_nil ?_
  replace T := T.pick [0, 20, 21, 22, 23, 24, 25] rfl
  exact ⟨(T.pick (E' := [(1, sv text), (2, .slice D n e), (3, Zi x), (4, Zi y), (5, .int .u8 ((bb.toNat : Nat) : Int)), (6, Zj g1), (46, .bool false)]) [2, 3, 4, 5, 6, 1, 0] rfl).as (by (try rw [show (decide (20 < ((b.lows.length : Nat) : Int))) = false from (Zdf h1)]); (try rw [show (decide (20 < ((b.highs.length : Nat) : Int))) = false from (Zdf h2)]); (try rw [show (decide (400 < ((text.length : Nat) : Int))) = false from (Zdf h3)]); (try rfl)), M.mask [true] rfl⟩
 clear T M
 rintro ac wc ⟨T, M⟩
 refine wp_cond_split (T.e 6 rfl) ?_ ?_
 ·intro h4
  (have h4' := h4; try simp only [Zb1, Zb2, Zb3, Zb4, Zb5, Zb6, Zb7] at h4')
  refine Zsr ?_
  refine Zl2 ?_
  refine Zod T rfl rfl rfl rfl evf .nil Tryz.func7 rfl rfl ?_
  refine Calls.mono (trembling_any _) ?_
  clear T; rintro e wc ⟨rfl, hb⟩ ac T
  replace M := M.call hb; clear hb
  refine lq T (Zra rfl (T.e 0 rfl)) ?_; clear T ac; intro ac T
  refine wpList_nil ?_
  replace T := T.pick [0] rfl
  replace M := M.mask [false] rfl
  refine Znr ?_
  refine Zrt ?_
  refine rt_1 T rfl (T.e 0 rfl) ?_
  exact ⟨rfl, M.below⟩
 intro h4
 (have h4' := h4; try simp only [Zb1, Zb2, Zb3, Zb4, Zb5, Zb6, Zb7] at h4')
 refine Zsk ?_
 refine wp_seq ?_
 refine Zgs M (M.mask [true] rfl) 9 (by kernel_rfl) rfl (by kernel_rfl) ?_
 clear M; intro wc M
 refine g_have (fun ac wc => ∃ (sur3_2 : Int), ∃ (bur3_3 : Bx), ∃ (Aur3_3 : Option Addr), ∃ (cur3_3 : Nat), ∃ (Bur3_3 : Option Addr), ∃ (dur3_3 : Nat), ∃ (sur3_3 : Int), ∃ (Iur3_3 : List (Nat × BA)), ∃ (b1ur3_3 : Nat), ∃ (o1ur3_3 : Nat), ∃ (b2ur3_3 : Nat), ∃ (o2ur3_3 : Nat), (u64ok sur3_2) ∧ (u64ok sur3_3) ∧ (Sp w noEx Iur3_3 Aur3_3 bur3_3.lows.length 4 b1ur3_3 o1ur3_3 (sc bur3_3.lows)) ∧ (Sp w noEx Iur3_3 Bur3_3 bur3_3.highs.length 4 b2ur3_3 o2ur3_3 (sc bur3_3.highs)) ∧ bur3_3.good ∧ (bur3_3.lows.length ≤ 4) ∧ (bur3_3.highs.length ≤ 5) ∧ ∃ (gr3_6 gr3_4 bpur3_2 : Nat), Tm ac 138 [(54, .slice (some ⟨gr3_6, 0, none⟩) 1 1), (13, .slice (some ⟨gr3_4, 0, none⟩) 2 2), (3, Zi x), (4, Zi y), (5, .int .u8 ((bb.toNat : Nat) : Int))] ∧ Mem w noEx wc ((gr3_6, .row 9 1 1 [sv text] 1) :: (gr3_4, .cells [Zi b.first, Zi b.step, Zi b.span, Zi b.press, Zi b.note, .slice A b.lows.length c, .slice B b.highs.length d, Zi b.t0, Zi b.t1, Zi b.r0, Zi b.r1, Zi b.u0, Zi b.u1, Zi b.d0, Zi b.d1, Zi b.a0, Zi b.a1, Zi b.b0, Zi b.b1, Zi b.le, Zi b.me, Zi bur3_3.first, Zi bur3_3.step, Zi bur3_3.span, Zi bur3_3.press, Zi bur3_3.note, .slice Aur3_3 bur3_3.lows.length cur3_3, .slice Bur3_3 bur3_3.highs.length dur3_3, Zi bur3_3.t0, Zi bur3_3.t1, Zi bur3_3.r0, Zi bur3_3.r1, Zi bur3_3.u0, Zi bur3_3.u1, Zi bur3_3.d0, Zi bur3_3.d1, Zi bur3_3.a0, Zi bur3_3.a1, Zi bur3_3.b0, Zi bur3_3.b1, Zi bur3_3.le, Zi bur3_3.me]) :: (bpur3_2, .cells [.int .u64 sur3_3]) :: (g1, .cells (bxM b (.slice A b.lows.length c) (.slice B b.highs.length d))) :: Iur3_3)) (Zpb 9 255) 1 ?_ ?_
 ·clear T M
  rintro ac wc ⟨sur3_2, bur3_3, Aur3_3, cur3_3, Bur3_3, dur3_3, sur3_3, Iur3_3, b1ur3_3, o1ur3_3, b2ur3_3, o2ur3_3, hsur3_2, hsur3_3, SAur3_3, SBur3_3, hgur3_3, nlur3_3, nhur3_3, gr3_6, gr3_4, bpur3_2, T, M⟩
  refine Zgq T 8 511 rfl (fun _ => (Zra rfl (T.e 0 rfl))) ?_; clear T ac; intro ac T
  refine Zgd (by kernel_rfl) ?_
  replace T := T.pick [0, 2, 3, 4, 5] rfl
  replace M := M.mask [true, true, false, false] rfl
  refine Zns ?_
  refine Zsr ?_
  refine lq T (Zra rfl evc) ?_; clear T ac; intro ac T
  refine Zln ?_
  refine wp_block ?_
  refine wp_loop_rounds 3 ?_
  refine rounds_S ?_
  refine wp_seq ?_
  refine Zsr ?_
  refine Zg4 (v3 := (Zi 2)) (v4 := (.bool true)) T (Zq (Zrm rfl (T.e 0 rfl))) rfl (Zm 3 rfl rfl) rfl (Zl Tryz.underlying36 0 rfl rfl) rfl (fun _ T => Zq (Zrq (rn_lss rfl (T.e 2 rfl) (T.e 0 rfl)) (by simp))) rfl ?_; clear T ac; intro ac T
  replace T := T.pick [0, 4, 5, 6, 7, 8, 9] rfl
  refine Zln ?_
  refine wp_cond_true (T.e 0 rfl) ?_
  refine Zsk ?_
  refine wp_seq ?_
  refine wp_block ?_
  refine wp_seq ?_
  have e8 : [sv text] = st [text] := rfl
  rw [e8] at M
  clear e8
  obtain ⟨tx0, htx0⟩ : ∃ q : List (List UInt8), q = [text] := ⟨_, rfl⟩
  have e7 : (1 : Nat) = tx0.length := by rw [htx0]; rfl
  replace M : Mem w noEx wc ((gr3_4, .cells [Zi b.first, Zi b.step, Zi b.span, Zi b.press, Zi b.note, .slice A b.lows.length c, .slice B b.highs.length d, Zi b.t0, Zi b.t1, Zi b.r0, Zi b.r1, Zi b.u0, Zi b.u1, Zi b.d0, Zi b.d1, Zi b.a0, Zi b.a1, Zi b.b0, Zi b.b1, Zi b.le, Zi b.me, Zi bur3_3.first, Zi bur3_3.step, Zi bur3_3.span, Zi bur3_3.press, Zi bur3_3.note, .slice Aur3_3 bur3_3.lows.length cur3_3, .slice Bur3_3 bur3_3.highs.length dur3_3, Zi bur3_3.t0, Zi bur3_3.t1, Zi bur3_3.r0, Zi bur3_3.r1, Zi bur3_3.u0, Zi bur3_3.u1, Zi bur3_3.d0, Zi bur3_3.d1, Zi bur3_3.a0, Zi bur3_3.a1, Zi bur3_3.b0, Zi bur3_3.b1, Zi bur3_3.le, Zi bur3_3.me]) :: (Iur3_3 ++ [(gr3_6, .row 9 1 tx0.length (st tx0) 1)])) := by rw [← e7, htx0]; exact (M.permS (fun f => by simp only [bxM, boxL, sumF_app, sumF_cons, sumF_nil, Zx6, Zx5, Zx4, Zx0, Zxa] <;> omega))
  replace T : Tm ac 138 [(58, .bool true), (15, Zi 0), (14, .slice (some ⟨gr3_6, 0, none⟩) tx0.length 1), (13, .slice (some ⟨gr3_4, 0, none⟩) 2 2), (3, Zi x), (4, Zi y), (5, .int .u8 ((bb.toNat : Nat) : Int))] := by rw [← e7]; exact T
  clear e7
  have hlttx0 : tx0.length = 1 := by rw [htx0]; rfl
  have hsltx0 : Sl 9 1 (.slice (some ⟨gr3_6, 0, none⟩) tx0.length 1) tx0.length (st tx0) [(gr3_6, .row 9 1 tx0.length (st tx0) 1)] := Sl.row _ _ _ _ _ _
  have Sy0 : Sp w noEx [(gr3_6, .row 9 1 tx0.length (st tx0) 1)] (some ⟨gr3_6, 0, none⟩) tx0.length 1 gr3_6 0 (st tx0) := Sp.row (by rw [st_length2, Nat.mul_one])
  obtain ⟨Iy0, hIy0⟩ : ∃ q : List (Nat × BA), q = [(gr3_6, .row 9 1 tx0.length (st tx0) 1)] := ⟨_, rfl⟩
  rw [← hIy0] at M hsltx0 Sy0
  refine wp_region_lit ?_
  refine Zg4 (v3 := (Zj gr3_4)) T (Zq (Zrm rfl (T.e 3 rfl))) rfl (Zm 2 rfl rfl) rfl (fun _ T => Zq (Zri (size := 21) 0 rfl (T.e 1 rfl) (T.e 0 rfl) ⟨_, Tryz.underlying36, by kernel_rfl⟩ rfl (by decide) rfl)) rfl (Zr M 0 0 rfl rfl rfl rfl) rfl ?_; clear T ac; intro ac T
  refine Zl2 ?_
  refine Zod T rfl rfl rfl rfl evf (.cons (T.e 0 rfl) .nil) Tryz.func10 rfl rfl ?_
  refine Calls.mono (vwrite_any b _ _ _ _ _ (SA.rd M (Zz9 _)) (SB.rd M (Zz9 _)) (by omega) (by omega) (hT.mem0 M)) ?_
  clear T; rintro e wc ⟨rfl, hb⟩ ac T
  replace M := M.call hb; clear hb
  have hwu2 := wrV_len b
  refine Zg5 T (Zq (Zrm rfl (T.e 0 rfl))) rfl (Ze 0 rfl rfl rfl) rfl (Ze 1 rfl rfl rfl) rfl (Za 1 rfl rfl) rfl (Za 1 rfl rfl) rfl ?_; clear T ac; intro ac T
  replace T := T.pick [0, 1, 11, 12, 13, 14, 15, 16] rfl
  refine Zln ?_
  refine Zsr ?_
  refine Zg4 (v3 := (Zj gr3_4)) T (Zq (Zrm rfl (T.e 4 rfl))) rfl (Zm 3 rfl rfl) rfl (fun _ T => Zq (Zri (size := 21) 0 rfl (T.e 1 rfl) (T.e 0 rfl) ⟨_, Tryz.underlying36, by kernel_rfl⟩ rfl (by decide) rfl)) rfl (Zr M 0 0 rfl rfl rfl rfl) rfl ?_; clear T ac; intro ac T
  refine Zl2 ?_
  refine Zod T rfl rfl rfl rfl evf (.cons (T.e 0 rfl) .nil) Tryz.func11 rfl rfl ?_
  refine Calls.mono (write5_any b _ _ _ _ _ (SA.rd M (Zz9 _)) (SB.rd M (Zz9 _)) (by omega) (by omega) (hT.mem0 M)) ?_
  clear T; rintro e wc ⟨rfl, hb⟩ ac T
  replace M := M.call hb; clear hb
  have hwu3 := wrV_len b
  refine Zg5 T (Zq (Zrm rfl (T.e 0 rfl))) rfl (Ze 0 rfl rfl rfl) rfl (Ze 1 rfl rfl rfl) rfl (Za 1 rfl rfl) rfl (Za 1 rfl rfl) rfl ?_; clear T ac; intro ac T
  replace T := T.pick [0, 1, 10, 11, 12, 13, 14, 15, 16, 17] rfl
  refine Zln ?_
  refine wp_seq ?_
  refine Zsr ?_
  refine Zg8 (v3 := (.bool false)) (v7 := (.bool false)) T (Zq (Zrm rfl (T.e 3 rfl))) rfl (Zm 2 rfl rfl) rfl (fun _ T => Zq (Zrq (rn_sneq rfl (T.e 1 rfl) (T.e 0 rfl)) (by simp))) rfl (Zm 0 rfl rfl) rfl (fun _ T => Zw (Zwy rfl rfl (T.e 0 rfl) rfl) (Zrm rfl (T.e 6 rfl))) rfl (fun _ T => Zw (Zwy rfl rfl (T.e 1 rfl) rfl) (Zrm rfl (T.e 5 rfl))) rfl (fun _ T => Zw (Zwy rfl rfl (T.e 2 rfl) rfl) (Zrq (rn_neq rfl (T.e 1 rfl) (T.e 0 rfl)) (by simp))) rfl (fun _ T => Zq (Zr0 rfl (T.e 3 rfl) rfl (T.e 0 rfl))) rfl ?_; clear T ac; intro ac T
  replace T := T.pick [0, 1, 2, 3, 9, 12, 13, 14, 15, 16, 17] rfl
  refine Zln ?_
  refine wp_cond_false (T.e 0 rfl) ?_
  refine Zsk ?_
  refine wp_region_lit ?_
  refine Zg2 T (Zq (Zrm rfl (T.e 6 rfl))) rfl (Zm 5 rfl rfl) rfl ?_; clear T ac; intro ac T
  refine Zl2 ?_
  refine ow_bs (e := 9) [sv (wrV b)] M T rfl rfl rfl rfl (.cons (T.e 0 rfl) .nil) (fun _ => by kernel_rfl) ?_; clear M T; intro g2 wc ac M T
  refine Zl2 ?_
  refine ow_app (((g2, .cells [sv (wrV b)]) :: (gr3_4, .cells [Zi b.first, Zi b.step, Zi b.span, Zi b.press, Zi b.note, .slice A b.lows.length c, .slice B b.highs.length d, Zi b.t0, Zi b.t1, Zi b.r0, Zi b.r1, Zi b.u0, Zi b.u1, Zi b.d0, Zi b.d1, Zi b.a0, Zi b.a1, Zi b.b0, Zi b.b1, Zi b.le, Zi b.me, Zi bur3_3.first, Zi bur3_3.step, Zi bur3_3.span, Zi bur3_3.press, Zi bur3_3.note, .slice Aur3_3 bur3_3.lows.length cur3_3, .slice Bur3_3 bur3_3.highs.length dur3_3, Zi bur3_3.t0, Zi bur3_3.t1, Zi bur3_3.r0, Zi bur3_3.r1, Zi bur3_3.u0, Zi bur3_3.u1, Zi bur3_3.d0, Zi bur3_3.d1, Zi bur3_3.a0, Zi bur3_3.a1, Zi bur3_3.b0, Zi bur3_3.b1, Zi bur3_3.le, Zi bur3_3.me]) :: Iur3_3)) Tryz.info9 hsltx0 M (by first | rfl | simp) T rfl rfl rfl rfl Tryz.underlying37 rfl rfl rfl (by omega) (T.e 2 rfl) (T.e 0 rfl) (Zne (i := 0) rfl) rfl rfl ?_; clear M T; intro ga1 cga1 wc ac M T
  refine l_q (v := (.slice (some ⟨ga1, 0, none⟩) (tx0.length + 1) cga1)) (T.pick [0, 1, 2, 3, 4, 5, 6, 7, 8, 9, 11, 12, 13, 14] rfl) rfl rfl rfl rfl (Zra rfl (T.e 0 rfl)) ?_; clear T ac; intro ac T
  refine wpList_nil ?_
  replace T := T.pick [0, 6, 7, 8, 10, 11, 12, 13, 14] rfl
  replace M := M.mask [true, false, true] rfl
  refine Znb ?_
  refine nm_then ?_
  refine wp_region_lit ?_
  refine Zg2 (v2 := (Zi 1)) T (Zq (Zrm rfl (T.e 4 rfl))) rfl (fun _ T => Zq (rn_ofI (rn_add rfl (T.e 0 rfl) evc (by omega)) (by rfl))) rfl ?_; clear T ac; intro ac T
  refine l_q (v := (Zi 1)) (T.pick [0, 1, 2, 3, 4, 5, 7, 8, 9, 10] rfl) rfl rfl rfl rfl (Zra rfl (T.e 0 rfl)) ?_; clear T ac; intro ac T
  replace T := T.pick [0, 3, 4, 5, 6, 7, 8, 9, 10] rfl
  refine Zln ?_
  refine rounds_S ?_
  refine wp_seq ?_
  refine Zsr ?_
  refine Zg4 (v3 := (Zi 2)) (v4 := (.bool true)) T (Zq (Zrm rfl (T.e 0 rfl))) rfl (Zm 6 rfl rfl) rfl (Zl Tryz.underlying36 0 rfl rfl) rfl (fun _ T => Zq (Zrq (rn_lss rfl (T.e 2 rfl) (T.e 0 rfl)) (by simp))) rfl ?_; clear T ac; intro ac T
  replace T := T.pick [0, 4, 5, 6, 7, 8, 9, 10, 11, 12] rfl
  refine Zln ?_
  refine wp_cond_true (T.e 0 rfl) ?_
  refine Zsk ?_
  refine wp_seq ?_
  refine wp_block ?_
  refine wp_seq ?_
  have e9 : tx0.length + 1 = (tx0 ++ [(wrV b)]).length := by simp
  have e8 : ((st tx0) ++ [sv (wrV b)]) = st (tx0 ++ [(wrV b)]) := by rw [← st_snoc]
  rw [e9, e8] at M
  rw [e9] at T
  clear e9 e8
  obtain ⟨tx1, htx1⟩ : ∃ q : List (List UInt8), q = (tx0 ++ [(wrV b)]) := ⟨_, rfl⟩
  rw [← htx1] at M T
  have hlttx1 : tx1.length = 2 := by rw [htx1]; rw [Zx3, hlttx0]; rfl
  have hsltx1 : Sl 9 1 (.slice (some ⟨ga1, 0, none⟩) tx1.length cga1) tx1.length (st tx1) [(ga1, .row 9 1 tx1.length (st tx1) cga1)] := Sl.row _ _ _ _ _ _
  replace M : Mem w noEx wc ((gr3_4, .cells [Zi b.first, Zi b.step, Zi b.span, Zi b.press, Zi b.note, .slice A b.lows.length c, .slice B b.highs.length d, Zi b.t0, Zi b.t1, Zi b.r0, Zi b.r1, Zi b.u0, Zi b.u1, Zi b.d0, Zi b.d1, Zi b.a0, Zi b.a1, Zi b.b0, Zi b.b1, Zi b.le, Zi b.me, Zi bur3_3.first, Zi bur3_3.step, Zi bur3_3.span, Zi bur3_3.press, Zi bur3_3.note, .slice Aur3_3 bur3_3.lows.length cur3_3, .slice Bur3_3 bur3_3.highs.length dur3_3, Zi bur3_3.t0, Zi bur3_3.t1, Zi bur3_3.r0, Zi bur3_3.r1, Zi bur3_3.u0, Zi bur3_3.u1, Zi bur3_3.d0, Zi bur3_3.d1, Zi bur3_3.a0, Zi bur3_3.a1, Zi bur3_3.b0, Zi bur3_3.b1, Zi bur3_3.le, Zi bur3_3.me]) :: (Iur3_3 ++ [(ga1, .row 9 1 tx1.length (st tx1) cga1)])) := M.permS (fun f => by simp only [bxM, boxL, sumF_app, sumF_cons, sumF_nil, Zx6, Zx5, Zx4, Zx0, Zxa] <;> omega)
  have Sy1 : Sp w noEx [(ga1, .row 9 1 tx1.length (st tx1) cga1)] (some ⟨ga1, 0, none⟩) tx1.length 1 ga1 0 (st tx1) := Sp.row (by rw [st_length2, Nat.mul_one])
  obtain ⟨Iy1, hIy1⟩ : ∃ q : List (Nat × BA), q = [(ga1, .row 9 1 tx1.length (st tx1) cga1)] := ⟨_, rfl⟩
  rw [← hIy1] at M hsltx1 Sy1
  refine wp_region_lit ?_
  refine Zg4 (v3 := (.pointer (some ⟨gr3_4, 21, none⟩))) T (Zq (Zrm rfl (T.e 6 rfl))) rfl (Zm 2 rfl rfl) rfl (fun _ T => Zq (Zri (size := 21) 1 rfl (T.e 1 rfl) (T.e 0 rfl) ⟨_, Tryz.underlying36, by kernel_rfl⟩ rfl (by decide) rfl)) rfl (Zr M 0 0 rfl rfl rfl rfl) rfl ?_; clear T ac; intro ac T
  refine Zl2 ?_
  refine Zod T rfl rfl rfl rfl evf (.cons (T.e 0 rfl) .nil) Tryz.func10 rfl rfl ?_
  refine Calls.mono (vwrite_any bur3_3 _ _ _ _ _ (SAur3_3.rd M (.cons _ (subL (List.Sublist.refl _)))) (SBur3_3.rd M (.cons _ (subL (List.Sublist.refl _)))) (by omega) (by omega) (hT.mem0 M)) ?_
  clear T; rintro e wc ⟨rfl, hb⟩ ac T
  replace M := M.call hb; clear hb
  have hwu4 := wrV_len bur3_3
  refine Zg5 T (Zq (Zrm rfl (T.e 0 rfl))) rfl (Ze 0 rfl rfl rfl) rfl (Ze 1 rfl rfl rfl) rfl (Za 1 rfl rfl) rfl (Za 1 rfl rfl) rfl ?_; clear T ac; intro ac T
  replace T := T.pick [0, 1, 11, 12, 13, 14, 15, 16, 17, 18, 19] rfl
  refine Zln ?_
  refine Zsr ?_
  refine Zg4 (v3 := (.pointer (some ⟨gr3_4, 21, none⟩))) T (Zq (Zrm rfl (T.e 7 rfl))) rfl (Zm 3 rfl rfl) rfl (fun _ T => Zq (Zri (size := 21) 1 rfl (T.e 1 rfl) (T.e 0 rfl) ⟨_, Tryz.underlying36, by kernel_rfl⟩ rfl (by decide) rfl)) rfl (Zr M 0 0 rfl rfl rfl rfl) rfl ?_; clear T ac; intro ac T
  refine Zl2 ?_
  refine Zod T rfl rfl rfl rfl evf (.cons (T.e 0 rfl) .nil) Tryz.func11 rfl rfl ?_
  refine Calls.mono (write5_any bur3_3 _ _ _ _ _ (SAur3_3.rd M (.cons _ (subL (List.Sublist.refl _)))) (SBur3_3.rd M (.cons _ (subL (List.Sublist.refl _)))) (by omega) (by omega) (hT.mem0 M)) ?_
  clear T; rintro e wc ⟨rfl, hb⟩ ac T
  replace M := M.call hb; clear hb
  have hwu5 := wrV_len bur3_3
  refine Zg5 T (Zq (Zrm rfl (T.e 0 rfl))) rfl (Ze 0 rfl rfl rfl) rfl (Ze 1 rfl rfl rfl) rfl (Za 1 rfl rfl) rfl (Za 1 rfl rfl) rfl ?_; clear T ac; intro ac T
  replace T := T.pick [0, 1, 10, 11, 12, 13, 14, 15, 16, 17, 18, 19, 20] rfl
  refine Zln ?_
  refine wp_seq ?_
  refine Zsr ?_
  refine Zg4 (v3 := (.bool false)) T (Zq (Zrm rfl (T.e 3 rfl))) rfl (Zm 2 rfl rfl) rfl (fun _ T => Zq (Zrq (rn_sneq rfl (T.e 1 rfl) (T.e 0 rfl)) (by simp))) rfl (Zm 0 rfl rfl) rfl ?_; clear T ac; intro ac T
  refine l_q (v := (Zi (checkB bur3_3))) (T.pick [0, 1, 2, 3, 4, 5, 6, 7, 8, 9, 10, 11, 13, 14, 15, 16] rfl) (Zwy rfl rfl (T.e 0 rfl) rfl) rfl rfl rfl (Zrm rfl (T.e 6 rfl)) ?_; clear T ac; intro ac T
  refine l_q (v := (Zi (checkB bur3_3))) (T.pick [0, 1, 2, 3, 4, 5, 6, 7, 8, 9, 10, 11, 13, 14, 15, 16] rfl) (Zwy rfl rfl (T.e 1 rfl) rfl) rfl rfl rfl (Zrm rfl (T.e 5 rfl)) ?_; clear T ac; intro ac T
  refine l_q (v := (.bool false)) (T.pick [0, 1, 2, 3, 4, 5, 6, 7, 8, 9, 10, 11, 13, 14, 15, 16] rfl) (Zwy rfl rfl (T.e 2 rfl) rfl) rfl rfl rfl (Zrq (rn_neq rfl (T.e 1 rfl) (T.e 0 rfl)) (by simp)) ?_; clear T ac; intro ac T
  refine lq T (Zr0 rfl (T.e 3 rfl) rfl (T.e 0 rfl)) ?_; clear T ac; intro ac T
  replace T := T.pick [0, 1, 2, 3, 9, 12, 13, 14, 15, 16, 17] rfl
  refine Zln ?_
  refine wp_cond_false (T.e 0 rfl) ?_
  refine Zsk ?_
  refine wp_region_lit ?_
  refine Zg2 T (Zq (Zrm rfl (T.e 6 rfl))) rfl (Zm 5 rfl rfl) rfl ?_; clear T ac; intro ac T
  refine Zl2 ?_
  refine ow_bs (e := 9) [sv (wrV bur3_3)] M T rfl rfl rfl rfl (.cons (T.e 0 rfl) .nil) (fun _ => by kernel_rfl) ?_; clear M T; intro g3 wc ac M T
  refine Zl2 ?_
  refine ow_app (((g3, .cells [sv (wrV bur3_3)]) :: (gr3_4, .cells [Zi b.first, Zi b.step, Zi b.span, Zi b.press, Zi b.note, .slice A b.lows.length c, .slice B b.highs.length d, Zi b.t0, Zi b.t1, Zi b.r0, Zi b.r1, Zi b.u0, Zi b.u1, Zi b.d0, Zi b.d1, Zi b.a0, Zi b.a1, Zi b.b0, Zi b.b1, Zi b.le, Zi b.me, Zi bur3_3.first, Zi bur3_3.step, Zi bur3_3.span, Zi bur3_3.press, Zi bur3_3.note, .slice Aur3_3 bur3_3.lows.length cur3_3, .slice Bur3_3 bur3_3.highs.length dur3_3, Zi bur3_3.t0, Zi bur3_3.t1, Zi bur3_3.r0, Zi bur3_3.r1, Zi bur3_3.u0, Zi bur3_3.u1, Zi bur3_3.d0, Zi bur3_3.d1, Zi bur3_3.a0, Zi bur3_3.a1, Zi bur3_3.b0, Zi bur3_3.b1, Zi bur3_3.le, Zi bur3_3.me]) :: Iur3_3)) Tryz.info9 hsltx1 M (by first | rfl | simp) T rfl rfl rfl rfl Tryz.underlying37 rfl rfl rfl (by omega) (T.e 2 rfl) (T.e 0 rfl) (Zne (i := 0) rfl) rfl rfl ?_; clear M T; intro ga2 cga2 wc ac M T
  refine l_q (v := (.slice (some ⟨ga2, 0, none⟩) (tx1.length + 1) cga2)) (T.pick [0, 1, 2, 3, 4, 5, 6, 7, 8, 9, 11, 12, 13, 14] rfl) rfl rfl rfl rfl (Zra rfl (T.e 0 rfl)) ?_; clear T ac; intro ac T
  refine wpList_nil ?_
  replace T := T.pick [0, 6, 7, 8, 10, 11, 12, 13, 14] rfl
  replace M := M.mask [true, false, true] rfl
  refine Znb ?_
  refine nm_then ?_
  refine wp_region_lit ?_
  refine Zg2 (v2 := (Zi 2)) T (Zq (Zrm rfl (T.e 4 rfl))) rfl (fun _ T => Zq (rn_ofI (rn_add rfl (T.e 0 rfl) evc (by omega)) (by rfl))) rfl ?_; clear T ac; intro ac T
  refine l_q (v := (Zi 2)) (T.pick [0, 1, 2, 3, 4, 5, 7, 8, 9, 10] rfl) rfl rfl rfl rfl (Zra rfl (T.e 0 rfl)) ?_; clear T ac; intro ac T
  replace T := T.pick [0, 3, 4, 5, 6, 7, 8, 9, 10] rfl
  refine Zln ?_
  refine rounds_S ?_
  refine wp_seq ?_
  refine Zsr ?_
  refine Zg4 (v3 := (Zi 2)) (v4 := (.bool false)) T (Zq (Zrm rfl (T.e 0 rfl))) rfl (Zm 6 rfl rfl) rfl (Zl Tryz.underlying36 0 rfl rfl) rfl (fun _ T => Zq (Zrq (rn_lss rfl (T.e 2 rfl) (T.e 0 rfl)) (by simp))) rfl ?_; clear T ac; intro ac T
  replace T := T.pick [0, 4, 5, 6, 7, 8, 9, 10, 11, 12] rfl
  refine Zln ?_
  refine wp_cond_false (T.e 0 rfl) ?_
  refine wp_exit ?_
  refine Zet ?_
  refine Zet ?_
  refine ex_hit ?_
  refine Zns ?_
  have e9 : tx1.length + 1 = (tx1 ++ [(wrV bur3_3)]).length := by simp
  have e8 : ((st tx1) ++ [sv (wrV bur3_3)]) = st (tx1 ++ [(wrV bur3_3)]) := by rw [← st_snoc]
  rw [e9, e8] at M
  rw [e9] at T
  clear e9 e8
  obtain ⟨tx2, htx2⟩ : ∃ q : List (List UInt8), q = (tx1 ++ [(wrV bur3_3)]) := ⟨_, rfl⟩
  rw [← htx2] at M T
  have hlttx2 : tx2.length = 3 := by rw [htx2]; rw [Zx3, hlttx1]; rfl
  have hsltx2 : Sl 9 1 (.slice (some ⟨ga2, 0, none⟩) tx2.length cga2) tx2.length (st tx2) [(ga2, .row 9 1 tx2.length (st tx2) cga2)] := Sl.row _ _ _ _ _ _
  replace M : Mem w noEx wc ((gr3_4, .cells [Zi b.first, Zi b.step, Zi b.span, Zi b.press, Zi b.note, .slice A b.lows.length c, .slice B b.highs.length d, Zi b.t0, Zi b.t1, Zi b.r0, Zi b.r1, Zi b.u0, Zi b.u1, Zi b.d0, Zi b.d1, Zi b.a0, Zi b.a1, Zi b.b0, Zi b.b1, Zi b.le, Zi b.me, Zi bur3_3.first, Zi bur3_3.step, Zi bur3_3.span, Zi bur3_3.press, Zi bur3_3.note, .slice Aur3_3 bur3_3.lows.length cur3_3, .slice Bur3_3 bur3_3.highs.length dur3_3, Zi bur3_3.t0, Zi bur3_3.t1, Zi bur3_3.r0, Zi bur3_3.r1, Zi bur3_3.u0, Zi bur3_3.u1, Zi bur3_3.d0, Zi bur3_3.d1, Zi bur3_3.a0, Zi bur3_3.a1, Zi bur3_3.b0, Zi bur3_3.b1, Zi bur3_3.le, Zi bur3_3.me]) :: (Iur3_3 ++ [(ga2, .row 9 1 tx2.length (st tx2) cga2)])) := M.permS (fun f => by simp only [bxM, boxL, sumF_app, sumF_cons, sumF_nil, Zx6, Zx5, Zx4, Zx0, Zxa] <;> omega)
  have Sy2 : Sp w noEx [(ga2, .row 9 1 tx2.length (st tx2) cga2)] (some ⟨ga2, 0, none⟩) tx2.length 1 ga2 0 (st tx2) := Sp.row (by rw [st_length2, Nat.mul_one])
  obtain ⟨Iy2, hIy2⟩ : ∃ q : List (Nat × BA), q = [(ga2, .row 9 1 tx2.length (st tx2) cga2)] := ⟨_, rfl⟩
  rw [← hIy2] at M hsltx2 Sy2
  have hz2 : tx2[2]? = some ((wrV bur3_3)) := by rw [htx2, List.getElem?_append_right (by omega), hlttx1]; rfl
  refine wp_region_lit ?_
  refine Zg7 T (Zq (Zrm rfl (T.e 2 rfl))) rfl (Zm 3 rfl rfl) rfl (fun _ T => Zq (Zri (size := 1) 2 rfl (T.e 0 rfl) evc ⟨_, Tryz.underlying37, by kernel_rfl⟩ rfl (by omega) (Sy2.at0 (by omega)))) rfl (fun _ T => Zq (rn_cell (Sp.stC0 Sy2 M (.cons _ (Zsq _ _)) hz2) rfl (T.e 0 rfl))) rfl (Zm 11 rfl rfl) rfl (Zm 13 rfl rfl) rfl (Zm 15 rfl rfl) rfl ?_; clear T ac; intro ac T
  refine Zl2 ?_
  refine Zod T rfl rfl rfl rfl evf (.cons (T.e 3 rfl) (.cons (T.e 2 rfl) (.cons (T.e 1 rfl) (.cons (T.e 0 rfl) .nil)))) Tryz.func12 rfl rfl ?_
  refine Calls.mono (harmed_any (wrV bur3_3) x y bb _ (by omega)) ?_
  clear T; rintro e wc ⟨h9, hh9, rfl, hb⟩ ac T
  replace M := M.call hb; clear hb
  refine Zl2 ?_
  refine ow_bs (e := 9) [sv h9] M T rfl rfl rfl rfl (.cons (T.e 0 rfl) .nil) (fun _ => by kernel_rfl) ?_; clear M T; intro g4 wc ac M T
  refine Zl2 ?_
  refine ow_app (((g4, .cells [sv h9]) :: (gr3_4, .cells [Zi b.first, Zi b.step, Zi b.span, Zi b.press, Zi b.note, .slice A b.lows.length c, .slice B b.highs.length d, Zi b.t0, Zi b.t1, Zi b.r0, Zi b.r1, Zi b.u0, Zi b.u1, Zi b.d0, Zi b.d1, Zi b.a0, Zi b.a1, Zi b.b0, Zi b.b1, Zi b.le, Zi b.me, Zi bur3_3.first, Zi bur3_3.step, Zi bur3_3.span, Zi bur3_3.press, Zi bur3_3.note, .slice Aur3_3 bur3_3.lows.length cur3_3, .slice Bur3_3 bur3_3.highs.length dur3_3, Zi bur3_3.t0, Zi bur3_3.t1, Zi bur3_3.r0, Zi bur3_3.r1, Zi bur3_3.u0, Zi bur3_3.u1, Zi bur3_3.d0, Zi bur3_3.d1, Zi bur3_3.a0, Zi bur3_3.a1, Zi bur3_3.b0, Zi bur3_3.b1, Zi bur3_3.le, Zi bur3_3.me]) :: Iur3_3)) Tryz.info9 hsltx2 M (by first | rfl | simp) T rfl rfl rfl rfl Tryz.underlying37 rfl rfl rfl (by omega) (T.e 8 rfl) (T.e 0 rfl) (Zne (i := 0) rfl) rfl rfl ?_; clear M T; intro ga3 cga3 wc ac M T
  refine l_q (v := (.slice (some ⟨ga3, 0, none⟩) (tx2.length + 1) cga3)) (T.pick [0, 1, 2, 3, 4, 5, 6, 7, 8, 9, 10, 11, 13, 14, 15, 16, 17, 18, 19] rfl) rfl rfl rfl rfl (Zra rfl (T.e 0 rfl)) ?_; clear T ac; intro ac T
  refine wpList_nil ?_
  replace T := T.pick [0] rfl
  replace M := M.mask [true, false, false] rfl
  refine Zns ?_
  refine Zsr ?_
  refine lq T (Zra rfl evc) ?_; clear T ac; intro ac T
  refine Zln ?_
  refine wp_block ?_
  have e9 : tx2.length + 1 = (tx2 ++ [h9]).length := by simp
  have e8 : ((st tx2) ++ [sv h9]) = st (tx2 ++ [h9]) := by rw [← st_snoc]
  rw [e9, e8] at M
  rw [e9] at T
  clear e9 e8
  obtain ⟨tx3, htx3⟩ : ∃ q : List (List UInt8), q = (tx2 ++ [h9]) := ⟨_, rfl⟩
  rw [← htx3] at M T
  have hlttx3 : tx3.length = 4 := by rw [htx3]; rw [Zx3, hlttx2]; rfl
  have hsltx3 : Sl 9 1 (.slice (some ⟨ga3, 0, none⟩) tx3.length cga3) tx3.length (st tx3) [(ga3, .row 9 1 tx3.length (st tx3) cga3)] := Sl.row _ _ _ _ _ _
  replace M : Mem w noEx wc ((Iur3_3 ++ [(ga3, .row 9 1 tx3.length (st tx3) cga3)])) := M.permS (fun f => by simp only [bxM, boxL, sumF_app, sumF_cons, sumF_nil, Zx6, Zx5, Zx4, Zx0, Zxa] <;> omega)
  have Sy3 : Sp w noEx [(ga3, .row 9 1 tx3.length (st tx3) cga3)] (some ⟨ga3, 0, none⟩) tx3.length 1 ga3 0 (st tx3) := Sp.row (by rw [st_length2, Nat.mul_one])
  obtain ⟨Iy3, hIy3⟩ : ∃ q : List (Nat × BA), q = [(ga3, .row 9 1 tx3.length (st tx3) cga3)] := ⟨_, rfl⟩
  rw [← hIy3] at M hsltx3 Sy3
  refine wp_loop_n (fun mz ac wc => ∃ (q : Nat), mz = tx3.length - q ∧ (q ≤ tx3.length) ∧ Tm ac 138 [(14, .slice (some ⟨ga3, 0, none⟩) tx3.length cga3), (20, Zi (q : Int))] ∧ Mem w noEx wc ((Iur3_3 ++ Iy3))) ?_ ?_
  ·exact ⟨_, 0, rfl, (Nat.zero_le _), T.pick [1, 0] rfl, M.mask [] rfl⟩
  clear T M
  rintro mz ac wc ⟨q, hmm2, hq, T, M⟩
  refine wp_seq ?_
  refine Zsr ?_
  refine Zg4 T (Zq (Zrm rfl (T.e 1 rfl))) rfl (Zm 1 rfl rfl) rfl (Zl Tryz.underlying37 0 rfl rfl) rfl (fun _ T => Zq (rn_lss rfl (T.e 2 rfl) (T.e 0 rfl))) rfl ?_; clear T ac; intro ac T
  replace T := T.pick [0, 4, 5] rfl
  refine Zln ?_
  refine wp_if (T.e 0 rfl) ?_ ?_
  ·intro h5
   obtain ⟨s, hks⟩ : ∃ x, tx3[q]? = some x := ⟨_, List.getElem?_eq_getElem (by omega)⟩
   obtain ⟨jr, lr, er, hr9⟩ : ∃ j l e, readV s = (j, l, e) := ⟨_, _, _, rfl⟩
   have ⟨hjr4, hjr5⟩ : jr.lows.length ≤ 4 ∧ jr.highs.length ≤ 5 := by have h8 := readV_sh s; rw [hr9] at h8; exact h8
   refine Zsk ?_
   refine wp_seq ?_
   refine wp_block ?_
   refine Zsr ?_
   refine Zg4 T (Zq (Zrm rfl (T.e 1 rfl))) rfl (Zm 3 rfl rfl) rfl (fun _ T => Zq (Zri (size := 1) q rfl (T.e 1 rfl) (T.e 0 rfl) ⟨_, Tryz.underlying37, by kernel_rfl⟩ rfl (by omega) (Sy3.at0 (by omega)))) rfl (fun _ T => Zq (rn_cell (Sp.stC0 Sy3 M (Zsq _ _) hks) rfl (T.e 0 rfl))) rfl ?_; clear T ac; intro ac T
   refine Zl2 ?_
   refine Zod T rfl rfl rfl rfl evf (.cons (T.e 0 rfl) .nil) Tryz.func13 rfl rfl ?_
   refine Calls.mono (readX_any hr9 _ (hT.mem0 M)) ?_
   clear T; rintro e wc ⟨Au7, cu7, Bu7, du7, Iau7, Ibu7, rfl, hsAu7, hsBu7, N⟩ ac T
   obtain ⟨bAu7, oAu7, SVAu7⟩ := Sl.spW hsAu7 (sc_length _)
   have SAu7 := SVAu7 w noEx
   obtain ⟨bBu7, oBu7, SVBu7⟩ := Sl.spW hsBu7 (sc_length _)
   have SBu7 := SVBu7 w noEx
   replace M := M.join N
   clear N
   replace M : Mem w noEx wc ((Iau7 ++ Ibu7 ++ Iur3_3 ++ Iy3)) := (Mem.permS (L' := ((Iau7 ++ Ibu7 ++ Iur3_3 ++ Iy3))) M (fun f => by simp only [bxM, boxL, sumF_app, sumF_cons, sumF_nil, Zx6, Zx5, Zx4, Zx0, Zxa] <;> omega))
   refine Zg4 T (Zq (Zrm rfl (T.e 0 rfl))) rfl (Ze 0 rfl rfl rfl) rfl (Ze 1 rfl rfl rfl) rfl (Ze 2 rfl rfl rfl) rfl ?_; clear T ac; intro ac T
   refine Zl2 ?_
   refine Zoa M T rfl rfl rfl rfl ?_; clear M T; intro g5 wc ac M T
   refine Zl2 ?_
   refine Zot M T rfl rfl (T.e 0 rfl) (T.e 3 rfl) rfl .head rfl rfl ?_; clear M T; intro wc ac M T
   refine Zg2 T (Zq (Zra rfl (T.e 2 rfl))) rfl (Za 2 rfl rfl) rfl ?_; clear T ac; intro ac T
   replace T := T.pick [0, 1, 2, 13, 14] rfl
   refine Zln ?_
   refine Zsr ?_
   refine Zg4 T (Zq (Zrm rfl (T.e 3 rfl))) rfl (Zm 5 rfl rfl) rfl (fun _ T => Zq (Zri (size := 1) q rfl (T.e 1 rfl) (T.e 0 rfl) ⟨_, Tryz.underlying37, by kernel_rfl⟩ rfl (by omega) (Sy3.at0 (by omega)))) rfl (fun _ T => Zq (rn_cell (Sp.stC0 Sy3 M (.cons _ (Zsq _ _)) hks) rfl (T.e 0 rfl))) rfl ?_; clear T ac; intro ac T
   refine Zl2 ?_
   refine Zod T rfl rfl rfl rfl evf (.cons (T.e 0 rfl) .nil) Tryz.func14 rfl rfl ?_
   refine Calls.mono (rreadX_any hr9 _) ?_
   clear T; rintro e wc ⟨Au8, cu8, Bu8, du8, Iau8, Ibu8, rfl, hsAu8, hsBu8, N⟩ ac T
   obtain ⟨bAu8, oAu8, SVAu8⟩ := Sl.spW hsAu8 (sc_length _)
   have SAu8 := SVAu8 w noEx
   obtain ⟨bBu8, oBu8, SVBu8⟩ := Sl.spW hsBu8 (sc_length _)
   have SBu8 := SVBu8 w noEx
   replace M := M.join N
   clear N
   replace M : Mem w noEx wc ((g5, .cells (bxM jr (.slice Au7 jr.lows.length cu7) (.slice Bu7 jr.highs.length du7))) :: (Iau8 ++ Ibu8 ++ Iau7 ++ Ibu7 ++ Iur3_3 ++ Iy3)) := (Mem.permS (L' := ((g5, .cells (bxM jr (.slice Au7 jr.lows.length cu7) (.slice Bu7 jr.highs.length du7))) :: (Iau8 ++ Ibu8 ++ Iau7 ++ Ibu7 ++ Iur3_3 ++ Iy3))) M (fun f => by simp only [bxM, boxL, sumF_app, sumF_cons, sumF_nil, Zx6, Zx5, Zx4, Zx0, Zxa] <;> omega))
   refine Zg4 T (Zq (Zrm rfl (T.e 0 rfl))) rfl (Ze 0 rfl rfl rfl) rfl (Ze 1 rfl rfl rfl) rfl (Ze 2 rfl rfl rfl) rfl ?_; clear T ac; intro ac T
   refine Zl2 ?_
   refine Zoa M T rfl rfl rfl rfl ?_; clear M T; intro g6 wc ac M T
   refine Zl2 ?_
   refine Zot M T rfl rfl (T.e 0 rfl) (T.e 3 rfl) rfl .head rfl rfl ?_; clear M T; intro wc ac M T
   refine Zg2 T (Zq (Zra rfl (T.e 2 rfl))) rfl (Za 2 rfl rfl) rfl ?_; clear T ac; intro ac T
   replace T := T.pick [0, 1, 2, 12, 13, 14, 15, 16] rfl
   refine Zln ?_
   refine Zsr ?_
   refine Zg8 (v3 := (.bool false)) (v7 := (.bool false)) T (Zq (Zrm rfl (T.e 4 rfl))) rfl (Zm 2 rfl rfl) rfl (fun _ T => Zq (Zrq (rn_neq rfl (T.e 1 rfl) (T.e 0 rfl)) (by simp))) rfl (Zm 0 rfl rfl) rfl (fun _ T => Zw (Zwy rfl rfl (T.e 0 rfl) rfl) (Zrm rfl (T.e 7 rfl))) rfl (fun _ T => Zw (Zwy rfl rfl (T.e 1 rfl) rfl) (Zrm rfl (T.e 5 rfl))) rfl (fun _ T => Zw (Zwy rfl rfl (T.e 2 rfl) rfl) (Zrq (rn_neq rfl (T.e 1 rfl) (T.e 0 rfl)) (by simp))) rfl (fun _ T => Zq (Zr0 rfl (T.e 3 rfl) rfl (T.e 0 rfl))) rfl ?_; clear T ac; intro ac T
   refine Zg3 T (Zq (Zrm rfl (T.e 0 rfl))) rfl (fun _ T => Zw (Zwy rfl rfl (T.e 0 rfl) rfl) (Zrr (Mem.nth M 1 rfl) rfl (T.e 14 rfl) rfl)) rfl (fun _ T => Zw (Zwy rfl rfl (T.e 1 rfl) rfl) (Zrr (Mem.nth M 0 rfl) rfl (T.e 12 rfl) rfl)) rfl ?_; clear T ac; intro ac T
   refine l_w (Zwy rfl rfl (T.e 2 rfl) rfl) ?_; intro K hK
   refine Zod T rfl rfl rfl rfl evf (.cons (T.e 1 rfl) (.cons (T.e 0 rfl) .nil)) Tryz.func15 rfl rfl ?_
   refine Calls.mono (sameBoxes_same jr _ _ _ _ _ _ _ _ _ (SAu7.rd M (.cons _ (.cons _ (subL (subL (subL (Zsq _ _))))))) (SBu7.rd M (.cons _ (.cons _ (subL (subL (Zsq _ _)))))) (SAu8.rd M (.cons _ (.cons _ (subL (subL (subL (subL (subL (List.Sublist.refl _))))))))) (SBu8.rd M (.cons _ (.cons _ (subL (subL (subL (subL (Zsq _ _)))))))) (by omega) (by omega)) ?_
   clear T; rintro e wc ⟨rfl, hb⟩ ac T
   replace M := M.call hb; clear hb
   refine Zso hK _ _ ?_; clear hK K
   refine Zg2 (v1 := (.bool false)) T (Zw (Zwy rfl rfl (T.e 3 rfl) rfl) (Zrq (rn_not rfl (T.e 0 rfl)) (by simp))) rfl (fun _ T => Zq (Zr0 rfl (T.e 4 rfl) rfl (T.e 0 rfl))) rfl ?_; clear T ac; intro ac T
   refine wpList_nil ?_
   replace T := T.pick [0, 1, 2, 3, 4, 7, 8, 9, 20, 21] rfl
   replace M := M.mask [false, false] rfl
   replace M : Mem w noEx wc ((Iau8 ++ Ibu8 ++ Iau7 ++ Ibu7 ++ Iur3_3 ++ Iy3)) := M
   refine nm_then ?_
   refine wp_cond_false (T.e 0 rfl) ?_
   refine wp_skip ?_
   refine Znb ?_
   refine nm_then ?_
   refine wp_region_lit ?_
   refine Zg2 T (Zq (Zrm rfl (T.e 9 rfl))) rfl (fun _ T => Zq (rn_add rfl (T.e 0 rfl) evc (by omega))) rfl ?_; clear T ac; intro ac T
   refine l_q (v := (Zi ((q : Int) + 1))) (T.pick [0, 1, 2, 3, 4, 5, 6, 7, 8, 9, 10] rfl) rfl rfl rfl rfl (Zra rfl (T.e 0 rfl)) ?_; clear T ac; intro ac T
   replace T := T.pick [0, 4, 5, 6, 7, 8, 9, 10, 11] rfl
   refine Zln ?_
   exact ⟨_, by omega, q + 1, rfl, (by omega), T.pick [8, 0] rfl, (Mem.subS ((Iau8 ++ Ibu8 ++ Iau7 ++ Ibu7)) M (fun f => by simp only [bxM, boxL, sumF_app, sumF_cons, sumF_nil, Zx6, Zx5, Zx4, Zx0, Zxa] <;> omega))⟩
  intro h5
  refine wp_exit ?_
  refine Zet ?_
  refine Zet ?_
  refine ex_hit ?_
  refine nm_then ?_
  refine Zsr ?_
  refine Zl2 ?_
  refine Zod T rfl rfl rfl rfl evf .nil Tryz.func7 rfl rfl ?_
  refine Calls.mono (trembling_any _) ?_
  clear T; rintro e wc ⟨rfl, hb⟩ ac T
  replace M := M.call hb; clear hb
  refine lq T (Zra rfl (T.e 0 rfl)) ?_; clear T ac; intro ac T
  replace T := T.pick [0] rfl
  refine Zln ?_
  refine wp_ret ?_
  refine rt_1 T rfl (T.e 0 rfl) ?_
  exact ⟨rfl, M.below⟩
 intro H2
 refine g_have (fun ac wc => ∃ (sur3_2 : Int), ∃ (bur3_3 : Bx), ∃ (Aur3_3 : Option Addr), ∃ (cur3_3 : Nat), ∃ (Bur3_3 : Option Addr), ∃ (dur3_3 : Nat), ∃ (sur3_3 : Int), ∃ (Iur3_3 : List (Nat × BA)), ∃ (b1ur3_3 : Nat), ∃ (o1ur3_3 : Nat), ∃ (b2ur3_3 : Nat), ∃ (o2ur3_3 : Nat), (u64ok sur3_2) ∧ (u64ok sur3_3) ∧ (Sp w noEx Iur3_3 Aur3_3 bur3_3.lows.length 4 b1ur3_3 o1ur3_3 (sc bur3_3.lows)) ∧ (Sp w noEx Iur3_3 Bur3_3 bur3_3.highs.length 4 b2ur3_3 o2ur3_3 (sc bur3_3.highs)) ∧ bur3_3.good ∧ (bur3_3.lows.length ≤ 4) ∧ (bur3_3.highs.length ≤ 5) ∧ ∃ (gr3_6 bpur3_2 : Nat), Tm ac 138 [(54, .slice (some ⟨gr3_6, 0, none⟩) 1 1), (51, .agg #[Zi bur3_3.first, Zi bur3_3.step, Zi bur3_3.span, Zi bur3_3.press, Zi bur3_3.note, .slice Aur3_3 bur3_3.lows.length cur3_3, .slice Bur3_3 bur3_3.highs.length dur3_3, Zi bur3_3.t0, Zi bur3_3.t1, Zi bur3_3.r0, Zi bur3_3.r1, Zi bur3_3.u0, Zi bur3_3.u1, Zi bur3_3.d0, Zi bur3_3.d1, Zi bur3_3.a0, Zi bur3_3.a1, Zi bur3_3.b0, Zi bur3_3.b1, Zi bur3_3.le, Zi bur3_3.me]), (48, .agg #[Zi b.first, Zi b.step, Zi b.span, Zi b.press, Zi b.note, .slice A b.lows.length c, .slice B b.highs.length d, Zi b.t0, Zi b.t1, Zi b.r0, Zi b.r1, Zi b.u0, Zi b.u1, Zi b.d0, Zi b.d1, Zi b.a0, Zi b.a1, Zi b.b0, Zi b.b1, Zi b.le, Zi b.me]), (3, Zi x), (4, Zi y), (5, .int .u8 ((bb.toNat : Nat) : Int))] ∧ Mem w noEx wc ((gr3_6, .row 9 1 1 [sv text] 1) :: (bpur3_2, .cells [.int .u64 sur3_3]) :: (g1, .cells (bxM b (.slice A b.lows.length c) (.slice B b.highs.length d))) :: Iur3_3)) (Zpb 9 111) 3 ?_ ?_
 ·clear T M
  rintro ac wc ⟨sur3_2, bur3_3, Aur3_3, cur3_3, Bur3_3, dur3_3, sur3_3, Iur3_3, b1ur3_3, o1ur3_3, b2ur3_3, o2ur3_3, hsur3_2, hsur3_3, SAur3_3, SBur3_3, hgur3_3, nlur3_3, nhur3_3, gr3_6, bpur3_2, T, M⟩
  refine gw 4 127 ?_; intro K hK
  refine ow_bs (e := 30) [Zi b.first, Zi b.step, Zi b.span, Zi b.press, Zi b.note, .slice A b.lows.length c, .slice B b.highs.length d, Zi b.t0, Zi b.t1, Zi b.r0, Zi b.r1, Zi b.u0, Zi b.u1, Zi b.d0, Zi b.d1, Zi b.a0, Zi b.a1, Zi b.b0, Zi b.b1, Zi b.le, Zi b.me, Zi bur3_3.first, Zi bur3_3.step, Zi bur3_3.span, Zi bur3_3.press, Zi bur3_3.note, .slice Aur3_3 bur3_3.lows.length cur3_3, .slice Bur3_3 bur3_3.highs.length dur3_3, Zi bur3_3.t0, Zi bur3_3.t1, Zi bur3_3.r0, Zi bur3_3.r1, Zi bur3_3.u0, Zi bur3_3.u1, Zi bur3_3.d0, Zi bur3_3.d1, Zi bur3_3.a0, Zi bur3_3.a1, Zi bur3_3.b0, Zi bur3_3.b1, Zi bur3_3.le, Zi bur3_3.me] M T rfl rfl rfl rfl (.cons (T.e 2 rfl) (.cons (T.e 1 rfl) .nil)) (fun _ => by kernel_rfl) ?_; clear M T; intro gr3_4 wc ac M T
  refine Zso hK _ _ (M.perm [3] rfl rfl) ?_; clear hK K
  refine Zgq T 7 255 rfl (fun _ => (Zra rfl (T.e 0 rfl))) ?_; clear T ac; intro ac T
  exact H2 _ _ ⟨sur3_2, bur3_3, Aur3_3, cur3_3, Bur3_3, dur3_3, sur3_3, Iur3_3, b1ur3_3, o1ur3_3, b2ur3_3, o2ur3_3, hsur3_2, hsur3_3, SAur3_3, SBur3_3, hgur3_3, nlur3_3, nhur3_3, gr3_6, gr3_4, bpur3_2, T.pick [2, 0, 5, 6, 7] rfl, M.permT [1, 0, 2, 3] 4 rfl rfl rfl rfl⟩
 intro H1
 refine g_have (fun ac wc => ∃ (sur3_2 : Int), (u64ok sur3_2) ∧ ∃ (gr3_6 bpur3_2 : Nat), Tm ac 138 [(54, .slice (some ⟨gr3_6, 0, none⟩) 1 1), (50, Zj bpur3_2), (48, .agg #[Zi b.first, Zi b.step, Zi b.span, Zi b.press, Zi b.note, .slice A b.lows.length c, .slice B b.highs.length d, Zi b.t0, Zi b.t1, Zi b.r0, Zi b.r1, Zi b.u0, Zi b.u1, Zi b.d0, Zi b.d1, Zi b.a0, Zi b.a1, Zi b.b0, Zi b.b1, Zi b.le, Zi b.me]), (3, Zi x), (4, Zi y), (5, .int .u8 ((bb.toNat : Nat) : Int))] ∧ Mem w noEx wc [(gr3_6, .row 9 1 1 [sv text] 1), (bpur3_2, .cells [.int .u64 sur3_2]), (g1, .cells (bxM b (.slice A b.lows.length c) (.slice B b.highs.length d)))]) (Zpb 9 103) 4 ?_ ?_
 ·clear T M
  rintro ac wc ⟨sur3_2, hsur3_2, gr3_6, bpur3_2, T, M⟩
  refine gw 3 111 ?_; intro K hK
  refine Zod T rfl rfl rfl rfl evf (.cons (T.e 1 rfl) (.cons evc (.cons evc (.cons evc .nil)))) Tryz.func8 rfl rfl ?_
  refine Calls.mono (boxOf_any _ bpur3_2 4 5 4 _ (by omega) (by omega) (by omega) (M.nth 1 rfl) hsur3_2) ?_
  clear T; rintro e wc ⟨bur3_3, Aur3_3, cur3_3, Bur3_3, dur3_3, sur3_3, Iur3_3, rfl, hmur3_3, hsur3_3, SAur3_3, SBur3_3, N⟩ ac T
  obtain ⟨b1ur3_3, o1ur3_3, SAur3_3⟩ := SAur3_3
  replace SAur3_3 := SAur3_3 w noEx
  obtain ⟨b2ur3_3, o2ur3_3, SBur3_3⟩ := SBur3_3
  replace SBur3_3 := SBur3_3 w noEx
  replace M := (M.joinW (.tail .head) N).swapI
  clear N
  replace M : Mem w noEx wc ((gr3_6, .row 9 1 1 [sv text] 1) :: (bpur3_2, .cells [.int .u64 sur3_3]) :: (g1, .cells (bxM b (.slice A b.lows.length c) (.slice B b.highs.length d))) :: Iur3_3) := M
  have hgur3_3 := hmur3_3.good
  have nlur3_3 := hgur3_3.lows.1
  have nhur3_3 := hgur3_3.highs.1
  have hstur3_3 := step_bd (notes := 3) hmur3_3.law.step hmur3_3.note
  have hnour3_3 := hmur3_3.note
  have ⟨hfur3_3, hzur3_3, hpur3_3, hqur3_3⟩ := hmur3_3.law
  dsimp only at hstur3_3 hfur3_3 hpur3_3 hqur3_3
  refine Zso hK _ _ (M.perm [2] rfl rfl) ?_; clear hK K
  exact H1 _ _ ⟨sur3_2, bur3_3, Aur3_3, cur3_3, Bur3_3, dur3_3, sur3_3, Iur3_3, b1ur3_3, o1ur3_3, b2ur3_3, o2ur3_3, hsur3_2, hsur3_3, SAur3_3, SBur3_3, hgur3_3, nlur3_3, nhur3_3, gr3_6, bpur3_2, T.pick [1, 0, 3, 4, 5, 6] rfl, M⟩
 intro H0
 refine gq T 0 1 rfl (fun B w' hD hl hS => (Zrr (Mem.nth (show Mem w noEx w' _ from hS) 0 rfl) rfl (T.e 5 rfl) rfl)) ?_; clear T ac; intro ac T
 refine Zgq T 1 3 rfl (fun _ => (Zrm rfl (T.e 2 rfl))) ?_; clear T ac; intro ac T
 refine Zgq T 5 35 rfl (fun _ => (Zrm rfl (T.e 2 rfl))) ?_; clear T ac; intro ac T
 refine g_m2 (i := 2) (j := 6) (by kernel_rfl) ?_ ?_
 ·refine gi 39 ?_; intro K hK
  refine Zod T rfl rfl rfl rfl evf (.cons (T.e 1 rfl) .nil) Tryz.func9 rfl rfl ?_
  refine Calls.mono (newPot_any _ _ _ l _ (SI.rd M (Zz9 _)) (by omega)) ?_
  clear T; rintro e wc ⟨bpur3_2, sur3_2, hsur3_2, rfl, N⟩ ac T
  replace M := M.join N; clear N
  replace M := M.mask [true, true] rfl
  refine Zso hK _ _ (M.mask [false, true] rfl) ?_; clear hK K
  refine g_m2 (i := 3) (j := 6) (by kernel_rfl) ?_ ?_
  ·refine gi 47 ?_; intro K hK
   refine Zod T rfl rfl rfl rfl evf (.cons (T.e 0 rfl) (.cons evc (.cons evc (.cons evc .nil)))) Tryz.func8 rfl rfl ?_
   refine Calls.mono (boxOf_any _ bpur3_2 4 5 4 _ (by omega) (by omega) (by omega) (M.nth 0 rfl) hsur3_2) ?_
   clear T; rintro e wc ⟨bur3_3, Aur3_3, cur3_3, Bur3_3, dur3_3, sur3_3, Iur3_3, rfl, hmur3_3, hsur3_3, SAur3_3, SBur3_3, N⟩ ac T
   obtain ⟨b1ur3_3, o1ur3_3, SAur3_3⟩ := SAur3_3
   replace SAur3_3 := SAur3_3 w noEx
   obtain ⟨b2ur3_3, o2ur3_3, SBur3_3⟩ := SBur3_3
   replace SBur3_3 := SBur3_3 w noEx
   replace M := (M.joinW .head N).swapI
   clear N
   replace M : Mem w noEx wc ((bpur3_2, .cells [.int .u64 sur3_3]) :: (g1, .cells (bxM b (.slice A b.lows.length c) (.slice B b.highs.length d))) :: Iur3_3) := M
   have hgur3_3 := hmur3_3.good
   have nlur3_3 := hgur3_3.lows.1
   have nhur3_3 := hgur3_3.highs.1
   have hstur3_3 := step_bd (notes := 3) hmur3_3.law.step hmur3_3.note
   have hnour3_3 := hmur3_3.note
   have ⟨hfur3_3, hzur3_3, hpur3_3, hqur3_3⟩ := hmur3_3.law
   dsimp only at hstur3_3 hfur3_3 hpur3_3 hqur3_3
   refine Zso hK _ _ (M.perm [1] rfl rfl) ?_; clear hK K
   refine g_m2 (i := 4) (j := 6) (by kernel_rfl) ?_ ?_
   ·refine gi 63 ?_; intro K hK
    refine ow_bs (e := 30) [Zi b.first, Zi b.step, Zi b.span, Zi b.press, Zi b.note, .slice A b.lows.length c, .slice B b.highs.length d, Zi b.t0, Zi b.t1, Zi b.r0, Zi b.r1, Zi b.u0, Zi b.u1, Zi b.d0, Zi b.d1, Zi b.a0, Zi b.a1, Zi b.b0, Zi b.b1, Zi b.le, Zi b.me, Zi bur3_3.first, Zi bur3_3.step, Zi bur3_3.span, Zi bur3_3.press, Zi bur3_3.note, .slice Aur3_3 bur3_3.lows.length cur3_3, .slice Bur3_3 bur3_3.highs.length dur3_3, Zi bur3_3.t0, Zi bur3_3.t1, Zi bur3_3.r0, Zi bur3_3.r1, Zi bur3_3.u0, Zi bur3_3.u1, Zi bur3_3.d0, Zi bur3_3.d1, Zi bur3_3.a0, Zi bur3_3.a1, Zi bur3_3.b0, Zi bur3_3.b1, Zi bur3_3.le, Zi bur3_3.me] M T rfl rfl rfl rfl (.cons (T.e 4 rfl) (.cons (T.e 0 rfl) .nil)) (fun _ => by kernel_rfl) ?_; clear M T; intro gr3_4 wc ac M T
    refine Zso hK _ _ (M.perm [2] rfl rfl) ?_; clear hK K
    refine Zgq T 7 191 rfl (fun _ => (Zra rfl (T.e 0 rfl))) ?_; clear T ac; intro ac T
    refine gw 6 255 ?_; intro K hK
    refine ow_bsR (e := 9) (size := 1) [sv text] M T rfl rfl rfl rfl (.cons (T.e 4 rfl) .nil) (fun _ => by kernel_rfl) rfl rfl rfl ?_; clear M T; intro gr3_6 wc ac M T
    refine Zso hK _ _ (M.perm [3] rfl rfl) ?_; clear hK K
    exact H2 _ _ ⟨sur3_2, bur3_3, Aur3_3, cur3_3, Bur3_3, dur3_3, sur3_3, Iur3_3, b1ur3_3, o1ur3_3, b2ur3_3, o2ur3_3, hsur3_2, hsur3_3, SAur3_3, SBur3_3, hgur3_3, nlur3_3, nhur3_3, gr3_6, gr3_4, bpur3_2, T.pick [0, 1, 10, 11, 12] rfl, M⟩
   refine gi 111 ?_; intro K hK
   refine ow_bsR (e := 9) (size := 1) [sv text] M T rfl rfl rfl rfl (.cons (T.e 2 rfl) .nil) (fun _ => by kernel_rfl) rfl rfl rfl ?_; clear M T; intro gr3_6 wc ac M T
   refine Zso hK _ _ (M.perm [2] rfl rfl) ?_; clear hK K
   exact H1 _ _ ⟨sur3_2, bur3_3, Aur3_3, cur3_3, Bur3_3, dur3_3, sur3_3, Iur3_3, b1ur3_3, o1ur3_3, b2ur3_3, o2ur3_3, hsur3_2, hsur3_3, SAur3_3, SBur3_3, hgur3_3, nlur3_3, nhur3_3, gr3_6, bpur3_2, T.pick [0, 1, 5, 8, 9, 10] rfl, M⟩
  refine gi 103 ?_; intro K hK
  refine ow_bsR (e := 9) (size := 1) [sv text] M T rfl rfl rfl rfl (.cons (T.e 1 rfl) .nil) (fun _ => by kernel_rfl) rfl rfl rfl ?_; clear M T; intro gr3_6 wc ac M T
  refine Zso hK _ _ (M.mask [false, false, true] rfl) ?_; clear hK K
  exact H0 _ _ ⟨sur3_2, hsur3_2, gr3_6, bpur3_2, T.pick [0, 1, 4, 7, 8, 9] rfl, M⟩
 refine gi 99 ?_; intro K hK
 refine ow_bsR (e := 9) (size := 1) [sv text] M T rfl rfl rfl rfl (.cons (T.e 0 rfl) .nil) (fun _ => by kernel_rfl) rfl rfl rfl ?_; clear M T; intro gr3_6 wc ac M T
 refine Zso hK _ _ (M.mask [false, true] rfl) ?_; clear hK K
 refine gw 2 103 ?_; intro K hK
 refine Zod T rfl rfl rfl rfl evf (.cons (T.e 2 rfl) .nil) Tryz.func9 rfl rfl ?_
 refine Calls.mono (newPot_any _ _ _ l _ (SI.rd M (Zz9 _)) (by omega)) ?_
 clear T; rintro e wc ⟨bpur3_2, sur3_2, hsur3_2, rfl, N⟩ ac T
 replace M := M.join N; clear N
 replace M := M.mask [true, true, true] rfl
 refine Zso hK _ _ (M.mask [false, false, true] rfl) ?_; clear hK K
 exact H0 _ _ ⟨sur3_2, hsur3_2, gr3_6, bpur3_2, T.pick [1, 0, 4, 7, 8, 9] rfl, M.perm [1, 0, 2] rfl rfl⟩
end Go.Proofs.YtaikhendogcflaaGreatDoor

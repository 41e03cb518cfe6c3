/-
  Walks of functions, and plain laws (texts put together). No condition.
-/
import Derived.Test.YtlahdenlmmlplaaMVoiceSpan1
import Derived.Test.YtlahdenlmmlplaaMVoiceSpan2
import Derived.Test.YtlahdenlmmlplaaMVoiceSpan3
import Derived.Test.YtlahdenlmmlplaaMVoiceSpan4
set_option maxRecDepth 100000
set_option maxHeartbeats 1000000
section
/-
 reed: Guided and Next, whole.
-/
namespace Go.Proofs.Ytlahdenlmmlplaa
set_option linter.unusedSimpArgs false
set_option linter.unusedVariables false
open Go.RowKit
def guidedF (j : Jb) : Option Nat := firstB (fun n => readsP j (winS j).1 (winS j).2 n j.p0 j.p1 0 0) 5 0
def nextF (j : Jb) : Option Nat := firstB (fun n => stopsP j (winS j).1 (winS j).2 n j.p0 j.p1 0 0) 5 0
def guidedJ (j : Jb) : Int × Int := if checkJ j = 0 then (match guidedF j with | some n => ((n : Int), 0) | none => (0, 11)) else (0, checkJ j)
def nextJ (j : Jb) : Int × Int × Int := if checkJ j = 0 then (match nextF j with | some n => if n = 0 then (0, 0, 0) else (strokeP j (winS j).1 (winS j).2 n j.p0 j.p1 0 0, (n : Int), 0) | none => (0, 0, 11)) else (0, 0, checkJ j)
theorem Gn.of_mem {j : Jb} {A : Option Addr} {c : Nat} {s0 s1 : Int} {bg bx bm gG gJ : Nat} {w0 w : World} {ex : Nat → Prop} {L : List (Nat × BA)} (M : Mem w0 ex w L)
   (h : [(gG, .cells (gmA j A c s0 s1 bg bx)), (bx, .cells [.map (some bm)]), (bm, memG j s0 s1), (bg, .cells (gmA j A c s0 s1 bg bx)), (gJ, .cells [.int .i64 j.p0, .int .i64 j.p1, .int .i64 j.t0, .int .i64 j.t1, .int .i64 j.r0, .int .i64 j.r1, .int .i64 j.u0, .int .i64 j.u1, .int .i64 j.d0, .int .i64 j.d1, .int .i64 j.a0, .int .i64 j.a1, .int .i64 j.b0, .int .i64 j.b1, .int .i64 j.le, .slice A j.sh.length c, .int .i64 j.wi, .int .i64 j.me])].Sublist L) : Gn j A c s0 s1 bg bx bm gG gJ w := by
 have N := M.sub h
 have hnd := N.nd
 simp only [List.map_cons, List.map_nil, List.nodup_cons, List.mem_cons, not_or, List.not_mem_nil, not_false_eq_true, List.nodup_nil, and_true] at hnd
 obtain ⟨⟨-, n1, -, -⟩, ⟨n2, -, -⟩, ⟨n3, n4⟩, -⟩ := hnd
 exact ⟨⟨N.get (g := bg) (by (repeat' (first | exact List.mem_cons_self | refine List.mem_cons_of_mem _ ?_))), N.get (g := bx) (by (repeat' (first | exact List.mem_cons_self | refine List.mem_cons_of_mem _ ?_))), N.at (q := (bm, memG j s0 s1)) (by (repeat' (first | exact List.mem_cons_self | refine List.mem_cons_of_mem _ ?_))), fun e => n3 e.symm, n2⟩, N.get (g := gG) (by (repeat' (first | exact List.mem_cons_self | refine List.mem_cons_of_mem _ ?_))), N.get (g := gJ) (by (repeat' (first | exact List.mem_cons_self | refine List.mem_cons_of_mem _ ?_))), n1, fun e => n4 e.symm⟩
theorem Guided_any (j : Jb) (A : Option Addr) (c : Nat) (w : World) (hr : Rd w w.heap.size 2 A j.sh.length (rc j.sh)) (hn : j.sh.length ≤ 9223372036854775807) :
   Calls Try.prog 94 #[jobV j A c] w fun e w' => e = .returned (.tuple #[.int .i64 (guidedJ j).1, .int .i64 (guidedJ j).2]) ∧ Below w.heap.size w w' := by
 have HR := Lib.hid hr
 clear hr
 by_cases h0 : checkJ j = 0
 · have HJ := Lib.hid (good_of h0)
   have H0 := Lib.hid h0
   cases hq : guidedF j with
   | none =>
     have HF : Hid (firstB (fun n => readsP j (winS j).1 (winS j).2 n j.p0 j.p1 0 0) 5 0 = none) := hq
     have HW : Hid (guidedJ j = (0, 11)) := by show _ = _; unfold guidedJ; rw [if_pos h0, hq]
     clear h0 hq
     generalize guidedJ j = gj at *
     go_enter Try.func94, Try.ntmps94
     refine start noEx ?_
     intro wc M
     go_wp2_with (first | (refine m_ld1 M rfl rfl rfl (by (repeat' (first | exact List.mem_cons_self | refine List.mem_cons_of_mem _ ?_))) (by rfl) ?_) | (refine m_ldr M rfl rfl rfl (by (repeat' (first | exact List.mem_cons_self | refine List.mem_cons_of_mem _ ?_))) (by (try simp only [List.take_succ_cons, List.take_zero, List.take_nil, List.drop_succ_cons, List.drop_zero, List.drop_nil, List.cons_append, List.nil_append, List.append_nil, List.length_cons, List.length_nil, Nat.reduceAdd, Nat.zero_add, Nat.add_zero]); rfl) (by rfl) ?_) | (refine m_st M rfl rfl rfl (by first | exact (rfl : _ = Value.agg _) | exact (rfl : _ = Value.int _ _) | exact (rfl : _ = Value.bool _) | exact (rfl : _ = Value.slice _ _ _) | exact (rfl : _ = Value.pointer _) | exact (rfl : _ = Value.map _) | exact (rfl : _ = Value.func _ _ _) | exact (rfl : _ = Value.string _)) (by rfl) (by (repeat (first | exact Upd.head | apply Upd.tail))) (by (try simp only [List.take_succ_cons, List.take_zero, List.take_nil, List.drop_succ_cons, List.drop_zero, List.drop_nil, List.cons_append, List.nil_append, List.append_nil, List.length_cons, List.length_nil, Nat.reduceAdd, Nat.zero_add, Nat.add_zero]); rfl) (by simp) (by simp [Value.oneCell']) (by kernel_rfl) ?_; clear M; (try clear wc); intro wc M) | (refine m_al M rfl rfl ?_; clear M; (try clear wc); intro g wc M) | (refine m_bx M rfl rfl (by first | exact (rfl : _ = Value.agg _) | exact (rfl : _ = Value.int _ _) | exact (rfl : _ = Value.bool _) | exact (rfl : _ = Value.slice _ _ _) | exact (rfl : _ = Value.pointer _) | exact (rfl : _ = Value.map _) | exact (rfl : _ = Value.func _ _ _) | exact (rfl : _ = Value.string _)) (by rfl) ?_; clear M; (try clear wc); intro g wc M) | (go_at_call 84; ((with_reducible refine (check_any j _ _ _ ?_ ?_).mono ?_); ((exact M.rd HR.out (Nat.le_refl _)); (exact hn)); rw [H0.out]; rintro e wc ⟨rfl, hb⟩; replace M := M.call hb; clear hb)) | (go_at_call 116; refine (play_any (okG j (winS j).1 (winS j).2) j _ _ _ HJ.out.ok ?_).mono ?_; (exact M.rd HR.out (Nat.le_refl _)); rintro e wc ⟨bg, bx, bm, rfl, N⟩; replace M := M.join N; clear N; simp only [List.cons_append, List.nil_append] at M) | (go_at_call 117; refine (fewest_Guided j (winS j).1 (winS j).2 bm _ _ (fun n => readsP j (winS j).1 (winS j).2 n j.p0 j.p1 0 0) (Gn j A c (winS j).1 (winS j).2 bg bx bm _ _) (fun W W' h1 h2 h3 => h1.kept h2 h3) (fun n W hn h => Guided1_any j A c (winS j).1 (winS j).2 bg bx bm _ _ HJ.out n hn W h) _ (Gn.of_mem M (by (repeat (first | exact List.Sublist.slnil | apply List.Sublist.cons_cons | apply List.Sublist.cons)))) (M.at (q := (bm, memG j (winS j).1 (winS j).2)) (by (repeat' (first | exact List.mem_cons_self | refine List.mem_cons_of_mem _ ?_))))).mono ?_; rintro e wc ⟨rfl, hgr, hm⟩; rw [HF.out]; dsimp only [fewV]; replace M := M.callW (by (repeat (first | exact Upd.head | apply Upd.tail))) hgr hm; clear hgr hm))
     go_ret2
     rw [HW.out]
     exact ⟨rfl, M.below⟩
   | some n =>
     have HF : Hid (firstB (fun n => readsP j (winS j).1 (winS j).2 n j.p0 j.p1 0 0) 5 0 = some n) := hq
     have HW : Hid (guidedJ j = ((n : Int), 0)) := by show _ = _; unfold guidedJ; rw [if_pos h0, hq]
     clear h0 hq
     generalize guidedJ j = gj at *
     go_enter Try.func94, Try.ntmps94
     refine start noEx ?_
     intro wc M
     go_wp2_with (first | (refine m_ld1 M rfl rfl rfl (by (repeat' (first | exact List.mem_cons_self | refine List.mem_cons_of_mem _ ?_))) (by rfl) ?_) | (refine m_ldr M rfl rfl rfl (by (repeat' (first | exact List.mem_cons_self | refine List.mem_cons_of_mem _ ?_))) (by (try simp only [List.take_succ_cons, List.take_zero, List.take_nil, List.drop_succ_cons, List.drop_zero, List.drop_nil, List.cons_append, List.nil_append, List.append_nil, List.length_cons, List.length_nil, Nat.reduceAdd, Nat.zero_add, Nat.add_zero]); rfl) (by rfl) ?_) | (refine m_st M rfl rfl rfl (by first | exact (rfl : _ = Value.agg _) | exact (rfl : _ = Value.int _ _) | exact (rfl : _ = Value.bool _) | exact (rfl : _ = Value.slice _ _ _) | exact (rfl : _ = Value.pointer _) | exact (rfl : _ = Value.map _) | exact (rfl : _ = Value.func _ _ _) | exact (rfl : _ = Value.string _)) (by rfl) (by (repeat (first | exact Upd.head | apply Upd.tail))) (by (try simp only [List.take_succ_cons, List.take_zero, List.take_nil, List.drop_succ_cons, List.drop_zero, List.drop_nil, List.cons_append, List.nil_append, List.append_nil, List.length_cons, List.length_nil, Nat.reduceAdd, Nat.zero_add, Nat.add_zero]); rfl) (by simp) (by simp [Value.oneCell']) (by kernel_rfl) ?_; clear M; (try clear wc); intro wc M) | (refine m_al M rfl rfl ?_; clear M; (try clear wc); intro g wc M) | (refine m_bx M rfl rfl (by first | exact (rfl : _ = Value.agg _) | exact (rfl : _ = Value.int _ _) | exact (rfl : _ = Value.bool _) | exact (rfl : _ = Value.slice _ _ _) | exact (rfl : _ = Value.pointer _) | exact (rfl : _ = Value.map _) | exact (rfl : _ = Value.func _ _ _) | exact (rfl : _ = Value.string _)) (by rfl) ?_; clear M; (try clear wc); intro g wc M) | (go_at_call 84; ((with_reducible refine (check_any j _ _ _ ?_ ?_).mono ?_); ((exact M.rd HR.out (Nat.le_refl _)); (exact hn)); rw [H0.out]; rintro e wc ⟨rfl, hb⟩; replace M := M.call hb; clear hb)) | (go_at_call 116; refine (play_any (okG j (winS j).1 (winS j).2) j _ _ _ HJ.out.ok ?_).mono ?_; (exact M.rd HR.out (Nat.le_refl _)); rintro e wc ⟨bg, bx, bm, rfl, N⟩; replace M := M.join N; clear N; simp only [List.cons_append, List.nil_append] at M) | (go_at_call 117; refine (fewest_Guided j (winS j).1 (winS j).2 bm _ _ (fun n => readsP j (winS j).1 (winS j).2 n j.p0 j.p1 0 0) (Gn j A c (winS j).1 (winS j).2 bg bx bm _ _) (fun W W' h1 h2 h3 => h1.kept h2 h3) (fun n W hn h => Guided1_any j A c (winS j).1 (winS j).2 bg bx bm _ _ HJ.out n hn W h) _ (Gn.of_mem M (by (repeat (first | exact List.Sublist.slnil | apply List.Sublist.cons_cons | apply List.Sublist.cons)))) (M.at (q := (bm, memG j (winS j).1 (winS j).2)) (by (repeat' (first | exact List.mem_cons_self | refine List.mem_cons_of_mem _ ?_))))).mono ?_; rintro e wc ⟨rfl, hgr, hm⟩; rw [HF.out]; dsimp only [fewV]; replace M := M.callW (by (repeat (first | exact Upd.head | apply Upd.tail))) hgr hm; clear hgr hm))
     go_ret2
     rw [HW.out]
     exact ⟨rfl, M.below⟩
 · have h1 : (checkJ j != 0) = true := by simpa using h0
   have HW : Hid (guidedJ j = (0, checkJ j)) := by show _ = _; unfold guidedJ; rw [if_neg h0]
   clear h0
   generalize guidedJ j = gj at *
   go_enter Try.func94, Try.ntmps94
   refine start noEx ?_
   intro wc M
   go_wp2_with (first | (refine m_ld1 M rfl rfl rfl (by (repeat' (first | exact List.mem_cons_self | refine List.mem_cons_of_mem _ ?_))) (by rfl) ?_) | (refine m_ldr M rfl rfl rfl (by (repeat' (first | exact List.mem_cons_self | refine List.mem_cons_of_mem _ ?_))) (by (try simp only [List.take_succ_cons, List.take_zero, List.take_nil, List.drop_succ_cons, List.drop_zero, List.drop_nil, List.cons_append, List.nil_append, List.append_nil, List.length_cons, List.length_nil, Nat.reduceAdd, Nat.zero_add, Nat.add_zero]); rfl) (by rfl) ?_) | (refine m_st M rfl rfl rfl (by first | exact (rfl : _ = Value.agg _) | exact (rfl : _ = Value.int _ _) | exact (rfl : _ = Value.bool _) | exact (rfl : _ = Value.slice _ _ _) | exact (rfl : _ = Value.pointer _) | exact (rfl : _ = Value.map _) | exact (rfl : _ = Value.func _ _ _) | exact (rfl : _ = Value.string _)) (by rfl) (by (repeat (first | exact Upd.head | apply Upd.tail))) (by (try simp only [List.take_succ_cons, List.take_zero, List.take_nil, List.drop_succ_cons, List.drop_zero, List.drop_nil, List.cons_append, List.nil_append, List.append_nil, List.length_cons, List.length_nil, Nat.reduceAdd, Nat.zero_add, Nat.add_zero]); rfl) (by simp) (by simp [Value.oneCell']) (by kernel_rfl) ?_; clear M; (try clear wc); intro wc M) | (refine m_al M rfl rfl ?_; clear M; (try clear wc); intro g wc M) | (refine m_bx M rfl rfl (by first | exact (rfl : _ = Value.agg _) | exact (rfl : _ = Value.int _ _) | exact (rfl : _ = Value.bool _) | exact (rfl : _ = Value.slice _ _ _) | exact (rfl : _ = Value.pointer _) | exact (rfl : _ = Value.map _) | exact (rfl : _ = Value.func _ _ _) | exact (rfl : _ = Value.string _)) (by rfl) ?_; clear M; (try clear wc); intro g wc M) | (go_at_call 84; ((with_reducible refine (check_any j _ _ _ ?_ ?_).mono ?_); ((exact M.rd HR.out (Nat.le_refl _)); (exact hn)); rintro e wc ⟨rfl, hb⟩; replace M := M.call hb; clear hb)))
   go_ret2
   rw [HW.out]
   exact ⟨rfl, M.below⟩
end Go.Proofs.Ytlahdenlmmlplaa
end

section
/-
 voice: the job of a pair, and its strokes.
-/
namespace Go.Proofs.Ytlahdenlmmlplaa
set_option linter.unusedSimpArgs false
set_option linter.unusedVariables false
open Go.RowKit
def shL (b : Bx) (x y : Snd) : List (Int × Int) := (List.range (b.press + 1).toNat).map fun (p : Nat) => riseP x y (p : Int)
def jobP (b : Bx) (x y : Snd) : Jb := { blankJ b with p0 := y.t0 - b.due, p1 := y.t1 - b.due, sh := shL b x y }
theorem shL_take {b : Bx} {x y : Snd} {k : Nat} (h : (k : Int) ≤ b.press) : (shL b x y).take (k + 1) = (shL b x y).take k ++ [riseP x y (k : Int)] := by
 unfold shL
 rw [List.take_add_one, List.getElem?_map, List.getElem?_range (by omega)]
 rfl
theorem shL_length (b : Bx) (x y : Snd) : (shL b x y).length = (b.press + 1).toNat := by simp [shL]
def JobPost (j : Jb) (w : World) (e : Ending) (w' : World) : Prop := ∃ A c I, e = .returned (jobV j A c) ∧ (∃ b o, ∀ (w : World) (ex : Nat → Prop), Sp w ex I A j.sh.length 2 b o (rc j.sh)) ∧ Mem w noEx w' I
def JEPost (j : Jb) (er : Int) (w : World) (e : Ending) (w' : World) : Prop := ∃ A c I, e = .returned (.tuple #[jobV j A c, .int .i64 er]) ∧ (∃ b o, ∀ (w : World) (ex : Nat → Prop), Sp w ex I A j.sh.length 2 b o (rc j.sh)) ∧ Mem w noEx w' I
def zeroJ : Jb := ⟨0, 0, 0, 0, 0, 0, 0, 0, 0, 0, 0, 0, 0, 0, 0, [], 0, 0⟩
def jobE (b : Bx) (i k : Int) : Jb := if checkPB b i k = 0 then jobP b (b.low i) (b.high k) else zeroJ
def strokesE (b : Bx) (i k : Int) : Int × Int := if checkPB b i k = 0 then guidedJ (jobP b (b.low i) (b.high k)) else (0, checkPB b i k)
theorem vjob_any (b : Bx) (A : Option Addr) (c : Nat) (B : Option Addr) (d : Nat) (i k : Int) (il kl : Nat) (x y : Snd) (w : World) (hA : Rd w w.heap.size 4 A b.lows.length (sc b.lows)) (hB : Rd w w.heap.size 4 B b.highs.length (sc b.highs)) (gb : b.good) (hil : i = (il : Nat)) (hkl : k = (kl : Nat)) (hkx : b.lows[il]? = some x) (hky : b.highs[kl]? = some y) :
   Calls Try.prog 83 #[bxV b A c B d, .int .i64 i, .int .i64 k] w (JobPost (jobP b x y) w) := by
 have hlA := hA.len4
 have hlB := hB.len4
 obtain ⟨bA, oA, SA⟩ := Sp.old hA
 obtain ⟨bB, oB, SB⟩ := Sp.old hB
 have hil9 := (List.getElem?_eq_some_iff.1 hkx).1
 have hkl9 := (List.getElem?_eq_some_iff.1 hky).1
 have gl3 := gb.law.span
 have gl4 := gb.law.press
 have gn := gb.note
 have gf := gb.law.first
 have gs := gb.law.step
 have gd := gb.due
 unfold Bx.due at gd
 dsimp only at gl3 gl4 gf gs
 have nA := gb.lows.1
 have nB := gb.highs.1
 have gx := gb.lows.2 x (List.mem_of_getElem? hkx)
 have gy := gb.highs.2 y (List.mem_of_getElem? hky)
 obtain ⟨⟨gx1, gx2⟩, gy1, gy2⟩ := And.intro gx gy
 refine px_enter noEx Try.func83 rfl 55 rfl [.agg #[.int .i64 b.first, .int .i64 b.step, .int .i64 b.span, .int .i64 b.press, .int .i64 b.note, .slice A b.lows.length c, .slice B b.highs.length d, .int .i64 b.t0, .int .i64 b.t1, .int .i64 b.r0, .int .i64 b.r1, .int .i64 b.u0, .int .i64 b.u1, .int .i64 b.d0, .int .i64 b.d1, .int .i64 b.a0, .int .i64 b.a1, .int .i64 b.b0, .int .i64 b.b1, .int .i64 b.le, .int .i64 b.me], .int .i64 i, .int .i64 k] rfl rfl (Mem.init w _) ?_
 intro ac wc T M
 refine wp_seq ?_
 refine wp_region_lit ?_
 refine l_w rfl ?_; intro K hK
 refine ow_bx M T rfl rfl rfl rfl (T.ev 0 rfl) rfl ?_; clear M T; intro g1 wc ac M T
 refine sh_out hK _ _ ?_; clear hK K
 refine l_w rfl ?_; intro K hK
 refine ow_al M T rfl rfl rfl rfl ?_; clear M T; intro g2 wc ac M T
 refine sh_out hK _ _ ?_; clear hK K
 refine wpList_nil ?_
 replace T := T.pick [0, 1, 3, 4] rfl
 refine nm_then ?_
 refine wp_seq ?_
 refine g_start2 M (M.mask [true, true] rfl) 10 (by kernel_rfl) rfl (by kernel_rfl) ?_
 clear M; intro wc M
 refine g_have (fun ac wc => ∃ (gr1_7 : Nat), Tm ac 55 [(7, .pointer (some ⟨gr1_7, 0, none⟩)), (16, .int .i64 (b.first + b.step * b.note)), (11, .agg #[.int .i64 0, .int .i64 0, .int .i64 b.t0, .int .i64 b.t1, .int .i64 b.r0, .int .i64 b.r1, .int .i64 b.u0, .int .i64 b.u1, .int .i64 b.d0, .int .i64 b.d1, .int .i64 b.a0, .int .i64 b.a1, .int .i64 b.b0, .int .i64 b.b1, .int .i64 b.le, .slice none 0 0, .int .i64 b.span, .int .i64 b.me]), (15, .int .i64 b.note), (14, .pointer (some ⟨g1, 4, none⟩)), (13, .agg #[.int .i64 b.first, .int .i64 b.step, .int .i64 b.span, .int .i64 b.press]), (12, .pointer (some ⟨g1, 0, none⟩)), (10, .agg #[.int .i64 b.first, .int .i64 b.step, .int .i64 b.span, .int .i64 b.press, .int .i64 b.note, .slice A b.lows.length c, .slice B b.highs.length d, .int .i64 b.t0, .int .i64 b.t1, .int .i64 b.r0, .int .i64 b.r1, .int .i64 b.u0, .int .i64 b.u1, .int .i64 b.d0, .int .i64 b.d1, .int .i64 b.a0, .int .i64 b.a1, .int .i64 b.b0, .int .i64 b.b1, .int .i64 b.le, .int .i64 b.me]), (6, .pointer (some ⟨g2, 0, none⟩)), (3, .pointer (some ⟨g1, 0, none⟩)), (1, .int .i64 i), (2, .int .i64 k)] ∧ Mem w noEx wc [(gr1_7, .cells [.int .i64 0, .int .i64 0, .int .i64 0, .int .i64 0, .int .i64 0, .int .i64 0, .int .i64 0, .int .i64 0, .int .i64 0, .int .i64 0, .int .i64 0, .int .i64 0, .int .i64 0, .int .i64 0, .int .i64 0, .slice none 0 0, .int .i64 0, .int .i64 0]), (g2, .cells [.int .i64 0, .int .i64 0, .int .i64 0, .int .i64 0, .int .i64 0, .int .i64 0, .int .i64 0, .int .i64 0, .int .i64 0, .int .i64 0, .int .i64 0, .int .i64 0, .int .i64 0, .int .i64 0, .int .i64 0, .slice none 0 0, .int .i64 0, .int .i64 0]), (g1, .cells [.int .i64 b.first, .int .i64 b.step, .int .i64 b.span, .int .i64 b.press, .int .i64 b.note, .slice A b.lows.length c, .slice B b.highs.length d, .int .i64 b.t0, .int .i64 b.t1, .int .i64 b.r0, .int .i64 b.r1, .int .i64 b.u0, .int .i64 b.u1, .int .i64 b.d0, .int .i64 b.d1, .int .i64 b.a0, .int .i64 b.a1, .int .i64 b.b0, .int .i64 b.b1, .int .i64 b.le, .int .i64 b.me])]) (pbits 10 255) 2 ?_ ?_
 ·clear T M
  rintro ac wc ⟨gr1_7, T, M⟩
  refine gw 8 511 ?_; intro K hK
  refine ow_stO M T rfl rfl (T.ev 0 rfl) (T.ev 2 rfl) rfl .head rfl (by simp) rfl (by kernel_rfl) ?_; clear M T; intro wc ac M T
  refine sh_out hK _ _ (M.mask [false, true, true] rfl) ?_; clear hK K
  refine gq T 9 1023 rfl (fun _ _ _ _ _ => (rn_assign rfl (T.ev 1 rfl))) ?_; clear T ac; intro ac T
  refine g_done (by kernel_rfl) ?_
  replace T := T.pick [0, 1, 9, 10, 11, 12] rfl
  refine nm_then ?_
  refine wp_seq ?_
  refine wp_region_lit ?_
  refine lq (v := (.pointer (some ⟨g1, 6, none⟩))) T (rn_fieldAddr (off := 6) rfl (T.ev 3 rfl) (fun _ _ _ => by kernel_rfl)) ?_; clear T ac; intro ac T
  refine lq T (rn_one (Mem.nth M 2 rfl) rfl (T.ev 0 rfl) rfl) ?_; clear T ac; intro ac T
  refine lq T (rn_move rfl (T.ev 7 rfl)) ?_; clear T ac; intro ac T
  refine lq T (rn_indexAddr (size := 4) kl rfl (T.ev 1 rfl) (T.ev 0 rfl) ⟨_, Try.underlying38, by kernel_rfl⟩ hkl (by omega) (SB.at0 (by omega))) ?_; clear T ac; intro ac T
  refine lq T (rn_fieldAddr (off := 0) rfl (T.ev 0 rfl) (fun _ _ _ => by kernel_rfl)) ?_; clear T ac; intro ac T
  refine lq (v := (.agg #[.int .i64 y.t0, .int .i64 y.t1])) T (rn_rowat (Sp.scR02 SB M (List.nil_sublist _) hky) rfl (T.ev 0 rfl) rfl) ?_; clear T ac; intro ac T
  refine lq T (rn_move rfl (T.ev 6 rfl)) ?_; clear T ac; intro ac T
  refine lq T (rn_move rfl (T.ev 7 rfl)) ?_; clear T ac; intro ac T
  refine lq (v := (.agg #[.int .i64 (b.first + b.step * b.note), .int .i64 (b.first + b.step * b.note)])) T (rn_build rfl (.cons (T.ev 1 rfl) (.cons (T.ev 0 rfl) .nil)) (fun _ => by kernel_rfl)) ?_; clear T ac; intro ac T
  refine l_w rfl ?_; intro K hK
  refine ow_call (first := []) (cap := []) T rfl rfl rfl rfl evf (.cons (T.ev 3 rfl) (.cons (T.ev 0 rfl) .nil)) Try.func106 rfl rfl ?_
  refine Calls.mono (vless_any y.t0 y.t1 (b.first + b.step * b.note) (b.first + b.step * b.note) _ (by omega) (by omega) (by omega) (by omega)) ?_
  clear T
  rintro e wc ⟨rfl, hb⟩
  intro ac T
  replace M := M.call hb; clear hb
  refine sh_out hK _ _ ?_; clear hK K
  refine lq (v := (.pointer (some ⟨gr1_7, 0, none⟩))) T (rn_fieldAddr (off := 0) rfl (T.ev 11 rfl) (fun _ _ _ => by kernel_rfl)) ?_; clear T ac; intro ac T
  refine lq (v := (.pointer (some ⟨gr1_7, 0, none⟩))) T (rn_fieldAddr (off := 0) rfl (T.ev 0 rfl) (fun _ _ _ => by kernel_rfl)) ?_; clear T ac; intro ac T
  refine l_w rfl ?_; intro K hK
  refine ow_stO M T rfl rfl (T.ev 0 rfl) (T.ev 2 rfl) rfl .head rfl (by simp) rfl (by kernel_rfl) ?_; clear M T; intro wc ac M T
  refine sh_out hK _ _ ?_; clear hK K
  refine wpList_nil ?_
  replace T := T.pick [13, 14, 15, 16, 17] rfl
  refine nm_then ?_
  refine wp_seq ?_
  refine wp_seq ?_
  refine wp_region_lit ?_
  refine lq (v := (.pointer (some ⟨g1, 0, none⟩))) T (rn_fieldAddr (off := 0) rfl (T.ev 2 rfl) (fun _ _ _ => by kernel_rfl)) ?_; clear T ac; intro ac T
  refine lq (v := (.pointer (some ⟨g1, 3, none⟩))) T (rn_fieldAddr (off := 3) rfl (T.ev 0 rfl) (fun _ _ _ => by kernel_rfl)) ?_; clear T ac; intro ac T
  refine lq T (rn_one (Mem.nth M 2 rfl) rfl (T.ev 0 rfl) rfl) ?_; clear T ac; intro ac T
  refine lq T (rn_add rfl (T.ev 0 rfl) evc (by omega)) ?_; clear T ac; intro ac T
  refine lq T (rn_move rfl evc) ?_; clear T ac; intro ac T
  refine wpList_nil ?_
  replace T := T.pick [0, 1, 5, 6, 7, 8, 9] rfl
  refine nm_then ?_
  refine wp_block ?_
  refine wp_loop_n (fun mz ac wc => ∃ (q : Nat) (A3 : Option Addr) (c3 : Nat) (Io : List (Nat × BA)), mz = (b.press + 1 - q).toNat ∧ ((q : Int) ≤ b.press + 1) ∧ (((shL b x y).take q).length ≤ 4) ∧ (Sl 40 2 (.slice A3 ((shL b x y).take q).length c3) ((shL b x y).take q).length (rc ((shL b x y).take q)) Io) ∧ Tm ac 55 [(1, .int .i64 i), (2, .int .i64 k), (3, .pointer (some ⟨g1, 0, none⟩)), (6, .pointer (some ⟨g2, 0, none⟩)), (7, .pointer (some ⟨gr1_7, 0, none⟩)), (32, .int .i64 (b.press + 1)), (33, .int .i64 (q : Int))] ∧ Mem w noEx wc ((gr1_7, .cells [.int .i64 (y.t0 - (b.first + b.step * b.note)), .int .i64 (y.t1 - (b.first + b.step * b.note)), .int .i64 b.t0, .int .i64 b.t1, .int .i64 b.r0, .int .i64 b.r1, .int .i64 b.u0, .int .i64 b.u1, .int .i64 b.d0, .int .i64 b.d1, .int .i64 b.a0, .int .i64 b.a1, .int .i64 b.b0, .int .i64 b.b1, .int .i64 b.le, .slice A3 (((shL b x y).take q).length) c3, .int .i64 b.span, .int .i64 b.me]) :: (g2, .cells [.int .i64 0, .int .i64 0, .int .i64 0, .int .i64 0, .int .i64 0, .int .i64 0, .int .i64 0, .int .i64 0, .int .i64 0, .int .i64 0, .int .i64 0, .int .i64 0, .int .i64 0, .int .i64 0, .int .i64 0, .slice none 0 0, .int .i64 0, .int .i64 0]) :: (g1, .cells [.int .i64 b.first, .int .i64 b.step, .int .i64 b.span, .int .i64 b.press, .int .i64 b.note, .slice A b.lows.length c, .slice B b.highs.length d, .int .i64 b.t0, .int .i64 b.t1, .int .i64 b.r0, .int .i64 b.r1, .int .i64 b.u0, .int .i64 b.u1, .int .i64 b.d0, .int .i64 b.d1, .int .i64 b.a0, .int .i64 b.a1, .int .i64 b.b0, .int .i64 b.b1, .int .i64 b.le, .int .i64 b.me]) :: Io)) ?_ ?_
  ·exact ⟨_, 0, none, 0, [], rfl, (by omega), (by simp), (Sl.nil _ _), T.pick [5, 6, 4, 3, 2, 1, 0] rfl, M.mask [true, true, true] rfl⟩
  clear T M
  rintro mz ac wc ⟨q, A3, c3, Io, hmm1, hq, hlq, hsl, T, M⟩
  refine wp_seq ?_
  refine wp_region_lit ?_
  refine lq T (rn_lss rfl (T.ev 6 rfl) (T.ev 5 rfl)) ?_; clear T ac; intro ac T
  refine wpList_nil ?_
  refine nm_then ?_
  refine wp_seq ?_
  refine wp_if (T.ev 0 rfl) ?_ ?_
  ·intro h1
   refine wp_skip ?_
   refine nm_then ?_
   refine wp_seq ?_
   refine wp_block ?_
   refine wp_seq ?_
   refine wp_region_lit ?_
   refine lq T (rn_move rfl (T.ev 7 rfl)) ?_; clear T ac; intro ac T
   refine lq T (rn_assign rfl (T.ev 0 rfl)) ?_; clear T ac; intro ac T
   refine wpList_nil ?_
   replace T := T.pick [0, 3, 4, 5, 6, 7, 8, 9] rfl
   refine nm_then ?_
   refine g_start2 M (M.perm [1, 2] rfl rfl) 18 (by kernel_rfl) rfl (by kernel_rfl) ?_
   clear M; intro wc M
   refine g_addG 17 (M.perm [0, 1, 2] rfl rfl) ?_
   refine gq (v := (.pointer (some ⟨gr1_7, 15, none⟩))) T 0 1 rfl (fun _ _ _ _ _ => (rn_fieldAddr (off := 15) rfl (T.ev 5 rfl) (fun _ _ _ => by kernel_rfl))) ?_; clear T ac; intro ac T
   refine gq T 1 3 rfl (fun B w' hD hl hS => (rn_one (Mem.nth (show Mem w noEx w' _ from ((MA.lft hS) (hD.wait (i := 1) (m := 17) (by kernel_rfl) hl))) 0 rfl) rfl (T.ev 0 rfl) rfl)) ?_; clear T ac; intro ac T
   refine gq (v := (.pointer (some ⟨g1, 5, none⟩))) T 2 7 rfl (fun _ _ _ _ _ => (rn_fieldAddr (off := 5) rfl (T.ev 5 rfl) (fun _ _ _ => by kernel_rfl))) ?_; clear T ac; intro ac T
   refine gq T 3 15 rfl (fun B w' hD hl hS => (rn_one (Mem.nth (show Mem w noEx w' _ from ((MA.lft hS) (hD.wait (i := 3) (m := 17) (by kernel_rfl) hl))) 2 rfl) rfl (T.ev 0 rfl) rfl)) ?_; clear T ac; intro ac T
   refine gq T 4 31 rfl (fun _ _ _ _ _ => (rn_move rfl (T.ev 5 rfl))) ?_; clear T ac; intro ac T
   refine gq T 5 63 rfl (fun _ _ _ _ _ => (rn_indexAddr (size := 4) il rfl (T.ev 1 rfl) (T.ev 0 rfl) ⟨_, Try.underlying38, by kernel_rfl⟩ hil (by omega) (SA.at0 (by omega)))) ?_; clear T ac; intro ac T
   refine gq (v := (.agg #[.int .i64 x.t0, .int .i64 x.t1, .int .i64 x.s0, .int .i64 x.s1])) T 6 127 rfl (fun B w' hD hl hS => (rn_rowat (Sp.scR4 SA (show Mem w noEx w' _ from ((MA.lft hS) (hD.wait (i := 6) (m := 17) (by kernel_rfl) hl))) (List.nil_sublist _) hkx) rfl (T.ev 0 rfl) rfl)) ?_; clear T ac; intro ac T
   refine gq (v := (.pointer (some ⟨g1, 6, none⟩))) T 7 255 rfl (fun _ _ _ _ _ => (rn_fieldAddr (off := 6) rfl (T.ev 10 rfl) (fun _ _ _ => by kernel_rfl))) ?_; clear T ac; intro ac T
   refine gq T 8 511 rfl (fun B w' hD hl hS => (rn_one (Mem.nth (show Mem w noEx w' _ from ((MA.lft hS) (hD.wait (i := 8) (m := 17) (by kernel_rfl) hl))) 2 rfl) rfl (T.ev 0 rfl) rfl)) ?_; clear T ac; intro ac T
   refine gq T 9 1023 rfl (fun _ _ _ _ _ => (rn_move rfl (T.ev 11 rfl))) ?_; clear T ac; intro ac T
   refine gq T 10 2047 rfl (fun _ _ _ _ _ => (rn_indexAddr (size := 4) kl rfl (T.ev 1 rfl) (T.ev 0 rfl) ⟨_, Try.underlying38, by kernel_rfl⟩ hkl (by omega) (SB.at0 (by omega)))) ?_; clear T ac; intro ac T
   refine gq (v := (.agg #[.int .i64 y.t0, .int .i64 y.t1, .int .i64 y.s0, .int .i64 y.s1])) T 11 4095 rfl (fun B w' hD hl hS => (rn_rowat (Sp.scR4 SB (show Mem w noEx w' _ from ((MA.lft hS) (hD.wait (i := 11) (m := 17) (by kernel_rfl) hl))) (List.nil_sublist _) hky) rfl (T.ev 0 rfl) rfl)) ?_; clear T ac; intro ac T
   refine gq T 12 8191 rfl (fun _ _ _ _ _ => (rn_move rfl (T.ev 12 rfl))) ?_; clear T ac; intro ac T
   refine gw 13 16383 ?_; intro K hK
   refine ow_call (first := []) (cap := []) T rfl rfl rfl rfl evf (.cons (T.ev 6 rfl) (.cons (T.ev 1 rfl) (.cons (T.ev 0 rfl) .nil))) Try.func97 rfl rfl ?_
   refine Calls.mono (rise_any x y (q : Int) _ gx gy (by (try dsimp only); omega)) ?_
   clear T
   rintro e wc ⟨rfl, hb⟩
   intro ac T
   replace M := M.call hb; clear hb
   refine sh_out hK _ _ (MA.mk (fun _ => M.perm [0, 1, 2] rfl rfl) (M.perm [1, 2] rfl rfl)) ?_; clear hK K
   refine gw 14 32767 ?_; intro K hK
   refine ow_bs (e := 40) [.int .i64 ((riseP x y (q : Int)).1), .int .i64 ((riseP x y (q : Int)).2)] M T rfl rfl rfl rfl (.cons (T.ev 0 rfl) .nil) (fun _ => by kernel_rfl) ?_; clear M T; intro g3 wc ac M T
   refine sh_out hK _ _ (MA.mk (fun _ => M.perm [1, 2, 3] rfl rfl) (M.perm [2, 3] rfl rfl)) ?_; clear hK K
   refine gw 15 65535 ?_; intro K hK
   refine ow_app ([(g3, .cells [.int .i64 ((riseP x y (q : Int)).1), .int .i64 ((riseP x y (q : Int)).2)]), (gr1_7, .cells [.int .i64 (y.t0 - (b.first + b.step * b.note)), .int .i64 (y.t1 - (b.first + b.step * b.note)), .int .i64 b.t0, .int .i64 b.t1, .int .i64 b.r0, .int .i64 b.r1, .int .i64 b.u0, .int .i64 b.u1, .int .i64 b.d0, .int .i64 b.d1, .int .i64 b.a0, .int .i64 b.a1, .int .i64 b.b0, .int .i64 b.b1, .int .i64 b.le, .slice A3 (((shL b x y).take q).length) c3, .int .i64 b.span, .int .i64 b.me]), (g2, .cells [.int .i64 0, .int .i64 0, .int .i64 0, .int .i64 0, .int .i64 0, .int .i64 0, .int .i64 0, .int .i64 0, .int .i64 0, .int .i64 0, .int .i64 0, .int .i64 0, .int .i64 0, .int .i64 0, .int .i64 0, .slice none 0 0, .int .i64 0, .int .i64 0]), (g1, .cells [.int .i64 b.first, .int .i64 b.step, .int .i64 b.span, .int .i64 b.press, .int .i64 b.note, .slice A b.lows.length c, .slice B b.highs.length d, .int .i64 b.t0, .int .i64 b.t1, .int .i64 b.r0, .int .i64 b.r1, .int .i64 b.u0, .int .i64 b.u1, .int .i64 b.d0, .int .i64 b.d1, .int .i64 b.a0, .int .i64 b.a1, .int .i64 b.b0, .int .i64 b.b1, .int .i64 b.le, .int .i64 b.me])]) Try.info40 hsl M (by first | rfl | simp) T rfl rfl rfl rfl Try.underlying50 rfl rfl rfl (by omega) (T.ev 13 rfl) (T.ev 0 rfl) (nthE_mem (i := 0) rfl) rfl rfl ?_; clear M T; intro ga1 cga1 wc ac M T
   refine sh_out hK _ _ (MA.mk (fun _ => M.mask [false, false, true, true, true] rfl) (M.mask [false, false, false, true, true] rfl)) ?_; clear hK K
   refine gq (v := (.pointer (some ⟨gr1_7, 15, none⟩))) T 16 131071 rfl (fun _ _ _ _ _ => (rn_fieldAddr (off := 15) rfl (T.ev 21 rfl) (fun _ _ _ => by kernel_rfl))) ?_; clear T ac; intro ac T
   refine gw 17 262143 ?_; intro K hK
   refine ow_stO M T rfl rfl (T.ev 0 rfl) (T.ev 1 rfl) rfl (.tail (.tail .head)) rfl (by simp) rfl (by kernel_rfl) ?_; clear M T; intro wc ac M T
   refine sh_out hK _ _ (MA.mk (fun h => (no_of (by kernel_rfl) h).elim) (M.mask [false, false, false, true, true] rfl)) ?_; clear hK K
   refine g_done (by kernel_rfl) ?_
   replace T := T.pick [18, 19, 20, 21, 22, 23, 24] rfl
   replace M := M.mask [true, false, true, true, true] rfl
   refine nm_blk ?_
   refine nm_then ?_
   refine wp_region_lit ?_
   refine lq T (rn_add rfl (T.ev 6 rfl) evc (by omega)) ?_; clear T ac; intro ac T
   refine l_q (v := (.int .i64 ((q : Int) + 1))) (T.pick [0, 1, 2, 3, 4, 5, 6] rfl) rfl rfl rfl rfl (rn_move rfl (T.ev 0 rfl)) ?_; clear T ac; intro ac T
   refine wpList_nil ?_
   replace T := T.pick [0, 2, 3, 4, 5, 6, 7] rfl
   refine nm_then ?_
   have e9 : ((shL b x y).take q).length + 1 = ((shL b x y).take (q + 1)).length := by rw [shL_take (by omega), List.length_append]; rfl
   have e8 : ((rc ((shL b x y).take q)) ++ [.int .i64 ((riseP x y (q : Int)).1), .int .i64 ((riseP x y (q : Int)).2)]) = rc ((shL b x y).take (q + 1)) := by rw [shL_take (by omega), ← rc_snoc]
   rw [e9, e8] at M
   clear e9 e8
   exact ⟨_, by omega, q + 1, _, _, [(ga1, .row 40 2 ((shL b x y).take (q + 1)).length (rc ((shL b x y).take (q + 1))) cga1)], rfl, (by omega), (by rw [List.length_take, shL_length]; omega), (Sl.row _ _ _ _ _ _), T.pick [1, 2, 3, 4, 5, 6, 0] rfl, M.perm [1, 2, 3, 0] rfl rfl⟩
  intro h1
  have e9 : (shL b x y).take q = shL b x y := List.take_of_length_le (by rw [shL_length]; omega)
  rw [e9] at hsl M
  refine wp_exit ?_
  refine ex_then ?_
  refine ex_then ?_
  refine ex_hit ?_
  refine nm_then ?_
  refine wp_seq ?_
  refine wp_region_lit ?_
  refine lq T (rn_rowO (Mem.nth M 0 rfl) rfl (T.ev 5 rfl) rfl) ?_; clear T ac; intro ac T
  refine l_w rfl ?_; intro K hK
  refine ow_stO M T rfl rfl (T.ev 5 rfl) (T.ev 0 rfl) rfl (.tail .head) rfl (by simp) rfl (by kernel_rfl) ?_; clear M T; intro wc ac M T
  refine sh_out hK _ _ ?_; clear hK K
  refine wpList_nil ?_
  replace T := T.pick [5] rfl
  replace M := M.mask [false, true, false] rfl
  refine nm_then ?_
  refine wp_ret ?_
  refine rt_c M T rfl (T.ev 0 rfl) (nthE_mem (i := 0) rfl) rfl ?_
  obtain ⟨b9, o9, h9⟩ := hsl.spV (rc_length _)
  exact ⟨A3, c3, Io, rfl, ⟨b9, o9, h9⟩, M.mask [false] rfl⟩
 intro H1
 refine g_have (fun ac wc => ∃ (gr1_7 : Nat), Tm ac 55 [(7, .pointer (some ⟨gr1_7, 0, none⟩)), (11, .agg #[.int .i64 0, .int .i64 0, .int .i64 b.t0, .int .i64 b.t1, .int .i64 b.r0, .int .i64 b.r1, .int .i64 b.u0, .int .i64 b.u1, .int .i64 b.d0, .int .i64 b.d1, .int .i64 b.a0, .int .i64 b.a1, .int .i64 b.b0, .int .i64 b.b1, .int .i64 b.le, .slice none 0 0, .int .i64 b.span, .int .i64 b.me]), (15, .int .i64 b.note), (14, .pointer (some ⟨g1, 4, none⟩)), (13, .agg #[.int .i64 b.first, .int .i64 b.step, .int .i64 b.span, .int .i64 b.press]), (12, .pointer (some ⟨g1, 0, none⟩)), (10, .agg #[.int .i64 b.first, .int .i64 b.step, .int .i64 b.span, .int .i64 b.press, .int .i64 b.note, .slice A b.lows.length c, .slice B b.highs.length d, .int .i64 b.t0, .int .i64 b.t1, .int .i64 b.r0, .int .i64 b.r1, .int .i64 b.u0, .int .i64 b.u1, .int .i64 b.d0, .int .i64 b.d1, .int .i64 b.a0, .int .i64 b.a1, .int .i64 b.b0, .int .i64 b.b1, .int .i64 b.le, .int .i64 b.me]), (6, .pointer (some ⟨g2, 0, none⟩)), (3, .pointer (some ⟨g1, 0, none⟩)), (1, .int .i64 i), (2, .int .i64 k)] ∧ Mem w noEx wc [(gr1_7, .cells [.int .i64 0, .int .i64 0, .int .i64 0, .int .i64 0, .int .i64 0, .int .i64 0, .int .i64 0, .int .i64 0, .int .i64 0, .int .i64 0, .int .i64 0, .int .i64 0, .int .i64 0, .int .i64 0, .int .i64 0, .slice none 0 0, .int .i64 0, .int .i64 0]), (g2, .cells [.int .i64 0, .int .i64 0, .int .i64 0, .int .i64 0, .int .i64 0, .int .i64 0, .int .i64 0, .int .i64 0, .int .i64 0, .int .i64 0, .int .i64 0, .int .i64 0, .int .i64 0, .int .i64 0, .int .i64 0, .slice none 0 0, .int .i64 0, .int .i64 0]), (g1, .cells [.int .i64 b.first, .int .i64 b.step, .int .i64 b.span, .int .i64 b.press, .int .i64 b.note, .slice A b.lows.length c, .slice B b.highs.length d, .int .i64 b.t0, .int .i64 b.t1, .int .i64 b.r0, .int .i64 b.r1, .int .i64 b.u0, .int .i64 b.u1, .int .i64 b.d0, .int .i64 b.d1, .int .i64 b.a0, .int .i64 b.a1, .int .i64 b.b0, .int .i64 b.b1, .int .i64 b.le, .int .i64 b.me])]) (pbits 10 191) 3 ?_ ?_
 ·clear T M
  rintro ac wc ⟨gr1_7, T, M⟩
  refine gw 6 255 ?_; intro K hK
  refine ow_call (first := []) (cap := []) T rfl rfl rfl rfl evf (.cons (T.ev 4 rfl) (.cons (T.ev 2 rfl) .nil)) Try.func56 rfl rfl ?_
  refine Calls.mono (vdue_any b.law b.note _ (by (try dsimp only); omega) (by (try dsimp only); omega) (by (try dsimp only); omega)) ?_
  clear T
  rintro e wc ⟨rfl, hb⟩
  intro ac T
  replace M := M.call hb; clear hb
  refine sh_out hK _ _ (M.mask [false, true, true] rfl) ?_; clear hK K
  exact H1 _ _ ⟨gr1_7, T.pick [1, 0, 2, 3, 4, 5, 6, 7, 8, 9, 10, 11] rfl, M⟩
 intro H0
 refine gq T 0 1 rfl (fun B w' hD hl hS => (rn_rowO (Mem.nth (show Mem w noEx w' _ from hS) 1 rfl) rfl (T.ev 1 rfl) rfl)) ?_; clear T ac; intro ac T
 refine gq (v := (.pointer (some ⟨g1, 0, none⟩))) T 2 5 rfl (fun _ _ _ _ _ => (rn_fieldAddr (off := 0) rfl (T.ev 2 rfl) (fun _ _ _ => by kernel_rfl))) ?_; clear T ac; intro ac T
 refine gq T 3 13 rfl (fun B w' hD hl hS => (rn_rowO (Mem.nth (show Mem w noEx w' _ from hS) 1 rfl) rfl (T.ev 0 rfl) rfl)) ?_; clear T ac; intro ac T
 refine gq (v := (.pointer (some ⟨g1, 4, none⟩))) T 4 29 rfl (fun _ _ _ _ _ => (rn_fieldAddr (off := 4) rfl (T.ev 4 rfl) (fun _ _ _ => by kernel_rfl))) ?_; clear T ac; intro ac T
 refine gq T 5 61 rfl (fun B w' hD hl hS => (rn_one (Mem.nth (show Mem w noEx w' _ from hS) 1 rfl) rfl (T.ev 0 rfl) rfl)) ?_; clear T ac; intro ac T
 refine g_m2 (i := 1) (j := 7) (by kernel_rfl) ?_ ?_
 ·refine gi 63 ?_; intro K hK
  refine ow_call (first := []) (cap := []) T rfl rfl rfl rfl evf (.cons (T.ev 4 rfl) .nil) Try.func99 rfl rfl ?_
  refine Calls.mono (blank_any b A c B d _) ?_
  clear T
  rintro e wc ⟨rfl, hb⟩
  intro ac T
  replace M := M.call hb; clear hb
  refine sh_out hK _ _ (M.mask [true, true] rfl) ?_; clear hK K
  refine g_m2 (i := 6) (j := 7) (by kernel_rfl) ?_ ?_
  ·refine gi 127 ?_; intro K hK
   refine ow_call (first := []) (cap := []) T rfl rfl rfl rfl evf (.cons (T.ev 3 rfl) (.cons (T.ev 1 rfl) .nil)) Try.func56 rfl rfl ?_
   refine Calls.mono (vdue_any b.law b.note _ (by (try dsimp only); omega) (by (try dsimp only); omega) (by (try dsimp only); omega)) ?_
   clear T
   rintro e wc ⟨rfl, hb⟩
   intro ac T
   replace M := M.call hb; clear hb
   refine sh_out hK _ _ (M.mask [true, true] rfl) ?_; clear hK K
   refine gw 7 255 ?_; intro K hK
   refine ow_al M T rfl rfl rfl rfl ?_; clear M T; intro gr1_7 wc ac M T
   refine sh_out hK _ _ (M.mask [false, true, true] rfl) ?_; clear hK K
   exact H1 _ _ ⟨gr1_7, T, M⟩
  refine gi 191 ?_; intro K hK
  refine ow_al M T rfl rfl rfl rfl ?_; clear M T; intro gr1_7 wc ac M T
  refine sh_out hK _ _ (M.mask [false, true, true] rfl) ?_; clear hK K
  exact H0 _ _ ⟨gr1_7, T, M⟩
 refine gi 189 ?_; intro K hK
 refine ow_al M T rfl rfl rfl rfl ?_; clear M T; intro gr1_7 wc ac M T
 refine sh_out hK _ _ (M.mask [false, true, true] rfl) ?_; clear hK K
 refine gw 1 191 ?_; intro K hK
 refine ow_call (first := []) (cap := []) T rfl rfl rfl rfl evf (.cons (T.ev 5 rfl) .nil) Try.func99 rfl rfl ?_
 refine Calls.mono (blank_any b A c B d _) ?_
 clear T
 rintro e wc ⟨rfl, hb⟩
 intro ac T
 replace M := M.call hb; clear hb
 refine sh_out hK _ _ (M.mask [false, true, true] rfl) ?_; clear hK K
 exact H0 _ _ ⟨gr1_7, T.pick [1, 0, 2, 3, 4, 5, 6, 7, 8, 9, 10] rfl, M⟩
theorem Job_any (b : Bx) (A : Option Addr) (c : Nat) (B : Option Addr) (d : Nat) (i k : Int) (w : World) (hA : Rd w w.heap.size 4 A b.lows.length (sc b.lows)) (hB : Rd w w.heap.size 4 B b.highs.length (sc b.highs)) (nA : b.lows.length ≤ 1000000) (nB : b.highs.length ≤ 1000000)  :
   Calls Try.prog 47 #[bxV b A c B d, .int .i64 i, .int .i64 k] w (JEPost (jobE b i k) (checkPB b i k) w) := by
 have hlA := hA.len4
 have hlB := hB.len4
 obtain ⟨bA, oA, SA⟩ := Sp.old hA
 obtain ⟨bB, oB, SB⟩ := Sp.old hB
 refine px_enter noEx Try.func47 rfl 21 rfl [.agg #[.int .i64 b.first, .int .i64 b.step, .int .i64 b.span, .int .i64 b.press, .int .i64 b.note, .slice A b.lows.length c, .slice B b.highs.length d, .int .i64 b.t0, .int .i64 b.t1, .int .i64 b.r0, .int .i64 b.r1, .int .i64 b.u0, .int .i64 b.u1, .int .i64 b.d0, .int .i64 b.d1, .int .i64 b.a0, .int .i64 b.a1, .int .i64 b.b0, .int .i64 b.b1, .int .i64 b.le, .int .i64 b.me], .int .i64 i, .int .i64 k] rfl rfl (Mem.init w _) ?_
 intro ac wc T M
 refine wp_seq ?_
 refine wp_region_lit ?_
 refine l_w rfl ?_; intro K hK
 refine ow_bx M T rfl rfl rfl rfl (T.ev 0 rfl) rfl ?_; clear M T; intro g1 wc ac M T
 refine sh_out hK _ _ ?_; clear hK K
 refine l_w rfl ?_; intro K hK
 refine ow_al M T rfl rfl rfl rfl ?_; clear M T; intro g2 wc ac M T
 refine sh_out hK _ _ ?_; clear hK K
 refine lq T (rn_assign rfl evc) ?_; clear T ac; intro ac T
 refine wpList_nil ?_
 replace T := T.pick [1, 2, 4, 5] rfl
 refine nm_then ?_
 refine wp_seq ?_
 refine wp_seq ?_
 refine wp_region_lit ?_
 refine lq T (rn_rowO (Mem.nth M 1 rfl) rfl (T.ev 1 rfl) rfl) ?_; clear T ac; intro ac T
 refine lq T (rn_move rfl (T.ev 3 rfl)) ?_; clear T ac; intro ac T
 refine lq T (rn_move rfl (T.ev 5 rfl)) ?_; clear T ac; intro ac T
 refine l_w rfl ?_; intro K hK
 refine ow_call (first := []) (cap := []) T rfl rfl rfl rfl evf (.cons (T.ev 2 rfl) (.cons (T.ev 1 rfl) (.cons (T.ev 0 rfl) .nil))) Try.func65 rfl rfl ?_
 refine Calls.mono (vcheckPair_any b _ _ _ _ i k _ (SA.rd M (List.nil_sublist _)) (SB.rd M (List.nil_sublist _)) (by omega) (by omega)) ?_
 clear T
 rintro e wc ⟨rfl, hb⟩
 intro ac T
 replace M := M.call hb; clear hb
 refine sh_out hK _ _ ?_; clear hK K
 refine lq T (rn_assign rfl (T.ev 0 rfl)) ?_; clear T ac; intro ac T
 refine wpList_nil ?_
 replace T := T.pick [0, 5, 6, 7, 8] rfl
 refine nm_then ?_
 refine wp_seq ?_
 refine wp_region_lit ?_
 refine lq T (rn_move rfl (T.ev 0 rfl)) ?_; clear T ac; intro ac T
 refine lq T (rn_neq rfl (T.ev 0 rfl) evc) ?_; clear T ac; intro ac T
 refine wpList_nil ?_
 replace T := T.pick [0, 2, 3, 4, 5, 6] rfl
 refine nm_then ?_
 refine wp_ifn (T.ev 0 rfl) ?_ ?_
 ·intro h1
  refine wp_seq ?_
  refine wp_region_lit ?_
  refine lq (v := (.agg #[.int .i64 0, .int .i64 0, .int .i64 0, .int .i64 0, .int .i64 0, .int .i64 0, .int .i64 0, .int .i64 0, .int .i64 0, .int .i64 0, .int .i64 0, .int .i64 0, .int .i64 0, .int .i64 0, .int .i64 0, .slice none 0 0, .int .i64 0, .int .i64 0])) T (rn_build rfl .nil (fun _ => by kernel_rfl)) ?_; clear T ac; intro ac T
  refine lq T (rn_move rfl (T.ev 2 rfl)) ?_; clear T ac; intro ac T
  refine l_w rfl ?_; intro K hK
  refine ow_stO M T rfl rfl (T.ev 4 rfl) (T.ev 1 rfl) rfl .head rfl (by simp) rfl (by kernel_rfl) ?_; clear M T; intro wc ac M T
  refine sh_out hK _ _ ?_; clear hK K
  refine lq T (rn_assign rfl (T.ev 0 rfl)) ?_; clear T ac; intro ac T
  refine wpList_nil ?_
  replace T := T.pick [0, 5] rfl
  replace M := M.mask [true, false] rfl
  refine nm_then ?_
  refine wp_ret ?_
  refine rt_then ?_
  refine rt_ct M T rfl (T.ev 1 rfl) (T.ev 0 rfl) (nthE_mem (i := 0) rfl) rfl ?_
  have e9 : jobE b i k = zeroJ := by unfold jobE; rw [if_neg (by assumption)]
  rw [e9]
  exact ⟨none, 0, [], rfl, ⟨0, 0, fun _ _ => Sp.nil⟩, M.mask [false] rfl⟩
 intro h1
 obtain ⟨gb, ⟨i0, i1⟩, k0, k1⟩ := checkPB_good (b := b) (i := i) (k := k) (by simpa using h1)
 obtain ⟨il, hil⟩ : ∃ q : Nat, i = (q : Int) := ⟨i.toNat, by omega⟩
 obtain ⟨kl, hkl⟩ : ∃ q : Nat, k = (q : Int) := ⟨k.toNat, by omega⟩
 obtain ⟨x, hx9⟩ : ∃ q, q = b.low i := ⟨_, rfl⟩
 obtain ⟨y, hy9⟩ : ∃ q, q = b.high k := ⟨_, rfl⟩
 have hkx : b.lows[il]? = some x := by rw [hx9, ← Bx.low_get ⟨i0, i1⟩, hil]; rfl
 have hky : b.highs[kl]? = some y := by rw [hy9, ← Bx.high_get ⟨k0, k1⟩, hkl]; rfl
 refine wp_skip ?_
 refine nm_then ?_
 refine wp_seq ?_
 refine wp_region_lit ?_
 refine lq T (rn_rowO (Mem.nth M 1 rfl) rfl (T.ev 3 rfl) rfl) ?_; clear T ac; intro ac T
 refine lq T (rn_move rfl (T.ev 5 rfl)) ?_; clear T ac; intro ac T
 refine lq T (rn_move rfl (T.ev 7 rfl)) ?_; clear T ac; intro ac T
 refine l_w rfl ?_; intro K hK
 refine ow_call (first := []) (cap := []) T rfl rfl rfl rfl evf (.cons (T.ev 2 rfl) (.cons (T.ev 1 rfl) (.cons (T.ev 0 rfl) .nil))) Try.func83 rfl rfl ?_
 refine Calls.mono (vjob_any b A c B d i k il kl x y _ (SA.rd M (List.nil_sublist _)) (SB.rd M (List.nil_sublist _)) gb hil hkl hkx hky) ?_
 clear T
 rintro e wc ⟨Au2, cu2, Iu2, rfl, SVu2, N⟩
 intro ac T
 obtain ⟨bu2, ou2, SVu2⟩ := SVu2
 obtain ⟨jqu2, hjqu2⟩ : ∃ q, q = jobP b x y := ⟨_, rfl⟩
 rw [← hjqu2] at SVu2
 have Su2 := SVu2 w noEx
 have nqu2 : jqu2.sh.length ≤ 4 := by rw [hjqu2]; show (shL b x y).length ≤ 4; rw [shL_length]; have := gb.law.press; dsimp only at this; omega
 replace M := (M.join N).swapI
 replace M : Mem w noEx wc ((g2, .cells [.int .i64 0, .int .i64 0, .int .i64 0, .int .i64 0, .int .i64 0, .int .i64 0, .int .i64 0, .int .i64 0, .int .i64 0, .int .i64 0, .int .i64 0, .int .i64 0, .int .i64 0, .int .i64 0, .int .i64 0, .slice none 0 0, .int .i64 0, .int .i64 0]) :: (g1, .cells [.int .i64 b.first, .int .i64 b.step, .int .i64 b.span, .int .i64 b.press, .int .i64 b.note, .slice A b.lows.length c, .slice B b.highs.length d, .int .i64 b.t0, .int .i64 b.t1, .int .i64 b.r0, .int .i64 b.r1, .int .i64 b.u0, .int .i64 b.u1, .int .i64 b.d0, .int .i64 b.d1, .int .i64 b.a0, .int .i64 b.a1, .int .i64 b.b0, .int .i64 b.b1, .int .i64 b.le, .int .i64 b.me]) :: Iu2) := M
 clear N
 rw [← hjqu2] at T
 refine sh_out hK _ _ ?_; clear hK K
 refine l_w rfl ?_; intro K hK
 refine ow_stO M T rfl rfl (T.ev 6 rfl) (T.ev 0 rfl) rfl .head rfl (by simp) rfl (by kernel_rfl) ?_; clear M T; intro wc ac M T
 refine sh_out hK _ _ ?_; clear hK K
 refine lq T (rn_assign rfl evc) ?_; clear T ac; intro ac T
 refine wpList_nil ?_
 replace T := T.pick [0, 7] rfl
 replace M := M.mask [true, false] rfl
 refine nm_then ?_
 refine wp_ret ?_
 refine rt_ct M T rfl (T.ev 1 rfl) (T.ev 0 rfl) (nthE_mem (i := 0) rfl) rfl ?_
 have e9 : jobE b i k = jqu2 := by unfold jobE; rw [if_pos (by simpa using h1), ← hx9, ← hy9]; exact hjqu2.symm
 rw [e9, show checkPB b i k = 0 by simpa using h1]
 exact ⟨Au2, cu2, Iu2, rfl, ⟨_, _, SVu2⟩, M.mask [false] rfl⟩
theorem VStrokes_any (b : Bx) (A : Option Addr) (c : Nat) (B : Option Addr) (d : Nat) (i k : Int) (w : World) (hA : Rd w w.heap.size 4 A b.lows.length (sc b.lows)) (hB : Rd w w.heap.size 4 B b.highs.length (sc b.highs)) (nA : b.lows.length ≤ 1000000) (nB : b.highs.length ≤ 1000000)  :
   Calls Try.prog 60 #[bxV b A c B d, .int .i64 i, .int .i64 k] w fun e w' => e = .returned (.tuple #[.int .i64 ((strokesE b i k).1), .int .i64 ((strokesE b i k).2)]) ∧ Below w.heap.size w w' := by
 have hlA := hA.len4
 have hlB := hB.len4
 obtain ⟨bA, oA, SA⟩ := Sp.old hA
 obtain ⟨bB, oB, SB⟩ := Sp.old hB
 refine px_enter noEx Try.func60 rfl 23 rfl [.agg #[.int .i64 b.first, .int .i64 b.step, .int .i64 b.span, .int .i64 b.press, .int .i64 b.note, .slice A b.lows.length c, .slice B b.highs.length d, .int .i64 b.t0, .int .i64 b.t1, .int .i64 b.r0, .int .i64 b.r1, .int .i64 b.u0, .int .i64 b.u1, .int .i64 b.d0, .int .i64 b.d1, .int .i64 b.a0, .int .i64 b.a1, .int .i64 b.b0, .int .i64 b.b1, .int .i64 b.le, .int .i64 b.me], .int .i64 i, .int .i64 k] rfl rfl (Mem.init w _) ?_
 intro ac wc T M
 refine wp_seq ?_
 refine wp_region_lit ?_
 refine l_w rfl ?_; intro K hK
 refine ow_bx M T rfl rfl rfl rfl (T.ev 0 rfl) rfl ?_; clear M T; intro g1 wc ac M T
 refine sh_out hK _ _ ?_; clear hK K
 refine lq T (rn_assign rfl evc) ?_; clear T ac; intro ac T
 refine lq T (rn_assign rfl evc) ?_; clear T ac; intro ac T
 refine wpList_nil ?_
 replace T := T.pick [2, 4, 5] rfl
 refine nm_then ?_
 refine wp_seq ?_
 refine wp_seq ?_
 refine wp_region_lit ?_
 refine lq T (rn_rowO (Mem.nth M 0 rfl) rfl (T.ev 0 rfl) rfl) ?_; clear T ac; intro ac T
 refine lq T (rn_move rfl (T.ev 2 rfl)) ?_; clear T ac; intro ac T
 refine lq T (rn_move rfl (T.ev 4 rfl)) ?_; clear T ac; intro ac T
 refine l_w rfl ?_; intro K hK
 refine ow_call (first := []) (cap := []) T rfl rfl rfl rfl evf (.cons (T.ev 2 rfl) (.cons (T.ev 1 rfl) (.cons (T.ev 0 rfl) .nil))) Try.func65 rfl rfl ?_
 refine Calls.mono (vcheckPair_any b _ _ _ _ i k _ (SA.rd M (List.nil_sublist _)) (SB.rd M (List.nil_sublist _)) (by omega) (by omega)) ?_
 clear T
 rintro e wc ⟨rfl, hb⟩
 intro ac T
 replace M := M.call hb; clear hb
 refine sh_out hK _ _ ?_; clear hK K
 refine lq T (rn_assign rfl (T.ev 0 rfl)) ?_; clear T ac; intro ac T
 refine wpList_nil ?_
 replace T := T.pick [0, 5, 6, 7] rfl
 refine nm_then ?_
 refine wp_seq ?_
 refine wp_region_lit ?_
 refine lq T (rn_move rfl (T.ev 0 rfl)) ?_; clear T ac; intro ac T
 refine lq T (rn_neq rfl (T.ev 0 rfl) evc) ?_; clear T ac; intro ac T
 refine wpList_nil ?_
 replace T := T.pick [0, 2, 3, 4, 5] rfl
 refine nm_then ?_
 refine wp_ifn (T.ev 0 rfl) ?_ ?_
 ·intro h1
  refine wp_seq ?_
  refine wp_region_lit ?_
  refine lq T (rn_move rfl (T.ev 1 rfl)) ?_; clear T ac; intro ac T
  refine lq T (rn_assign rfl evc) ?_; clear T ac; intro ac T
  refine lq T (rn_assign rfl (T.ev 1 rfl)) ?_; clear T ac; intro ac T
  refine wpList_nil ?_
  replace T := T.pick [0, 1] rfl
  replace M := M.mask [false] rfl
  refine nm_then ?_
  refine wp_ret ?_
  refine rt_then ?_
  refine rt_2 T rfl (T.ev 1 rfl) (T.ev 0 rfl) ?_
  have e9 : strokesE b i k = (0, checkPB b i k) := by unfold strokesE; rw [if_neg (by assumption)]
  rw [e9]
  exact ⟨rfl, M.below⟩
 intro h1
 obtain ⟨gb, ⟨i0, i1⟩, k0, k1⟩ := checkPB_good (b := b) (i := i) (k := k) (by simpa using h1)
 obtain ⟨il, hil⟩ : ∃ q : Nat, i = (q : Int) := ⟨i.toNat, by omega⟩
 obtain ⟨kl, hkl⟩ : ∃ q : Nat, k = (q : Int) := ⟨k.toNat, by omega⟩
 obtain ⟨x, hx9⟩ : ∃ q, q = b.low i := ⟨_, rfl⟩
 obtain ⟨y, hy9⟩ : ∃ q, q = b.high k := ⟨_, rfl⟩
 have hkx : b.lows[il]? = some x := by rw [hx9, ← Bx.low_get ⟨i0, i1⟩, hil]; rfl
 have hky : b.highs[kl]? = some y := by rw [hy9, ← Bx.high_get ⟨k0, k1⟩, hkl]; rfl
 refine wp_skip ?_
 refine nm_then ?_
 refine wp_seq ?_
 refine wp_region_lit ?_
 refine lq T (rn_rowO (Mem.nth M 0 rfl) rfl (T.ev 2 rfl) rfl) ?_; clear T ac; intro ac T
 refine lq T (rn_move rfl (T.ev 4 rfl)) ?_; clear T ac; intro ac T
 refine lq T (rn_move rfl (T.ev 6 rfl)) ?_; clear T ac; intro ac T
 refine l_w rfl ?_; intro K hK
 refine ow_call (first := []) (cap := []) T rfl rfl rfl rfl evf (.cons (T.ev 2 rfl) (.cons (T.ev 1 rfl) (.cons (T.ev 0 rfl) .nil))) Try.func83 rfl rfl ?_
 refine Calls.mono (vjob_any b A c B d i k il kl x y _ (SA.rd M (List.nil_sublist _)) (SB.rd M (List.nil_sublist _)) gb hil hkl hkx hky) ?_
 clear T
 rintro e wc ⟨Au2, cu2, Iu2, rfl, SVu2, N⟩
 intro ac T
 obtain ⟨bu2, ou2, SVu2⟩ := SVu2
 obtain ⟨jqu2, hjqu2⟩ : ∃ q, q = jobP b x y := ⟨_, rfl⟩
 rw [← hjqu2] at SVu2
 have Su2 := SVu2 w noEx
 have nqu2 : jqu2.sh.length ≤ 4 := by rw [hjqu2]; show (shL b x y).length ≤ 4; rw [shL_length]; have := gb.law.press; dsimp only at this; omega
 replace M := (M.join N).swapI
 replace M : Mem w noEx wc ((g1, .cells [.int .i64 b.first, .int .i64 b.step, .int .i64 b.span, .int .i64 b.press, .int .i64 b.note, .slice A b.lows.length c, .slice B b.highs.length d, .int .i64 b.t0, .int .i64 b.t1, .int .i64 b.r0, .int .i64 b.r1, .int .i64 b.u0, .int .i64 b.u1, .int .i64 b.d0, .int .i64 b.d1, .int .i64 b.a0, .int .i64 b.a1, .int .i64 b.b0, .int .i64 b.b1, .int .i64 b.le, .int .i64 b.me]) :: Iu2) := M
 clear N
 rw [← hjqu2] at T
 refine sh_out hK _ _ ?_; clear hK K
 refine l_w rfl ?_; intro K hK
 refine ow_call (first := []) (cap := []) T rfl rfl rfl rfl evf (.cons (T.ev 0 rfl) .nil) Try.func94 rfl rfl ?_
 refine Calls.mono (Guided_any jqu2 _ _ _ (Su2.rd M (.cons _ (List.Sublist.refl _))) (by omega)) ?_
 clear T
 rintro e wc ⟨rfl, hb⟩
 intro ac T
 replace M := M.call hb; clear hb
 refine sh_out hK _ _ ?_; clear hK K
 refine lq T (rn_extract rfl (T.ev 0 rfl) rfl) ?_; clear T ac; intro ac T
 refine lq T (rn_extract rfl (T.ev 1 rfl) rfl) ?_; clear T ac; intro ac T
 refine lq T (rn_assign rfl (T.ev 1 rfl)) ?_; clear T ac; intro ac T
 refine lq T (rn_assign rfl (T.ev 1 rfl)) ?_; clear T ac; intro ac T
 refine wpList_nil ?_
 replace T := T.pick [0, 1] rfl
 replace M := M.mask [false] rfl
 refine nm_then ?_
 refine wp_ret ?_
 refine rt_2 T rfl (T.ev 1 rfl) (T.ev 0 rfl) ?_
 have e9 : strokesE b i k = guidedJ jqu2 := by unfold strokesE; rw [if_pos (by simpa using h1), ← hx9, ← hy9]; rw [hjqu2]
 rw [e9]
 exact ⟨rfl, M.below⟩
end Go.Proofs.Ytlahdenlmmlplaa
end

section
/-
 law05: the chapter's examples.
-/
namespace Go.Proofs.Ytlahdenlmmlplaa
set_option linter.unusedSimpArgs false
set_option linter.unusedVariables false
open Go.RowKit
def lawX : Lw := ⟨20, -2, 4, 2⟩
def lowsX : List Snd := [⟨-1, 1, 0, 0⟩, ⟨5, 5, 1, 1⟩]
def boxX (hs : List Snd) : Bx := { first := 20, step := -2, span := 4, press := 2, note := 3, lows := lowsX, highs := hs, t0 := 30, t1 := 32, r0 := 40, r1 := 41, u0 := 3, u1 := 4, d0 := 2, d1 := 3, a0 := 1, a1 := 2, b0 := 1, b1 := 1, le := 20, me := 1 }
def fullH : List Snd := [⟨14, 15, 0, 1⟩, ⟨20, 20, 0, 0⟩, ⟨30, 30, 0, 0⟩]
def lessH : List Snd := [⟨14, 15, 0, 1⟩, ⟨30, 30, 0, 0⟩]
def fullX : Bx := boxX fullH
def lessX : Bx := boxX lessH
def rowsX : List (List Snd) := [[⟨-1, 1, 0, 0⟩, ⟨0, 0, 0, 0⟩], [⟨20, 20, 0, 0⟩, ⟨13, 15, 0, 0⟩], [⟨30, 30, 0, 0⟩, ⟨30, 30, 0, 0⟩]]
def BoxPost (b : Bx) (w : World) (e : Ending) (w' : World) : Prop := ∃ A c B d I, e = .returned (bxV b A c B d) ∧ (∃ b1 o1, ∀ (w : World) (ex : Nat → Prop), Sp w ex I A b.lows.length 4 b1 o1 (sc b.lows)) ∧ (∃ b1 o1, ∀ (w : World) (ex : Nat → Prop), Sp w ex I B b.highs.length 4 b1 o1 (sc b.highs)) ∧ Mem w noEx w' I
theorem sameInts_eq (A B : Option Addr) (n m c d : Nat) (l : List Int) (w : World) (ha : Rd w w.heap.size 1 A n (ic l)) (hb : Rd w w.heap.size 1 B m (ic l)) (hn : n ≤ 9223372036854775807) (hm : m ≤ 9223372036854775807) :
   Calls Try.prog 35 #[.slice A n c, .slice B m d] w fun e w' => e = .returned (.bool true) ∧ Below w.heap.size w w' := by
 have := sameInts_any A B n m c d l l w ha hb hn hm
 simpa using this
theorem x_beat : beatE fullX 1 0 = [(9, 10), (8, 10), (7, 10)] ∧ checkPB fullX 1 0 = 0 := by decide +kernel
theorem x_match : matchE lessX = ([0, -1], 0) := by decide +kernel
theorem x_strokes : strokesE fullX 0 1 = (2, 0) := by decide +kernel
theorem x_trem : tremE lawX rowsX [0, 1] = ([1, 3], 0) := by decide +kernel
theorem x_short : shortE lessX = ([1], 0) := by decide +kernel
theorem to5_any (p0 p1 : Int) (w : World)  :
   Calls Try.prog 24 #[.int .i64 p0, .int .i64 p1] w fun e w' => e = .returned (.agg #[.int .i64 p0, .int .i64 p1]) ∧ Below w.heap.size w w' := by
 refine px_enter noEx Try.func24 rfl 8 rfl [.int .i64 p0, .int .i64 p1] rfl rfl (Mem.init w _) ?_
 intro ac wc T M
 refine wp_seq ?_
 refine wp_region_lit ?_
 refine l_w rfl ?_; intro K hK
 refine ow_al M T rfl rfl rfl rfl ?_; clear M T; intro g1 wc ac M T
 refine sh_out hK _ _ ?_; clear hK K
 refine wpList_nil ?_
 refine nm_then ?_
 refine wp_seq ?_
 refine wp_region_lit ?_
 refine lq T (rn_move rfl (T.ev 1 rfl)) ?_; clear T ac; intro ac T
 refine lq T (rn_move rfl (T.ev 3 rfl)) ?_; clear T ac; intro ac T
 refine lq (v := (.agg #[.int .i64 p0, .int .i64 p1])) T (rn_build rfl (.cons (T.ev 1 rfl) (.cons (T.ev 0 rfl) .nil)) (fun _ => by kernel_rfl)) ?_; clear T ac; intro ac T
 refine l_w rfl ?_; intro K hK
 refine ow_stO M T rfl rfl (T.ev 3 rfl) (T.ev 0 rfl) rfl .head rfl (by simp) rfl (by kernel_rfl) ?_; clear M T; intro wc ac M T
 refine sh_out hK _ _ ?_; clear hK K
 refine wpList_nil ?_
 replace T := T.pick [3] rfl
 refine nm_then ?_
 refine wp_ret ?_
 refine rt_c M T rfl (T.ev 0 rfl) (nthE_mem (i := 0) rfl) rfl ?_
 exact ⟨rfl, M.below⟩
theorem sound5_any (p0 p1 q0 q1 : Int) (w : World)  :
   Calls Try.prog 36 #[.agg #[.int .i64 p0, .int .i64 p1], .agg #[.int .i64 q0, .int .i64 q1]] w fun e w' => e = .returned (.agg #[.int .i64 p0, .int .i64 p1, .int .i64 q0, .int .i64 q1]) ∧ Below w.heap.size w w' := by
 refine px_enter noEx Try.func36 rfl 8 rfl [.agg #[.int .i64 p0, .int .i64 p1], .agg #[.int .i64 q0, .int .i64 q1]] rfl rfl (Mem.init w _) ?_
 intro ac wc T M
 refine wp_seq ?_
 refine wp_region_lit ?_
 refine l_w rfl ?_; intro K hK
 refine ow_bx M T rfl rfl rfl rfl (T.ev 0 rfl) rfl ?_; clear M T; intro g1 wc ac M T
 refine sh_out hK _ _ ?_; clear hK K
 refine l_w rfl ?_; intro K hK
 refine ow_bx M T rfl rfl rfl rfl (T.ev 2 rfl) rfl ?_; clear M T; intro g2 wc ac M T
 refine sh_out hK _ _ ?_; clear hK K
 refine l_w rfl ?_; intro K hK
 refine ow_al M T rfl rfl rfl rfl ?_; clear M T; intro g3 wc ac M T
 refine sh_out hK _ _ ?_; clear hK K
 refine wpList_nil ?_
 replace T := T.pick [0, 1, 2] rfl
 refine nm_then ?_
 refine wp_seq ?_
 refine wp_region_lit ?_
 refine lq T (rn_rowO (Mem.nth M 2 rfl) rfl (T.ev 2 rfl) rfl) ?_; clear T ac; intro ac T
 refine lq T (rn_rowO (Mem.nth M 1 rfl) rfl (T.ev 2 rfl) rfl) ?_; clear T ac; intro ac T
 refine lq (v := (.agg #[.int .i64 p0, .int .i64 p1, .int .i64 q0, .int .i64 q1])) T (rn_build rfl (.cons (T.ev 1 rfl) (.cons (T.ev 0 rfl) .nil)) (fun _ => by kernel_rfl)) ?_; clear T ac; intro ac T
 refine l_w rfl ?_; intro K hK
 refine ow_stO M T rfl rfl (T.ev 3 rfl) (T.ev 0 rfl) rfl .head rfl (by simp) rfl (by kernel_rfl) ?_; clear M T; intro wc ac M T
 refine sh_out hK _ _ ?_; clear hK K
 refine wpList_nil ?_
 replace T := T.pick [3] rfl
 replace M := M.mask [true, false, false] rfl
 refine nm_then ?_
 refine wp_ret ?_
 refine rt_c M T rfl (T.ev 0 rfl) (nthE_mem (i := 0) rfl) rfl ?_
 exact ⟨rfl, M.below⟩
theorem law5_any  (w : World)  :
   Calls Try.prog 95 #[] w fun e w' => e = .returned (.agg #[.int .i64 20, .int .i64 (-2), .int .i64 4, .int .i64 2]) ∧ Below w.heap.size w w' := by
 refine px_enter noEx Try.func95 rfl 2 rfl [] rfl rfl (Mem.init w _) ?_
 intro ac wc T M
 refine wp_seq ?_
 refine wp_region_lit ?_
 refine l_w rfl ?_; intro K hK
 refine ow_al M T rfl rfl rfl rfl ?_; clear M T; intro g1 wc ac M T
 refine sh_out hK _ _ ?_; clear hK K
 refine wpList_nil ?_
 refine nm_then ?_
 refine wp_seq ?_
 refine wp_region_lit ?_
 refine lq (v := (.agg #[.int .i64 20, .int .i64 (-2), .int .i64 4, .int .i64 2])) T (rn_build rfl (.cons evc (.cons evc (.cons evc (.cons evc .nil)))) (fun _ => by kernel_rfl)) ?_; clear T ac; intro ac T
 refine l_w rfl ?_; intro K hK
 refine ow_stO M T rfl rfl (T.ev 1 rfl) (T.ev 0 rfl) rfl .head rfl (by simp) rfl (by kernel_rfl) ?_; clear M T; intro wc ac M T
 refine sh_out hK _ _ ?_; clear hK K
 refine wpList_nil ?_
 replace T := T.pick [1] rfl
 refine nm_then ?_
 refine wp_ret ?_
 refine rt_c M T rfl (T.ev 0 rfl) (nthE_mem (i := 0) rfl) rfl ?_
 exact ⟨rfl, M.below⟩
def Box1Post (hs : List Snd) (H : Option Addr) (d : Nat) (w : World) (e : Ending) (w' : World) : Prop := ∃ g, e = .returned (bxV (boxX hs) (some ⟨g, 0, none⟩) 2 H d) ∧ Mem w noEx w' [(g, .cells (sc lowsX))]
theorem box5_any (H : Option Addr) (d : Nat) (hs : List Snd) (w : World)  :
   Calls Try.prog 93 #[.slice H hs.length d] w (Box1Post hs H d w) := by
 refine px_enter noEx Try.func93 rfl 20 rfl [.slice H hs.length d] rfl rfl (Mem.init w _) ?_
 intro ac wc T M
 refine wp_seq ?_
 refine wp_region_lit ?_
 refine l_w rfl ?_; intro K hK
 refine ow_al M T rfl rfl rfl rfl ?_; clear M T; intro g1 wc ac M T
 refine sh_out hK _ _ ?_; clear hK K
 refine wpList_nil ?_
 refine nm_then ?_
 refine wp_seq ?_
 refine wp_region_lit ?_
 refine l_w rfl ?_; intro K hK
 refine ow_call (first := []) (cap := []) T rfl rfl rfl rfl evf .nil Try.func95 rfl rfl ?_
 refine Calls.mono (law5_any _) ?_
 clear T
 rintro e wc ⟨rfl, hb⟩
 intro ac T
 replace M := M.call hb; clear hb
 refine sh_out hK _ _ ?_; clear hK K
 refine l_w rfl ?_; intro K hK
 refine ow_call (first := []) (cap := []) T rfl rfl rfl rfl evf (.cons evc (.cons evc .nil)) Try.func24 rfl rfl ?_
 refine Calls.mono (to5_any (-1) 1 _) ?_
 clear T
 rintro e wc ⟨rfl, hb⟩
 intro ac T
 replace M := M.call hb; clear hb
 refine sh_out hK _ _ ?_; clear hK K
 refine l_w rfl ?_; intro K hK
 refine ow_call (first := []) (cap := []) T rfl rfl rfl rfl evf (.cons evc (.cons evc .nil)) Try.func24 rfl rfl ?_
 refine Calls.mono (to5_any 0 0 _) ?_
 clear T
 rintro e wc ⟨rfl, hb⟩
 intro ac T
 replace M := M.call hb; clear hb
 refine sh_out hK _ _ ?_; clear hK K
 refine l_w rfl ?_; intro K hK
 refine ow_call (first := []) (cap := []) T rfl rfl rfl rfl evf (.cons (T.ev 1 rfl) (.cons (T.ev 0 rfl) .nil)) Try.func36 rfl rfl ?_
 refine Calls.mono (sound5_any (-1) 1 0 0 _) ?_
 clear T
 rintro e wc ⟨rfl, hb⟩
 intro ac T
 replace M := M.call hb; clear hb
 refine sh_out hK _ _ ?_; clear hK K
 refine l_w rfl ?_; intro K hK
 refine ow_call (first := []) (cap := []) T rfl rfl rfl rfl evf (.cons evc (.cons evc .nil)) Try.func24 rfl rfl ?_
 refine Calls.mono (to5_any 5 5 _) ?_
 clear T
 rintro e wc ⟨rfl, hb⟩
 intro ac T
 replace M := M.call hb; clear hb
 refine sh_out hK _ _ ?_; clear hK K
 refine l_w rfl ?_; intro K hK
 refine ow_call (first := []) (cap := []) T rfl rfl rfl rfl evf (.cons evc (.cons evc .nil)) Try.func24 rfl rfl ?_
 refine Calls.mono (to5_any 1 1 _) ?_
 clear T
 rintro e wc ⟨rfl, hb⟩
 intro ac T
 replace M := M.call hb; clear hb
 refine sh_out hK _ _ ?_; clear hK K
 refine l_w rfl ?_; intro K hK
 refine ow_call (first := []) (cap := []) T rfl rfl rfl rfl evf (.cons (T.ev 1 rfl) (.cons (T.ev 0 rfl) .nil)) Try.func36 rfl rfl ?_
 refine Calls.mono (sound5_any 5 5 1 1 _) ?_
 clear T
 rintro e wc ⟨rfl, hb⟩
 intro ac T
 replace M := M.call hb; clear hb
 refine sh_out hK _ _ ?_; clear hK K
 refine l_w rfl ?_; intro K hK
 refine ow_bs (e := 48) [.int .i64 (-1), .int .i64 1, .int .i64 0, .int .i64 0, .int .i64 5, .int .i64 5, .int .i64 1, .int .i64 1] M T rfl rfl rfl rfl (.cons (T.ev 3 rfl) (.cons (T.ev 0 rfl) .nil)) (fun _ => by kernel_rfl) ?_; clear M T; intro g2 wc ac M T
 refine sh_out hK _ _ ?_; clear hK K
 refine lq T (rn_move rfl (T.ev 9 rfl)) ?_; clear T ac; intro ac T
 refine l_w rfl ?_; intro K hK
 refine ow_call (first := []) (cap := []) T rfl rfl rfl rfl evf (.cons evc (.cons evc .nil)) Try.func24 rfl rfl ?_
 refine Calls.mono (to5_any 30 32 _) ?_
 clear T
 rintro e wc ⟨rfl, hb⟩
 intro ac T
 replace M := M.call hb; clear hb
 refine sh_out hK _ _ ?_; clear hK K
 refine l_w rfl ?_; intro K hK
 refine ow_call (first := []) (cap := []) T rfl rfl rfl rfl evf (.cons evc (.cons evc .nil)) Try.func24 rfl rfl ?_
 refine Calls.mono (to5_any 40 41 _) ?_
 clear T
 rintro e wc ⟨rfl, hb⟩
 intro ac T
 replace M := M.call hb; clear hb
 refine sh_out hK _ _ ?_; clear hK K
 refine l_w rfl ?_; intro K hK
 refine ow_call (first := []) (cap := []) T rfl rfl rfl rfl evf (.cons evc (.cons evc .nil)) Try.func24 rfl rfl ?_
 refine Calls.mono (to5_any 3 4 _) ?_
 clear T
 rintro e wc ⟨rfl, hb⟩
 intro ac T
 replace M := M.call hb; clear hb
 refine sh_out hK _ _ ?_; clear hK K
 refine l_w rfl ?_; intro K hK
 refine ow_call (first := []) (cap := []) T rfl rfl rfl rfl evf (.cons evc (.cons evc .nil)) Try.func24 rfl rfl ?_
 refine Calls.mono (to5_any 2 3 _) ?_
 clear T
 rintro e wc ⟨rfl, hb⟩
 intro ac T
 replace M := M.call hb; clear hb
 refine sh_out hK _ _ ?_; clear hK K
 refine l_w rfl ?_; intro K hK
 refine ow_call (first := []) (cap := []) T rfl rfl rfl rfl evf (.cons evc (.cons evc .nil)) Try.func24 rfl rfl ?_
 refine Calls.mono (to5_any 1 2 _) ?_
 clear T
 rintro e wc ⟨rfl, hb⟩
 intro ac T
 replace M := M.call hb; clear hb
 refine sh_out hK _ _ ?_; clear hK K
 refine l_w rfl ?_; intro K hK
 refine ow_call (first := []) (cap := []) T rfl rfl rfl rfl evf (.cons evc (.cons evc .nil)) Try.func24 rfl rfl ?_
 refine Calls.mono (to5_any 1 1 _) ?_
 clear T
 rintro e wc ⟨rfl, hb⟩
 intro ac T
 replace M := M.call hb; clear hb
 refine sh_out hK _ _ ?_; clear hK K
 refine lq (v := (.agg #[.int .i64 3, .int .i64 4, .int .i64 2, .int .i64 3, .int .i64 1, .int .i64 2, .int .i64 1, .int .i64 1, .int .i64 20])) T (rn_build rfl (.cons (T.ev 3 rfl) (.cons (T.ev 2 rfl) (.cons (T.ev 1 rfl) (.cons (T.ev 0 rfl) (.cons evc .nil))))) (fun _ => by kernel_rfl)) ?_; clear T ac; intro ac T
 refine lq (v := (.agg #[.int .i64 20, .int .i64 (-2), .int .i64 4, .int .i64 2, .int .i64 3, .slice (some ⟨g2, 0, none⟩) 2 2, .slice H hs.length d, .int .i64 30, .int .i64 32, .int .i64 40, .int .i64 41, .int .i64 3, .int .i64 4, .int .i64 2, .int .i64 3, .int .i64 1, .int .i64 2, .int .i64 1, .int .i64 1, .int .i64 20, .int .i64 1])) T (rn_build rfl (.cons (T.ev 15 rfl) (.cons evc (.cons (T.ev 8 rfl) (.cons (T.ev 7 rfl) (.cons (T.ev 6 rfl) (.cons (T.ev 5 rfl) (.cons (T.ev 0 rfl) (.cons evc .nil)))))))) (fun _ => by kernel_rfl)) ?_; clear T ac; intro ac T
 refine l_w rfl ?_; intro K hK
 refine ow_stO M T rfl rfl (T.ev 17 rfl) (T.ev 0 rfl) rfl (.tail .head) rfl (by simp) rfl (by kernel_rfl) ?_; clear M T; intro wc ac M T
 refine sh_out hK _ _ ?_; clear hK K
 refine wpList_nil ?_
 replace T := T.pick [17] rfl
 refine nm_then ?_
 refine wp_ret ?_
 refine rt_c M T rfl (T.ev 0 rfl) (nthE_mem (i := 1) rfl) rfl ?_
 exact ⟨g2, rfl, M.perm [0] rfl rfl⟩
theorem full5_any  (w : World)  :
   Calls Try.prog 58 #[] w (BoxPost fullX w) := by
 refine px_enter noEx Try.func58 rfl 12 rfl [] rfl rfl (Mem.init w _) ?_
 intro ac wc T M
 refine wp_seq ?_
 refine wp_region_lit ?_
 refine l_w rfl ?_; intro K hK
 refine ow_al M T rfl rfl rfl rfl ?_; clear M T; intro g1 wc ac M T
 refine sh_out hK _ _ ?_; clear hK K
 refine wpList_nil ?_
 refine nm_then ?_
 refine wp_seq ?_
 refine wp_region_lit ?_
 refine l_w rfl ?_; intro K hK
 refine ow_call (first := []) (cap := []) T rfl rfl rfl rfl evf (.cons evc (.cons evc .nil)) Try.func24 rfl rfl ?_
 refine Calls.mono (to5_any 14 15 _) ?_
 clear T
 rintro e wc ⟨rfl, hb⟩
 intro ac T
 replace M := M.call hb; clear hb
 refine sh_out hK _ _ ?_; clear hK K
 refine l_w rfl ?_; intro K hK
 refine ow_call (first := []) (cap := []) T rfl rfl rfl rfl evf (.cons evc (.cons evc .nil)) Try.func24 rfl rfl ?_
 refine Calls.mono (to5_any 0 1 _) ?_
 clear T
 rintro e wc ⟨rfl, hb⟩
 intro ac T
 replace M := M.call hb; clear hb
 refine sh_out hK _ _ ?_; clear hK K
 refine l_w rfl ?_; intro K hK
 refine ow_call (first := []) (cap := []) T rfl rfl rfl rfl evf (.cons (T.ev 1 rfl) (.cons (T.ev 0 rfl) .nil)) Try.func36 rfl rfl ?_
 refine Calls.mono (sound5_any 14 15 0 1 _) ?_
 clear T
 rintro e wc ⟨rfl, hb⟩
 intro ac T
 replace M := M.call hb; clear hb
 refine sh_out hK _ _ ?_; clear hK K
 refine l_w rfl ?_; intro K hK
 refine ow_call (first := []) (cap := []) T rfl rfl rfl rfl evf (.cons evc (.cons evc .nil)) Try.func24 rfl rfl ?_
 refine Calls.mono (to5_any 20 20 _) ?_
 clear T
 rintro e wc ⟨rfl, hb⟩
 intro ac T
 replace M := M.call hb; clear hb
 refine sh_out hK _ _ ?_; clear hK K
 refine l_w rfl ?_; intro K hK
 refine ow_call (first := []) (cap := []) T rfl rfl rfl rfl evf (.cons evc (.cons evc .nil)) Try.func24 rfl rfl ?_
 refine Calls.mono (to5_any 0 0 _) ?_
 clear T
 rintro e wc ⟨rfl, hb⟩
 intro ac T
 replace M := M.call hb; clear hb
 refine sh_out hK _ _ ?_; clear hK K
 refine l_w rfl ?_; intro K hK
 refine ow_call (first := []) (cap := []) T rfl rfl rfl rfl evf (.cons (T.ev 1 rfl) (.cons (T.ev 0 rfl) .nil)) Try.func36 rfl rfl ?_
 refine Calls.mono (sound5_any 20 20 0 0 _) ?_
 clear T
 rintro e wc ⟨rfl, hb⟩
 intro ac T
 replace M := M.call hb; clear hb
 refine sh_out hK _ _ ?_; clear hK K
 refine l_w rfl ?_; intro K hK
 refine ow_call (first := []) (cap := []) T rfl rfl rfl rfl evf (.cons evc (.cons evc .nil)) Try.func24 rfl rfl ?_
 refine Calls.mono (to5_any 30 30 _) ?_
 clear T
 rintro e wc ⟨rfl, hb⟩
 intro ac T
 replace M := M.call hb; clear hb
 refine sh_out hK _ _ ?_; clear hK K
 refine l_w rfl ?_; intro K hK
 refine ow_call (first := []) (cap := []) T rfl rfl rfl rfl evf (.cons evc (.cons evc .nil)) Try.func24 rfl rfl ?_
 refine Calls.mono (to5_any 0 0 _) ?_
 clear T
 rintro e wc ⟨rfl, hb⟩
 intro ac T
 replace M := M.call hb; clear hb
 refine sh_out hK _ _ ?_; clear hK K
 refine l_w rfl ?_; intro K hK
 refine ow_call (first := []) (cap := []) T rfl rfl rfl rfl evf (.cons (T.ev 1 rfl) (.cons (T.ev 0 rfl) .nil)) Try.func36 rfl rfl ?_
 refine Calls.mono (sound5_any 30 30 0 0 _) ?_
 clear T
 rintro e wc ⟨rfl, hb⟩
 intro ac T
 replace M := M.call hb; clear hb
 refine sh_out hK _ _ ?_; clear hK K
 refine l_w rfl ?_; intro K hK
 refine ow_bs (e := 48) [.int .i64 14, .int .i64 15, .int .i64 0, .int .i64 1, .int .i64 20, .int .i64 20, .int .i64 0, .int .i64 0, .int .i64 30, .int .i64 30, .int .i64 0, .int .i64 0] M T rfl rfl rfl rfl (.cons (T.ev 6 rfl) (.cons (T.ev 3 rfl) (.cons (T.ev 0 rfl) .nil))) (fun _ => by kernel_rfl) ?_; clear M T; intro g2 wc ac M T
 refine sh_out hK _ _ ?_; clear hK K
 refine l_w rfl ?_; intro K hK
 refine ow_call (first := []) (cap := []) T rfl rfl rfl rfl evf (.cons (T.ev 0 rfl) .nil) Try.func93 rfl rfl ?_
 refine Calls.mono (box5_any _ 3 fullH _) ?_
 clear T
 rintro e wc ⟨gu10, rfl, N⟩
 intro ac T
 replace M := M.join N; clear N
 replace M := M.mask [true, true, true] rfl
 refine sh_out hK _ _ ?_; clear hK K
 refine l_w rfl ?_; intro K hK
 refine ow_stO M T rfl rfl (T.ev 11 rfl) (T.ev 0 rfl) rfl (.tail (.tail .head)) rfl (by simp) rfl (by kernel_rfl) ?_; clear M T; intro wc ac M T
 refine sh_out hK _ _ ?_; clear hK K
 refine wpList_nil ?_
 replace T := T.pick [11] rfl
 refine nm_then ?_
 refine wp_ret ?_
 refine rt_c M T rfl (T.ev 0 rfl) (nthE_mem (i := 2) rfl) rfl ?_
 exact ⟨_, _, _, _, _, rfl, ⟨gu10, 0, fun w ex => (Sp.cells (xs := sc fullX.lows) rfl).mono (List.Sublist.cons_cons _ (List.nil_sublist _))⟩, ⟨g2, 0, fun w ex => (Sp.cells (xs := sc fullX.highs) rfl).mono (.cons _ (List.Sublist.refl _))⟩, M.perm [0, 1] rfl rfl⟩
theorem less5_any  (w : World)  :
   Calls Try.prog 59 #[] w (BoxPost lessX w) := by
 refine px_enter noEx Try.func59 rfl 9 rfl [] rfl rfl (Mem.init w _) ?_
 intro ac wc T M
 refine wp_seq ?_
 refine wp_region_lit ?_
 refine l_w rfl ?_; intro K hK
 refine ow_al M T rfl rfl rfl rfl ?_; clear M T; intro g1 wc ac M T
 refine sh_out hK _ _ ?_; clear hK K
 refine wpList_nil ?_
 refine nm_then ?_
 refine wp_seq ?_
 refine wp_region_lit ?_
 refine l_w rfl ?_; intro K hK
 refine ow_call (first := []) (cap := []) T rfl rfl rfl rfl evf (.cons evc (.cons evc .nil)) Try.func24 rfl rfl ?_
 refine Calls.mono (to5_any 14 15 _) ?_
 clear T
 rintro e wc ⟨rfl, hb⟩
 intro ac T
 replace M := M.call hb; clear hb
 refine sh_out hK _ _ ?_; clear hK K
 refine l_w rfl ?_; intro K hK
 refine ow_call (first := []) (cap := []) T rfl rfl rfl rfl evf (.cons evc (.cons evc .nil)) Try.func24 rfl rfl ?_
 refine Calls.mono (to5_any 0 1 _) ?_
 clear T
 rintro e wc ⟨rfl, hb⟩
 intro ac T
 replace M := M.call hb; clear hb
 refine sh_out hK _ _ ?_; clear hK K
 refine l_w rfl ?_; intro K hK
 refine ow_call (first := []) (cap := []) T rfl rfl rfl rfl evf (.cons (T.ev 1 rfl) (.cons (T.ev 0 rfl) .nil)) Try.func36 rfl rfl ?_
 refine Calls.mono (sound5_any 14 15 0 1 _) ?_
 clear T
 rintro e wc ⟨rfl, hb⟩
 intro ac T
 replace M := M.call hb; clear hb
 refine sh_out hK _ _ ?_; clear hK K
 refine l_w rfl ?_; intro K hK
 refine ow_call (first := []) (cap := []) T rfl rfl rfl rfl evf (.cons evc (.cons evc .nil)) Try.func24 rfl rfl ?_
 refine Calls.mono (to5_any 30 30 _) ?_
 clear T
 rintro e wc ⟨rfl, hb⟩
 intro ac T
 replace M := M.call hb; clear hb
 refine sh_out hK _ _ ?_; clear hK K
 refine l_w rfl ?_; intro K hK
 refine ow_call (first := []) (cap := []) T rfl rfl rfl rfl evf (.cons evc (.cons evc .nil)) Try.func24 rfl rfl ?_
 refine Calls.mono (to5_any 0 0 _) ?_
 clear T
 rintro e wc ⟨rfl, hb⟩
 intro ac T
 replace M := M.call hb; clear hb
 refine sh_out hK _ _ ?_; clear hK K
 refine l_w rfl ?_; intro K hK
 refine ow_call (first := []) (cap := []) T rfl rfl rfl rfl evf (.cons (T.ev 1 rfl) (.cons (T.ev 0 rfl) .nil)) Try.func36 rfl rfl ?_
 refine Calls.mono (sound5_any 30 30 0 0 _) ?_
 clear T
 rintro e wc ⟨rfl, hb⟩
 intro ac T
 replace M := M.call hb; clear hb
 refine sh_out hK _ _ ?_; clear hK K
 refine l_w rfl ?_; intro K hK
 refine ow_bs (e := 48) [.int .i64 14, .int .i64 15, .int .i64 0, .int .i64 1, .int .i64 30, .int .i64 30, .int .i64 0, .int .i64 0] M T rfl rfl rfl rfl (.cons (T.ev 3 rfl) (.cons (T.ev 0 rfl) .nil)) (fun _ => by kernel_rfl) ?_; clear M T; intro g2 wc ac M T
 refine sh_out hK _ _ ?_; clear hK K
 refine l_w rfl ?_; intro K hK
 refine ow_call (first := []) (cap := []) T rfl rfl rfl rfl evf (.cons (T.ev 0 rfl) .nil) Try.func93 rfl rfl ?_
 refine Calls.mono (box5_any _ 2 lessH _) ?_
 clear T
 rintro e wc ⟨gu7, rfl, N⟩
 intro ac T
 replace M := M.join N; clear N
 replace M := M.mask [true, true, true] rfl
 refine sh_out hK _ _ ?_; clear hK K
 refine l_w rfl ?_; intro K hK
 refine ow_stO M T rfl rfl (T.ev 8 rfl) (T.ev 0 rfl) rfl (.tail (.tail .head)) rfl (by simp) rfl (by kernel_rfl) ?_; clear M T; intro wc ac M T
 refine sh_out hK _ _ ?_; clear hK K
 refine wpList_nil ?_
 replace T := T.pick [8] rfl
 refine nm_then ?_
 refine wp_ret ?_
 refine rt_c M T rfl (T.ev 0 rfl) (nthE_mem (i := 2) rfl) rfl ?_
 exact ⟨_, _, _, _, _, rfl, ⟨gu7, 0, fun w ex => (Sp.cells (xs := sc lessX.lows) rfl).mono (List.Sublist.cons_cons _ (List.nil_sublist _))⟩, ⟨g2, 0, fun w ex => (Sp.cells (xs := sc lessX.highs) rfl).mono (.cons _ (List.Sublist.refl _))⟩, M.perm [0, 1] rfl rfl⟩
theorem Beat_x (A : Option Addr) (c : Nat) (B : Option Addr) (d : Nat) (w : World) (hA : Rd w w.heap.size 4 A fullX.lows.length (sc fullX.lows)) (hB : Rd w w.heap.size 4 B fullX.highs.length (sc fullX.highs)) :
   Calls Try.prog 21 #[bxV fullX A c B d, .int .i64 1, .int .i64 0] w fun e w' => ∃ A' c' I, e = .returned (.tuple #[.slice A' 3 c', .int .i64 0]) ∧ (∃ b o, ∀ (w : World) (ex : Nat → Prop), Sp w ex I A' 3 2 b o (rc [(9, 10), (8, 10), (7, 10)])) ∧ Mem w noEx w' I :=
 Calls.mono (Beat_any fullX A c B d 1 0 w hA hB (by decide) (by decide)) fun e w' h => by
   obtain ⟨A', c', I, rfl, h2, h3⟩ := h
   rw [x_beat.1] at h2
   rw [x_beat.1, x_beat.2]
   exact ⟨A', c', I, rfl, h2.spV rfl, h3⟩
theorem Match_x (A : Option Addr) (c : Nat) (B : Option Addr) (d : Nat) (w : World) (hA : Rd w w.heap.size 4 A lessX.lows.length (sc lessX.lows)) (hB : Rd w w.heap.size 4 B lessX.highs.length (sc lessX.highs)) :
   Calls Try.prog 27 #[bxV lessX A c B d] w fun e w' => ∃ A' c' I, e = .returned (.tuple #[.slice A' 2 c', .int .i64 0]) ∧ (∃ b o, ∀ (w : World) (ex : Nat → Prop), Sp w ex I A' 2 1 b o (ic [0, -1])) ∧ Mem w noEx w' I :=
 Calls.mono (Match_any lessX A c B d w hA hB (by decide) (by decide)) fun e w' h => by
   rw [x_match] at h
   obtain ⟨A', c', I, rfl, _, h2, h3⟩ := h
   exact ⟨A', c', I, rfl, h2, h3⟩
theorem Short_x (A : Option Addr) (c : Nat) (B : Option Addr) (d : Nat) (w : World) (hA : Rd w w.heap.size 4 A lessX.lows.length (sc lessX.lows)) (hB : Rd w w.heap.size 4 B lessX.highs.length (sc lessX.highs)) :
   Calls Try.prog 28 #[bxV lessX A c B d] w fun e w' => ∃ A' c' I, e = .returned (.tuple #[.slice A' 1 c', .int .i64 0]) ∧ (∃ b o, ∀ (w : World) (ex : Nat → Prop), Sp w ex I A' 1 1 b o (ic [1])) ∧ Mem w noEx w' I :=
 Calls.mono (Short_any lessX A c B d w hA hB (by decide) (by decide)) fun e w' h => by
   rw [x_short] at h
   obtain ⟨A', c', I, rfl, _, h2, h3⟩ := h
   exact ⟨A', c', I, rfl, h2, h3⟩
theorem Strokes_x (A : Option Addr) (c : Nat) (B : Option Addr) (d : Nat) (w : World) (hA : Rd w w.heap.size 4 A fullX.lows.length (sc fullX.lows)) (hB : Rd w w.heap.size 4 B fullX.highs.length (sc fullX.highs)) :
   Calls Try.prog 60 #[bxV fullX A c B d, .int .i64 0, .int .i64 1] w fun e w' => e = .returned (.tuple #[.int .i64 2, .int .i64 0]) ∧ Below w.heap.size w w' := by
 have h := VStrokes_any fullX A c B d 0 1 w hA hB (by decide) (by decide)
 rw [x_strokes] at h
 exact h
theorem Tremolo_x (A : Option Addr) (c : Nat) (LL : List LS) (G : Option Addr) (d : Nat) (w : World) (hR : rowsOf LL = rowsX) (hA : Rd w w.heap.size 1 A LL.length (lsC LL)) (hE : ElsS w LL) (hG : Rd w w.heap.size 1 G 2 (ic [0, 1])) :
   Calls Try.prog 15 #[.agg #[.int .i64 20, .int .i64 (-2), .int .i64 4, .int .i64 2, .slice A LL.length c], .slice G 2 d] w fun e w' => ∃ A' c' I, e = .returned (.tuple #[.slice A' 2 c', .int .i64 0]) ∧ (∃ b o, ∀ (w : World) (ex : Nat → Prop), Sp w ex I A' 2 1 b o (ic [1, 3])) ∧ Mem w noEx w' I := by
 have hl : LL.length = 3 := by have := congrArg List.length hR; simpa [rowsX] using this
 have hx : ∀ x ∈ LL, x.1.length ≤ 1000000 := fun x hx => by
   have : x.1 ∈ rowsX := by rw [← hR]; exact List.mem_map.2 ⟨x, hx, rfl⟩
   have h9 : ∀ y ∈ rowsX, y.length ≤ 1000000 := by decide
   exact h9 _ this
 have h := Tremolo_any lawX A c LL G d [0, 1] w hA hE (by omega) hx hG (by decide)
 refine Calls.mono h fun e w' h => ?_
 rw [hR, x_trem] at h
 obtain ⟨A', c', I, rfl, _, h2, h3⟩ := h
 exact ⟨A', c', I, rfl, h2, h3⟩
end Go.Proofs.Ytlahdenlmmlplaa
end

section
/-
 law05: trembling, the check with which each law ends.
-/
namespace Go.Proofs.Ytlahdenlmmlplaa
set_option linter.unusedSimpArgs false
set_option linter.unusedVariables false
open Go.RowKit
def ElsR (LL : List LS) (I : List (Nat × BA)) : Prop := ∀ x ∈ LL, ∃ b o, ∀ (w : World) (ex : Nat → Prop), Sp w ex I x.2.1 x.1.length 4 b o (sc x.1)
def ScalePost (l : Lw) (R : List (List Snd)) (w : World) (e : Ending) (w' : World) : Prop := ∃ A c LL I, rowsOf LL = R ∧ e = .returned (.agg #[.int .i64 l.first, .int .i64 l.step, .int .i64 l.span, .int .i64 l.press, .slice A LL.length c]) ∧ (∃ b o, ∀ (w : World) (ex : Nat → Prop), Sp w ex I A LL.length 1 b o (lsC LL)) ∧ ElsR LL I ∧ Mem w noEx w' I
set_option maxHeartbeats 8000000 in
theorem scale5_any  (w : World)  :
   Calls Try.prog 61 #[] w (ScalePost lawX rowsX w) := by
 refine px_enter noEx Try.func61 rfl 27 rfl [] rfl rfl (Mem.init w _) ?_
 intro ac wc T M
 refine wp_seq ?_
 refine wp_region_lit ?_
 refine l_w rfl ?_; intro K hK
 refine ow_al M T rfl rfl rfl rfl ?_; clear M T; intro g1 wc ac M T
 refine sh_out hK _ _ ?_; clear hK K
 refine wpList_nil ?_
 refine nm_then ?_
 refine wp_seq ?_
 refine wp_region_lit ?_
 refine l_w rfl ?_; intro K hK
 refine ow_call (first := []) (cap := []) T rfl rfl rfl rfl evf (.cons evc (.cons evc .nil)) Try.func24 rfl rfl ?_
 refine Calls.mono (to5_any 0 0 _) ?_
 clear T
 rintro e wc ⟨rfl, hb⟩
 intro ac T
 replace M := M.call hb; clear hb
 refine sh_out hK _ _ ?_; clear hK K
 refine l_w rfl ?_; intro K hK
 refine ow_al M T rfl rfl rfl rfl ?_; clear M T; intro g2 wc ac M T
 refine sh_out hK _ _ ?_; clear hK K
 refine l_w rfl ?_; intro K hK
 refine ow_stO M T rfl rfl (T.ev 0 rfl) (T.ev 1 rfl) rfl .head rfl (by simp) rfl (by kernel_rfl) ?_; clear M T; intro wc ac M T
 refine sh_out hK _ _ ?_; clear hK K
 refine wpList_nil ?_
 replace T := T.pick [0, 2] rfl
 refine nm_then ?_
 refine wp_seq ?_
 refine g_start2 M (M.perm [0] rfl rfl) 25 (by kernel_rfl) rfl (by kernel_rfl) ?_
 clear M; intro wc M
 refine g_addG 24 M ?_
 refine g_have (fun ac wc => ∃ (gr2_14 gr2_7 gr2_21 : Nat), Tm ac 27 [(17, .slice (some ⟨gr2_14, 0, none⟩) 2 2), (10, .slice (some ⟨gr2_7, 0, none⟩) 2 2), (24, .slice (some ⟨gr2_21, 0, none⟩) 2 2), (23, .agg #[.int .i64 30, .int .i64 30, .int .i64 0, .int .i64 0]), (21, .agg #[.int .i64 30, .int .i64 30]), (20, .agg #[.int .i64 30, .int .i64 30, .int .i64 0, .int .i64 0]), (18, .agg #[.int .i64 30, .int .i64 30]), (16, .agg #[.int .i64 13, .int .i64 15, .int .i64 0, .int .i64 0]), (14, .agg #[.int .i64 13, .int .i64 15]), (13, .agg #[.int .i64 20, .int .i64 20, .int .i64 0, .int .i64 0]), (11, .agg #[.int .i64 20, .int .i64 20]), (9, .agg #[.int .i64 0, .int .i64 0, .int .i64 0, .int .i64 0]), (7, .agg #[.int .i64 0, .int .i64 0]), (6, .agg #[.int .i64 (-1), .int .i64 1, .int .i64 0, .int .i64 0]), (4, .agg #[.int .i64 (-1), .int .i64 1]), (3, .agg #[.int .i64 20, .int .i64 (-2), .int .i64 4, .int .i64 2]), (22, .agg #[.int .i64 0, .int .i64 0]), (19, .agg #[.int .i64 0, .int .i64 0]), (15, .agg #[.int .i64 0, .int .i64 0]), (12, .agg #[.int .i64 0, .int .i64 0]), (8, .agg #[.int .i64 0, .int .i64 0]), (5, .agg #[.int .i64 0, .int .i64 0]), (1, .pointer (some ⟨g2, 0, none⟩)), (0, .pointer (some ⟨g1, 0, none⟩))] ∧ Mem w noEx wc [(gr2_14, .cells [.int .i64 20, .int .i64 20, .int .i64 0, .int .i64 0, .int .i64 13, .int .i64 15, .int .i64 0, .int .i64 0]), (gr2_7, .cells [.int .i64 (-1), .int .i64 1, .int .i64 0, .int .i64 0, .int .i64 0, .int .i64 0, .int .i64 0, .int .i64 0]), (gr2_21, .cells [.int .i64 30, .int .i64 30, .int .i64 0, .int .i64 0, .int .i64 30, .int .i64 30, .int .i64 0, .int .i64 0]), (g2, .cells [.int .i64 0, .int .i64 0]), (g1, .cells [.int .i64 0, .int .i64 0, .int .i64 0, .int .i64 0, .slice none 0 0])]) (pbits 25 4194303) 3 ?_ ?_
 ·clear T M
  rintro ac wc ⟨gr2_14, gr2_7, gr2_21, T, M⟩
  refine gw 22 8388607 ?_; intro K hK
  refine ow_bs (e := 38) [.slice (some ⟨gr2_7, 0, none⟩) 2 2, .slice (some ⟨gr2_14, 0, none⟩) 2 2, .slice (some ⟨gr2_21, 0, none⟩) 2 2] M T rfl rfl rfl rfl (.cons (T.ev 1 rfl) (.cons (T.ev 0 rfl) (.cons (T.ev 2 rfl) .nil))) (fun _ => by kernel_rfl) ?_; clear M T; intro gr2_22 wc ac M T
  refine sh_out hK _ _ (MA.mk (fun _ => M.mask [false, false, false, false, true, true] rfl) (M.mask [false, false, false, false, true, false] rfl)) ?_; clear hK K
  refine gq (v := (.agg #[.int .i64 20, .int .i64 (-2), .int .i64 4, .int .i64 2, .slice (some ⟨gr2_22, 0, none⟩) 3 3])) T 23 16777215 rfl (fun _ _ _ _ _ => (rn_build rfl (.cons (T.ev 16 rfl) (.cons (T.ev 0 rfl) .nil)) (fun _ => by kernel_rfl))) ?_; clear T ac; intro ac T
  refine gw 24 33554431 ?_; intro K hK
  refine ow_stO M T rfl rfl (T.ev 25 rfl) (T.ev 0 rfl) rfl (.tail (.tail (.tail (.tail (.tail .head))))) rfl (by simp) rfl (by kernel_rfl) ?_; clear M T; intro wc ac M T
  refine sh_out hK _ _ (MA.mk (fun h => (no_of (by kernel_rfl) h).elim) (M.mask [false, false, false, false, true, false] rfl)) ?_; clear hK K
  refine g_done (by kernel_rfl) ?_
  replace T := T.pick [25] rfl
  replace M := M.mask [true, true, true, true, false, true] rfl
  refine nm_then ?_
  refine wp_ret ?_
  refine rt_c M T rfl (T.ev 0 rfl) (nthE_mem (i := 4) rfl) rfl ?_
  refine ⟨some ⟨gr2_22, 0, none⟩, 3, [([⟨-1, 1, 0, 0⟩, ⟨0, 0, 0, 0⟩], some ⟨gr2_7, 0, none⟩, 2), ([⟨20, 20, 0, 0⟩, ⟨13, 15, 0, 0⟩], some ⟨gr2_14, 0, none⟩, 2), ([⟨30, 30, 0, 0⟩, ⟨30, 30, 0, 0⟩], some ⟨gr2_21, 0, none⟩, 2)], _, rfl, rfl, ⟨gr2_22, 0, fun w ex => (Sp.cells (xs := lsC [([⟨-1, 1, 0, 0⟩, ⟨0, 0, 0, 0⟩], some ⟨gr2_7, 0, none⟩, 2), ([⟨20, 20, 0, 0⟩, ⟨13, 15, 0, 0⟩], some ⟨gr2_14, 0, none⟩, 2), ([⟨30, 30, 0, 0⟩, ⟨30, 30, 0, 0⟩], some ⟨gr2_21, 0, none⟩, 2)]) rfl).mono (List.Sublist.cons_cons _ (List.nil_sublist _))⟩, ?_, M.perm [0, 2, 1, 3] rfl rfl⟩
  intro x hx
  simp only [List.mem_cons, List.not_mem_nil, or_false] at hx
  rcases hx with rfl | rfl | rfl
  · exact ⟨gr2_7, 0, fun w ex => (Sp.cells (xs := sc [⟨-1, 1, 0, 0⟩, ⟨0, 0, 0, 0⟩]) rfl).mono (.cons _ (.cons_cons _ (List.nil_sublist _)))⟩
  · exact ⟨gr2_14, 0, fun w ex => (Sp.cells (xs := sc [⟨20, 20, 0, 0⟩, ⟨13, 15, 0, 0⟩]) rfl).mono (.cons _ (.cons _ (.cons_cons _ (List.nil_sublist _))))⟩
  · exact ⟨gr2_21, 0, fun w ex => (Sp.cells (xs := sc [⟨30, 30, 0, 0⟩, ⟨30, 30, 0, 0⟩]) rfl).mono (.cons _ (.cons _ (.cons _ (.cons_cons _ (List.nil_sublist _)))))⟩
 intro H19
 refine g_have (fun ac wc => ∃ (gr2_14 gr2_7 : Nat), Tm ac 27 [(17, .slice (some ⟨gr2_14, 0, none⟩) 2 2), (10, .slice (some ⟨gr2_7, 0, none⟩) 2 2), (23, .agg #[.int .i64 30, .int .i64 30, .int .i64 0, .int .i64 0]), (21, .agg #[.int .i64 30, .int .i64 30]), (20, .agg #[.int .i64 30, .int .i64 30, .int .i64 0, .int .i64 0]), (18, .agg #[.int .i64 30, .int .i64 30]), (16, .agg #[.int .i64 13, .int .i64 15, .int .i64 0, .int .i64 0]), (14, .agg #[.int .i64 13, .int .i64 15]), (13, .agg #[.int .i64 20, .int .i64 20, .int .i64 0, .int .i64 0]), (11, .agg #[.int .i64 20, .int .i64 20]), (9, .agg #[.int .i64 0, .int .i64 0, .int .i64 0, .int .i64 0]), (7, .agg #[.int .i64 0, .int .i64 0]), (6, .agg #[.int .i64 (-1), .int .i64 1, .int .i64 0, .int .i64 0]), (4, .agg #[.int .i64 (-1), .int .i64 1]), (3, .agg #[.int .i64 20, .int .i64 (-2), .int .i64 4, .int .i64 2]), (22, .agg #[.int .i64 0, .int .i64 0]), (19, .agg #[.int .i64 0, .int .i64 0]), (15, .agg #[.int .i64 0, .int .i64 0]), (12, .agg #[.int .i64 0, .int .i64 0]), (8, .agg #[.int .i64 0, .int .i64 0]), (5, .agg #[.int .i64 0, .int .i64 0]), (1, .pointer (some ⟨g2, 0, none⟩)), (0, .pointer (some ⟨g1, 0, none⟩))] ∧ Mem w noEx wc [(gr2_14, .cells [.int .i64 20, .int .i64 20, .int .i64 0, .int .i64 0, .int .i64 13, .int .i64 15, .int .i64 0, .int .i64 0]), (gr2_7, .cells [.int .i64 (-1), .int .i64 1, .int .i64 0, .int .i64 0, .int .i64 0, .int .i64 0, .int .i64 0, .int .i64 0]), (g2, .cells [.int .i64 0, .int .i64 0]), (g1, .cells [.int .i64 0, .int .i64 0, .int .i64 0, .int .i64 0, .slice none 0 0])]) (pbits 25 2097151) 4 ?_ ?_
 ·clear T M
  rintro ac wc ⟨gr2_14, gr2_7, T, M⟩
  refine gw 21 4194303 ?_; intro K hK
  refine ow_bs (e := 48) [.int .i64 30, .int .i64 30, .int .i64 0, .int .i64 0, .int .i64 30, .int .i64 30, .int .i64 0, .int .i64 0] M T rfl rfl rfl rfl (.cons (T.ev 4 rfl) (.cons (T.ev 2 rfl) .nil)) (fun _ => by kernel_rfl) ?_; clear M T; intro gr2_21 wc ac M T
  refine sh_out hK _ _ (MA.mk (fun _ => M.mask [false, false, false, true, true] rfl) (M.mask [false, false, false, true, false] rfl)) ?_; clear hK K
  exact H19 _ _ ⟨gr2_14, gr2_7, gr2_21, T.pick [1, 2, 0, 3, 4, 5, 6, 7, 8, 9, 10, 11, 12, 13, 14, 15, 16, 17, 18, 19, 20, 21, 22, 23] rfl, M.perm [1, 2, 0, 3, 4] rfl rfl⟩
 intro H18
 refine g_have (fun ac wc => ∃ (gr2_14 gr2_21 : Nat), Tm ac 27 [(17, .slice (some ⟨gr2_14, 0, none⟩) 2 2), (24, .slice (some ⟨gr2_21, 0, none⟩) 2 2), (23, .agg #[.int .i64 30, .int .i64 30, .int .i64 0, .int .i64 0]), (21, .agg #[.int .i64 30, .int .i64 30]), (20, .agg #[.int .i64 30, .int .i64 30, .int .i64 0, .int .i64 0]), (18, .agg #[.int .i64 30, .int .i64 30]), (16, .agg #[.int .i64 13, .int .i64 15, .int .i64 0, .int .i64 0]), (14, .agg #[.int .i64 13, .int .i64 15]), (13, .agg #[.int .i64 20, .int .i64 20, .int .i64 0, .int .i64 0]), (11, .agg #[.int .i64 20, .int .i64 20]), (9, .agg #[.int .i64 0, .int .i64 0, .int .i64 0, .int .i64 0]), (7, .agg #[.int .i64 0, .int .i64 0]), (6, .agg #[.int .i64 (-1), .int .i64 1, .int .i64 0, .int .i64 0]), (4, .agg #[.int .i64 (-1), .int .i64 1]), (3, .agg #[.int .i64 20, .int .i64 (-2), .int .i64 4, .int .i64 2]), (22, .agg #[.int .i64 0, .int .i64 0]), (19, .agg #[.int .i64 0, .int .i64 0]), (15, .agg #[.int .i64 0, .int .i64 0]), (12, .agg #[.int .i64 0, .int .i64 0]), (8, .agg #[.int .i64 0, .int .i64 0]), (5, .agg #[.int .i64 0, .int .i64 0]), (1, .pointer (some ⟨g2, 0, none⟩)), (0, .pointer (some ⟨g1, 0, none⟩))] ∧ Mem w noEx wc [(gr2_14, .cells [.int .i64 20, .int .i64 20, .int .i64 0, .int .i64 0, .int .i64 13, .int .i64 15, .int .i64 0, .int .i64 0]), (gr2_21, .cells [.int .i64 30, .int .i64 30, .int .i64 0, .int .i64 0, .int .i64 30, .int .i64 30, .int .i64 0, .int .i64 0]), (g2, .cells [.int .i64 0, .int .i64 0]), (g1, .cells [.int .i64 0, .int .i64 0, .int .i64 0, .int .i64 0, .slice none 0 0])]) (pbits 25 4194175) 4 ?_ ?_
 ·clear T M
  rintro ac wc ⟨gr2_14, gr2_21, T, M⟩
  refine gw 7 4194303 ?_; intro K hK
  refine ow_bs (e := 48) [.int .i64 (-1), .int .i64 1, .int .i64 0, .int .i64 0, .int .i64 0, .int .i64 0, .int .i64 0, .int .i64 0] M T rfl rfl rfl rfl (.cons (T.ev 12 rfl) (.cons (T.ev 10 rfl) .nil)) (fun _ => by kernel_rfl) ?_; clear M T; intro gr2_7 wc ac M T
  refine sh_out hK _ _ (MA.mk (fun _ => M.mask [false, false, false, true, true] rfl) (M.mask [false, false, false, true, false] rfl)) ?_; clear hK K
  exact H19 _ _ ⟨gr2_14, gr2_7, gr2_21, T.pick [1, 0, 2, 3, 4, 5, 6, 7, 8, 9, 10, 11, 12, 13, 14, 15, 16, 17, 18, 19, 20, 21, 22, 23] rfl, M.perm [1, 0, 2, 3, 4] rfl rfl⟩
 intro H17
 refine g_have (fun ac wc => ∃ (gr2_7 gr2_21 : Nat), Tm ac 27 [(10, .slice (some ⟨gr2_7, 0, none⟩) 2 2), (24, .slice (some ⟨gr2_21, 0, none⟩) 2 2), (23, .agg #[.int .i64 30, .int .i64 30, .int .i64 0, .int .i64 0]), (21, .agg #[.int .i64 30, .int .i64 30]), (20, .agg #[.int .i64 30, .int .i64 30, .int .i64 0, .int .i64 0]), (18, .agg #[.int .i64 30, .int .i64 30]), (16, .agg #[.int .i64 13, .int .i64 15, .int .i64 0, .int .i64 0]), (14, .agg #[.int .i64 13, .int .i64 15]), (13, .agg #[.int .i64 20, .int .i64 20, .int .i64 0, .int .i64 0]), (11, .agg #[.int .i64 20, .int .i64 20]), (9, .agg #[.int .i64 0, .int .i64 0, .int .i64 0, .int .i64 0]), (7, .agg #[.int .i64 0, .int .i64 0]), (6, .agg #[.int .i64 (-1), .int .i64 1, .int .i64 0, .int .i64 0]), (4, .agg #[.int .i64 (-1), .int .i64 1]), (3, .agg #[.int .i64 20, .int .i64 (-2), .int .i64 4, .int .i64 2]), (22, .agg #[.int .i64 0, .int .i64 0]), (19, .agg #[.int .i64 0, .int .i64 0]), (15, .agg #[.int .i64 0, .int .i64 0]), (12, .agg #[.int .i64 0, .int .i64 0]), (8, .agg #[.int .i64 0, .int .i64 0]), (5, .agg #[.int .i64 0, .int .i64 0]), (1, .pointer (some ⟨g2, 0, none⟩)), (0, .pointer (some ⟨g1, 0, none⟩))] ∧ Mem w noEx wc [(gr2_7, .cells [.int .i64 (-1), .int .i64 1, .int .i64 0, .int .i64 0, .int .i64 0, .int .i64 0, .int .i64 0, .int .i64 0]), (gr2_21, .cells [.int .i64 30, .int .i64 30, .int .i64 0, .int .i64 0, .int .i64 30, .int .i64 30, .int .i64 0, .int .i64 0]), (g2, .cells [.int .i64 0, .int .i64 0]), (g1, .cells [.int .i64 0, .int .i64 0, .int .i64 0, .int .i64 0, .slice none 0 0])]) (pbits 25 4177919) 4 ?_ ?_
 ·clear T M
  rintro ac wc ⟨gr2_7, gr2_21, T, M⟩
  refine gw 14 4194303 ?_; intro K hK
  refine ow_bs (e := 48) [.int .i64 20, .int .i64 20, .int .i64 0, .int .i64 0, .int .i64 13, .int .i64 15, .int .i64 0, .int .i64 0] M T rfl rfl rfl rfl (.cons (T.ev 8 rfl) (.cons (T.ev 6 rfl) .nil)) (fun _ => by kernel_rfl) ?_; clear M T; intro gr2_14 wc ac M T
  refine sh_out hK _ _ (MA.mk (fun _ => M.mask [false, false, false, true, true] rfl) (M.mask [false, false, false, true, false] rfl)) ?_; clear hK K
  exact H19 _ _ ⟨gr2_14, gr2_7, gr2_21, T, M⟩
 intro H16
 refine g_have (fun ac wc => ∃ (gr2_14 gr2_7 : Nat), Tm ac 27 [(17, .slice (some ⟨gr2_14, 0, none⟩) 2 2), (10, .slice (some ⟨gr2_7, 0, none⟩) 2 2), (21, .agg #[.int .i64 30, .int .i64 30]), (20, .agg #[.int .i64 30, .int .i64 30, .int .i64 0, .int .i64 0]), (18, .agg #[.int .i64 30, .int .i64 30]), (16, .agg #[.int .i64 13, .int .i64 15, .int .i64 0, .int .i64 0]), (14, .agg #[.int .i64 13, .int .i64 15]), (13, .agg #[.int .i64 20, .int .i64 20, .int .i64 0, .int .i64 0]), (11, .agg #[.int .i64 20, .int .i64 20]), (9, .agg #[.int .i64 0, .int .i64 0, .int .i64 0, .int .i64 0]), (7, .agg #[.int .i64 0, .int .i64 0]), (6, .agg #[.int .i64 (-1), .int .i64 1, .int .i64 0, .int .i64 0]), (4, .agg #[.int .i64 (-1), .int .i64 1]), (3, .agg #[.int .i64 20, .int .i64 (-2), .int .i64 4, .int .i64 2]), (22, .agg #[.int .i64 0, .int .i64 0]), (19, .agg #[.int .i64 0, .int .i64 0]), (15, .agg #[.int .i64 0, .int .i64 0]), (12, .agg #[.int .i64 0, .int .i64 0]), (8, .agg #[.int .i64 0, .int .i64 0]), (5, .agg #[.int .i64 0, .int .i64 0]), (1, .pointer (some ⟨g2, 0, none⟩)), (0, .pointer (some ⟨g1, 0, none⟩))] ∧ Mem w noEx wc [(gr2_14, .cells [.int .i64 20, .int .i64 20, .int .i64 0, .int .i64 0, .int .i64 13, .int .i64 15, .int .i64 0, .int .i64 0]), (gr2_7, .cells [.int .i64 (-1), .int .i64 1, .int .i64 0, .int .i64 0, .int .i64 0, .int .i64 0, .int .i64 0, .int .i64 0]), (g2, .cells [.int .i64 0, .int .i64 0]), (g1, .cells [.int .i64 0, .int .i64 0, .int .i64 0, .int .i64 0, .slice none 0 0])]) (pbits 25 1048575) 5 ?_ ?_
 ·clear T M
  rintro ac wc ⟨gr2_14, gr2_7, T, M⟩
  refine gw 20 2097151 ?_; intro K hK
  refine ow_call (first := []) (cap := []) T rfl rfl rfl rfl evf (.cons (T.ev 2 rfl) (.cons (T.ev 14 rfl) .nil)) Try.func36 rfl rfl ?_
  refine Calls.mono (sound5_any 30 30 0 0 _) ?_
  clear T
  rintro e wc ⟨rfl, hb⟩
  intro ac T
  replace M := M.call hb; clear hb
  refine sh_out hK _ _ (MA.mk (fun _ => M.mask [false, false, true, true] rfl) (M.mask [false, false, true, false] rfl)) ?_; clear hK K
  exact H18 _ _ ⟨gr2_14, gr2_7, T.pick [1, 2, 0, 3, 4, 5, 6, 7, 8, 9, 10, 11, 12, 13, 14, 15, 16, 17, 18, 19, 20, 21, 22] rfl, M⟩
 intro H15
 refine g_have (fun ac wc => ∃ (gr2_14 : Nat), Tm ac 27 [(17, .slice (some ⟨gr2_14, 0, none⟩) 2 2), (23, .agg #[.int .i64 30, .int .i64 30, .int .i64 0, .int .i64 0]), (21, .agg #[.int .i64 30, .int .i64 30]), (20, .agg #[.int .i64 30, .int .i64 30, .int .i64 0, .int .i64 0]), (18, .agg #[.int .i64 30, .int .i64 30]), (16, .agg #[.int .i64 13, .int .i64 15, .int .i64 0, .int .i64 0]), (14, .agg #[.int .i64 13, .int .i64 15]), (13, .agg #[.int .i64 20, .int .i64 20, .int .i64 0, .int .i64 0]), (11, .agg #[.int .i64 20, .int .i64 20]), (9, .agg #[.int .i64 0, .int .i64 0, .int .i64 0, .int .i64 0]), (7, .agg #[.int .i64 0, .int .i64 0]), (6, .agg #[.int .i64 (-1), .int .i64 1, .int .i64 0, .int .i64 0]), (4, .agg #[.int .i64 (-1), .int .i64 1]), (3, .agg #[.int .i64 20, .int .i64 (-2), .int .i64 4, .int .i64 2]), (22, .agg #[.int .i64 0, .int .i64 0]), (19, .agg #[.int .i64 0, .int .i64 0]), (15, .agg #[.int .i64 0, .int .i64 0]), (12, .agg #[.int .i64 0, .int .i64 0]), (8, .agg #[.int .i64 0, .int .i64 0]), (5, .agg #[.int .i64 0, .int .i64 0]), (1, .pointer (some ⟨g2, 0, none⟩)), (0, .pointer (some ⟨g1, 0, none⟩))] ∧ Mem w noEx wc [(gr2_14, .cells [.int .i64 20, .int .i64 20, .int .i64 0, .int .i64 0, .int .i64 13, .int .i64 15, .int .i64 0, .int .i64 0]), (g2, .cells [.int .i64 0, .int .i64 0]), (g1, .cells [.int .i64 0, .int .i64 0, .int .i64 0, .int .i64 0, .slice none 0 0])]) (pbits 25 2097023) 5 ?_ ?_
 ·clear T M
  rintro ac wc ⟨gr2_14, T, M⟩
  refine g_m2 (i := 7) (j := 21) (by kernel_rfl) ?_ ?_
  ·refine gi 2097151 ?_; intro K hK
   refine ow_bs (e := 48) [.int .i64 (-1), .int .i64 1, .int .i64 0, .int .i64 0, .int .i64 0, .int .i64 0, .int .i64 0, .int .i64 0] M T rfl rfl rfl rfl (.cons (T.ev 11 rfl) (.cons (T.ev 9 rfl) .nil)) (fun _ => by kernel_rfl) ?_; clear M T; intro gr2_7 wc ac M T
   refine sh_out hK _ _ (MA.mk (fun _ => M.mask [false, false, true, true] rfl) (M.mask [false, false, true, false] rfl)) ?_; clear hK K
   exact H18 _ _ ⟨gr2_14, gr2_7, T.pick [1, 0, 2, 3, 4, 5, 6, 7, 8, 9, 10, 11, 12, 13, 14, 15, 16, 17, 18, 19, 20, 21, 22] rfl, M.perm [1, 0, 2, 3] rfl rfl⟩
  refine gi 4194175 ?_; intro K hK
  refine ow_bs (e := 48) [.int .i64 30, .int .i64 30, .int .i64 0, .int .i64 0, .int .i64 30, .int .i64 30, .int .i64 0, .int .i64 0] M T rfl rfl rfl rfl (.cons (T.ev 3 rfl) (.cons (T.ev 1 rfl) .nil)) (fun _ => by kernel_rfl) ?_; clear M T; intro gr2_21 wc ac M T
  refine sh_out hK _ _ (MA.mk (fun _ => M.mask [false, false, true, true] rfl) (M.mask [false, false, true, false] rfl)) ?_; clear hK K
  exact H17 _ _ ⟨gr2_14, gr2_21, T.pick [1, 0, 2, 3, 4, 5, 6, 7, 8, 9, 10, 11, 12, 13, 14, 15, 16, 17, 18, 19, 20, 21, 22] rfl, M.perm [1, 0, 2, 3] rfl rfl⟩
 intro H14
 refine g_have (fun ac wc => ∃ (gr2_7 : Nat), Tm ac 27 [(10, .slice (some ⟨gr2_7, 0, none⟩) 2 2), (23, .agg #[.int .i64 30, .int .i64 30, .int .i64 0, .int .i64 0]), (21, .agg #[.int .i64 30, .int .i64 30]), (20, .agg #[.int .i64 30, .int .i64 30, .int .i64 0, .int .i64 0]), (18, .agg #[.int .i64 30, .int .i64 30]), (16, .agg #[.int .i64 13, .int .i64 15, .int .i64 0, .int .i64 0]), (14, .agg #[.int .i64 13, .int .i64 15]), (13, .agg #[.int .i64 20, .int .i64 20, .int .i64 0, .int .i64 0]), (11, .agg #[.int .i64 20, .int .i64 20]), (9, .agg #[.int .i64 0, .int .i64 0, .int .i64 0, .int .i64 0]), (7, .agg #[.int .i64 0, .int .i64 0]), (6, .agg #[.int .i64 (-1), .int .i64 1, .int .i64 0, .int .i64 0]), (4, .agg #[.int .i64 (-1), .int .i64 1]), (3, .agg #[.int .i64 20, .int .i64 (-2), .int .i64 4, .int .i64 2]), (22, .agg #[.int .i64 0, .int .i64 0]), (19, .agg #[.int .i64 0, .int .i64 0]), (15, .agg #[.int .i64 0, .int .i64 0]), (12, .agg #[.int .i64 0, .int .i64 0]), (8, .agg #[.int .i64 0, .int .i64 0]), (5, .agg #[.int .i64 0, .int .i64 0]), (1, .pointer (some ⟨g2, 0, none⟩)), (0, .pointer (some ⟨g1, 0, none⟩))] ∧ Mem w noEx wc [(gr2_7, .cells [.int .i64 (-1), .int .i64 1, .int .i64 0, .int .i64 0, .int .i64 0, .int .i64 0, .int .i64 0, .int .i64 0]), (g2, .cells [.int .i64 0, .int .i64 0]), (g1, .cells [.int .i64 0, .int .i64 0, .int .i64 0, .int .i64 0, .slice none 0 0])]) (pbits 25 2080767) 5 ?_ ?_
 ·clear T M
  rintro ac wc ⟨gr2_7, T, M⟩
  refine g_m2 (i := 14) (j := 21) (by kernel_rfl) ?_ ?_
  ·refine gi 2097151 ?_; intro K hK
   refine ow_bs (e := 48) [.int .i64 20, .int .i64 20, .int .i64 0, .int .i64 0, .int .i64 13, .int .i64 15, .int .i64 0, .int .i64 0] M T rfl rfl rfl rfl (.cons (T.ev 7 rfl) (.cons (T.ev 5 rfl) .nil)) (fun _ => by kernel_rfl) ?_; clear M T; intro gr2_14 wc ac M T
   refine sh_out hK _ _ (MA.mk (fun _ => M.mask [false, false, true, true] rfl) (M.mask [false, false, true, false] rfl)) ?_; clear hK K
   exact H18 _ _ ⟨gr2_14, gr2_7, T, M⟩
  refine gi 4177919 ?_; intro K hK
  refine ow_bs (e := 48) [.int .i64 30, .int .i64 30, .int .i64 0, .int .i64 0, .int .i64 30, .int .i64 30, .int .i64 0, .int .i64 0] M T rfl rfl rfl rfl (.cons (T.ev 3 rfl) (.cons (T.ev 1 rfl) .nil)) (fun _ => by kernel_rfl) ?_; clear M T; intro gr2_21 wc ac M T
  refine sh_out hK _ _ (MA.mk (fun _ => M.mask [false, false, true, true] rfl) (M.mask [false, false, true, false] rfl)) ?_; clear hK K
  exact H16 _ _ ⟨gr2_7, gr2_21, T.pick [1, 0, 2, 3, 4, 5, 6, 7, 8, 9, 10, 11, 12, 13, 14, 15, 16, 17, 18, 19, 20, 21, 22] rfl, M.perm [1, 0, 2, 3] rfl rfl⟩
 intro H13
 refine g_have (fun ac wc => ∃ (gr2_14 gr2_7 : Nat), Tm ac 27 [(17, .slice (some ⟨gr2_14, 0, none⟩) 2 2), (10, .slice (some ⟨gr2_7, 0, none⟩) 2 2), (20, .agg #[.int .i64 30, .int .i64 30, .int .i64 0, .int .i64 0]), (18, .agg #[.int .i64 30, .int .i64 30]), (16, .agg #[.int .i64 13, .int .i64 15, .int .i64 0, .int .i64 0]), (14, .agg #[.int .i64 13, .int .i64 15]), (13, .agg #[.int .i64 20, .int .i64 20, .int .i64 0, .int .i64 0]), (11, .agg #[.int .i64 20, .int .i64 20]), (9, .agg #[.int .i64 0, .int .i64 0, .int .i64 0, .int .i64 0]), (7, .agg #[.int .i64 0, .int .i64 0]), (6, .agg #[.int .i64 (-1), .int .i64 1, .int .i64 0, .int .i64 0]), (4, .agg #[.int .i64 (-1), .int .i64 1]), (3, .agg #[.int .i64 20, .int .i64 (-2), .int .i64 4, .int .i64 2]), (22, .agg #[.int .i64 0, .int .i64 0]), (19, .agg #[.int .i64 0, .int .i64 0]), (15, .agg #[.int .i64 0, .int .i64 0]), (12, .agg #[.int .i64 0, .int .i64 0]), (8, .agg #[.int .i64 0, .int .i64 0]), (5, .agg #[.int .i64 0, .int .i64 0]), (1, .pointer (some ⟨g2, 0, none⟩)), (0, .pointer (some ⟨g1, 0, none⟩))] ∧ Mem w noEx wc [(gr2_14, .cells [.int .i64 20, .int .i64 20, .int .i64 0, .int .i64 0, .int .i64 13, .int .i64 15, .int .i64 0, .int .i64 0]), (gr2_7, .cells [.int .i64 (-1), .int .i64 1, .int .i64 0, .int .i64 0, .int .i64 0, .int .i64 0, .int .i64 0, .int .i64 0]), (g2, .cells [.int .i64 0, .int .i64 0]), (g1, .cells [.int .i64 0, .int .i64 0, .int .i64 0, .int .i64 0, .slice none 0 0])]) (pbits 25 786431) 6 ?_ ?_
 ·clear T M
  rintro ac wc ⟨gr2_14, gr2_7, T, M⟩
  refine gw 18 1048575 ?_; intro K hK
  refine ow_call (first := []) (cap := []) T rfl rfl rfl rfl evf (.cons evc (.cons evc .nil)) Try.func24 rfl rfl ?_
  refine Calls.mono (to5_any 30 30 _) ?_
  clear T
  rintro e wc ⟨rfl, hb⟩
  intro ac T
  replace M := M.call hb; clear hb
  refine sh_out hK _ _ (MA.mk (fun _ => M.mask [false, false, true, true] rfl) (M.mask [false, false, true, false] rfl)) ?_; clear hK K
  exact H15 _ _ ⟨gr2_14, gr2_7, T.pick [1, 2, 0, 3, 4, 5, 6, 7, 8, 9, 10, 11, 12, 13, 14, 15, 16, 17, 18, 19, 20, 21] rfl, M⟩
 intro H12
 refine g_have (fun ac wc => ∃ (gr2_14 : Nat), Tm ac 27 [(17, .slice (some ⟨gr2_14, 0, none⟩) 2 2), (21, .agg #[.int .i64 30, .int .i64 30]), (20, .agg #[.int .i64 30, .int .i64 30, .int .i64 0, .int .i64 0]), (18, .agg #[.int .i64 30, .int .i64 30]), (16, .agg #[.int .i64 13, .int .i64 15, .int .i64 0, .int .i64 0]), (14, .agg #[.int .i64 13, .int .i64 15]), (13, .agg #[.int .i64 20, .int .i64 20, .int .i64 0, .int .i64 0]), (11, .agg #[.int .i64 20, .int .i64 20]), (9, .agg #[.int .i64 0, .int .i64 0, .int .i64 0, .int .i64 0]), (7, .agg #[.int .i64 0, .int .i64 0]), (6, .agg #[.int .i64 (-1), .int .i64 1, .int .i64 0, .int .i64 0]), (4, .agg #[.int .i64 (-1), .int .i64 1]), (3, .agg #[.int .i64 20, .int .i64 (-2), .int .i64 4, .int .i64 2]), (22, .agg #[.int .i64 0, .int .i64 0]), (19, .agg #[.int .i64 0, .int .i64 0]), (15, .agg #[.int .i64 0, .int .i64 0]), (12, .agg #[.int .i64 0, .int .i64 0]), (8, .agg #[.int .i64 0, .int .i64 0]), (5, .agg #[.int .i64 0, .int .i64 0]), (1, .pointer (some ⟨g2, 0, none⟩)), (0, .pointer (some ⟨g1, 0, none⟩))] ∧ Mem w noEx wc [(gr2_14, .cells [.int .i64 20, .int .i64 20, .int .i64 0, .int .i64 0, .int .i64 13, .int .i64 15, .int .i64 0, .int .i64 0]), (g2, .cells [.int .i64 0, .int .i64 0]), (g1, .cells [.int .i64 0, .int .i64 0, .int .i64 0, .int .i64 0, .slice none 0 0])]) (pbits 25 1048447) 6 ?_ ?_
 ·clear T M
  rintro ac wc ⟨gr2_14, T, M⟩
  refine g_m2 (i := 7) (j := 20) (by kernel_rfl) ?_ ?_
  ·refine gi 1048575 ?_; intro K hK
   refine ow_bs (e := 48) [.int .i64 (-1), .int .i64 1, .int .i64 0, .int .i64 0, .int .i64 0, .int .i64 0, .int .i64 0, .int .i64 0] M T rfl rfl rfl rfl (.cons (T.ev 10 rfl) (.cons (T.ev 8 rfl) .nil)) (fun _ => by kernel_rfl) ?_; clear M T; intro gr2_7 wc ac M T
   refine sh_out hK _ _ (MA.mk (fun _ => M.mask [false, false, true, true] rfl) (M.mask [false, false, true, false] rfl)) ?_; clear hK K
   exact H15 _ _ ⟨gr2_14, gr2_7, T.pick [1, 0, 2, 3, 4, 5, 6, 7, 8, 9, 10, 11, 12, 13, 14, 15, 16, 17, 18, 19, 20, 21] rfl, M.perm [1, 0, 2, 3] rfl rfl⟩
  refine gi 2097023 ?_; intro K hK
  refine ow_call (first := []) (cap := []) T rfl rfl rfl rfl evf (.cons (T.ev 1 rfl) (.cons (T.ev 13 rfl) .nil)) Try.func36 rfl rfl ?_
  refine Calls.mono (sound5_any 30 30 0 0 _) ?_
  clear T
  rintro e wc ⟨rfl, hb⟩
  intro ac T
  replace M := M.call hb; clear hb
  refine sh_out hK _ _ (MA.mk (fun _ => M.mask [false, true, true] rfl) (M.mask [false, true, false] rfl)) ?_; clear hK K
  exact H14 _ _ ⟨gr2_14, T.pick [1, 0, 2, 3, 4, 5, 6, 7, 8, 9, 10, 11, 12, 13, 14, 15, 16, 17, 18, 19, 20, 21] rfl, M⟩
 intro H11
 refine g_have (fun ac wc => ∃ (gr2_7 : Nat), Tm ac 27 [(10, .slice (some ⟨gr2_7, 0, none⟩) 2 2), (21, .agg #[.int .i64 30, .int .i64 30]), (20, .agg #[.int .i64 30, .int .i64 30, .int .i64 0, .int .i64 0]), (18, .agg #[.int .i64 30, .int .i64 30]), (16, .agg #[.int .i64 13, .int .i64 15, .int .i64 0, .int .i64 0]), (14, .agg #[.int .i64 13, .int .i64 15]), (13, .agg #[.int .i64 20, .int .i64 20, .int .i64 0, .int .i64 0]), (11, .agg #[.int .i64 20, .int .i64 20]), (9, .agg #[.int .i64 0, .int .i64 0, .int .i64 0, .int .i64 0]), (7, .agg #[.int .i64 0, .int .i64 0]), (6, .agg #[.int .i64 (-1), .int .i64 1, .int .i64 0, .int .i64 0]), (4, .agg #[.int .i64 (-1), .int .i64 1]), (3, .agg #[.int .i64 20, .int .i64 (-2), .int .i64 4, .int .i64 2]), (22, .agg #[.int .i64 0, .int .i64 0]), (19, .agg #[.int .i64 0, .int .i64 0]), (15, .agg #[.int .i64 0, .int .i64 0]), (12, .agg #[.int .i64 0, .int .i64 0]), (8, .agg #[.int .i64 0, .int .i64 0]), (5, .agg #[.int .i64 0, .int .i64 0]), (1, .pointer (some ⟨g2, 0, none⟩)), (0, .pointer (some ⟨g1, 0, none⟩))] ∧ Mem w noEx wc [(gr2_7, .cells [.int .i64 (-1), .int .i64 1, .int .i64 0, .int .i64 0, .int .i64 0, .int .i64 0, .int .i64 0, .int .i64 0]), (g2, .cells [.int .i64 0, .int .i64 0]), (g1, .cells [.int .i64 0, .int .i64 0, .int .i64 0, .int .i64 0, .slice none 0 0])]) (pbits 25 1032191) 6 ?_ ?_
 ·clear T M
  rintro ac wc ⟨gr2_7, T, M⟩
  refine g_m2 (i := 14) (j := 20) (by kernel_rfl) ?_ ?_
  ·refine gi 1048575 ?_; intro K hK
   refine ow_bs (e := 48) [.int .i64 20, .int .i64 20, .int .i64 0, .int .i64 0, .int .i64 13, .int .i64 15, .int .i64 0, .int .i64 0] M T rfl rfl rfl rfl (.cons (T.ev 6 rfl) (.cons (T.ev 4 rfl) .nil)) (fun _ => by kernel_rfl) ?_; clear M T; intro gr2_14 wc ac M T
   refine sh_out hK _ _ (MA.mk (fun _ => M.mask [false, false, true, true] rfl) (M.mask [false, false, true, false] rfl)) ?_; clear hK K
   exact H15 _ _ ⟨gr2_14, gr2_7, T, M⟩
  refine gi 2080767 ?_; intro K hK
  refine ow_call (first := []) (cap := []) T rfl rfl rfl rfl evf (.cons (T.ev 1 rfl) (.cons (T.ev 13 rfl) .nil)) Try.func36 rfl rfl ?_
  refine Calls.mono (sound5_any 30 30 0 0 _) ?_
  clear T
  rintro e wc ⟨rfl, hb⟩
  intro ac T
  replace M := M.call hb; clear hb
  refine sh_out hK _ _ (MA.mk (fun _ => M.mask [false, true, true] rfl) (M.mask [false, true, false] rfl)) ?_; clear hK K
  exact H13 _ _ ⟨gr2_7, T.pick [1, 0, 2, 3, 4, 5, 6, 7, 8, 9, 10, 11, 12, 13, 14, 15, 16, 17, 18, 19, 20, 21] rfl, M⟩
 intro H10
 refine g_have (fun ac wc => ∃ (gr2_14 gr2_7 : Nat), Tm ac 27 [(17, .slice (some ⟨gr2_14, 0, none⟩) 2 2), (10, .slice (some ⟨gr2_7, 0, none⟩) 2 2), (18, .agg #[.int .i64 30, .int .i64 30]), (16, .agg #[.int .i64 13, .int .i64 15, .int .i64 0, .int .i64 0]), (14, .agg #[.int .i64 13, .int .i64 15]), (13, .agg #[.int .i64 20, .int .i64 20, .int .i64 0, .int .i64 0]), (11, .agg #[.int .i64 20, .int .i64 20]), (9, .agg #[.int .i64 0, .int .i64 0, .int .i64 0, .int .i64 0]), (7, .agg #[.int .i64 0, .int .i64 0]), (6, .agg #[.int .i64 (-1), .int .i64 1, .int .i64 0, .int .i64 0]), (4, .agg #[.int .i64 (-1), .int .i64 1]), (3, .agg #[.int .i64 20, .int .i64 (-2), .int .i64 4, .int .i64 2]), (22, .agg #[.int .i64 0, .int .i64 0]), (19, .agg #[.int .i64 0, .int .i64 0]), (15, .agg #[.int .i64 0, .int .i64 0]), (12, .agg #[.int .i64 0, .int .i64 0]), (8, .agg #[.int .i64 0, .int .i64 0]), (5, .agg #[.int .i64 0, .int .i64 0]), (1, .pointer (some ⟨g2, 0, none⟩)), (0, .pointer (some ⟨g1, 0, none⟩))] ∧ Mem w noEx wc [(gr2_14, .cells [.int .i64 20, .int .i64 20, .int .i64 0, .int .i64 0, .int .i64 13, .int .i64 15, .int .i64 0, .int .i64 0]), (gr2_7, .cells [.int .i64 (-1), .int .i64 1, .int .i64 0, .int .i64 0, .int .i64 0, .int .i64 0, .int .i64 0, .int .i64 0]), (g2, .cells [.int .i64 0, .int .i64 0]), (g1, .cells [.int .i64 0, .int .i64 0, .int .i64 0, .int .i64 0, .slice none 0 0])]) (pbits 25 655359) 7 ?_ ?_
 ·clear T M
  rintro ac wc ⟨gr2_14, gr2_7, T, M⟩
  refine gw 17 786431 ?_; intro K hK
  refine ow_call (first := []) (cap := []) T rfl rfl rfl rfl evf (.cons (T.ev 2 rfl) (.cons (T.ev 13 rfl) .nil)) Try.func36 rfl rfl ?_
  refine Calls.mono (sound5_any 30 30 0 0 _) ?_
  clear T
  rintro e wc ⟨rfl, hb⟩
  intro ac T
  replace M := M.call hb; clear hb
  refine sh_out hK _ _ (MA.mk (fun _ => M.mask [false, false, true, true] rfl) (M.mask [false, false, true, false] rfl)) ?_; clear hK K
  exact H12 _ _ ⟨gr2_14, gr2_7, T.pick [1, 2, 0, 3, 4, 5, 6, 7, 8, 9, 10, 11, 12, 13, 14, 15, 16, 17, 18, 19, 20] rfl, M⟩
 intro H9
 refine g_have (fun ac wc => ∃ (gr2_14 : Nat), Tm ac 27 [(17, .slice (some ⟨gr2_14, 0, none⟩) 2 2), (20, .agg #[.int .i64 30, .int .i64 30, .int .i64 0, .int .i64 0]), (18, .agg #[.int .i64 30, .int .i64 30]), (16, .agg #[.int .i64 13, .int .i64 15, .int .i64 0, .int .i64 0]), (14, .agg #[.int .i64 13, .int .i64 15]), (13, .agg #[.int .i64 20, .int .i64 20, .int .i64 0, .int .i64 0]), (11, .agg #[.int .i64 20, .int .i64 20]), (9, .agg #[.int .i64 0, .int .i64 0, .int .i64 0, .int .i64 0]), (7, .agg #[.int .i64 0, .int .i64 0]), (6, .agg #[.int .i64 (-1), .int .i64 1, .int .i64 0, .int .i64 0]), (4, .agg #[.int .i64 (-1), .int .i64 1]), (3, .agg #[.int .i64 20, .int .i64 (-2), .int .i64 4, .int .i64 2]), (22, .agg #[.int .i64 0, .int .i64 0]), (19, .agg #[.int .i64 0, .int .i64 0]), (15, .agg #[.int .i64 0, .int .i64 0]), (12, .agg #[.int .i64 0, .int .i64 0]), (8, .agg #[.int .i64 0, .int .i64 0]), (5, .agg #[.int .i64 0, .int .i64 0]), (1, .pointer (some ⟨g2, 0, none⟩)), (0, .pointer (some ⟨g1, 0, none⟩))] ∧ Mem w noEx wc [(gr2_14, .cells [.int .i64 20, .int .i64 20, .int .i64 0, .int .i64 0, .int .i64 13, .int .i64 15, .int .i64 0, .int .i64 0]), (g2, .cells [.int .i64 0, .int .i64 0]), (g1, .cells [.int .i64 0, .int .i64 0, .int .i64 0, .int .i64 0, .slice none 0 0])]) (pbits 25 786303) 7 ?_ ?_
 ·clear T M
  rintro ac wc ⟨gr2_14, T, M⟩
  refine g_m2 (i := 7) (j := 18) (by kernel_rfl) ?_ ?_
  ·refine gi 786431 ?_; intro K hK
   refine ow_bs (e := 48) [.int .i64 (-1), .int .i64 1, .int .i64 0, .int .i64 0, .int .i64 0, .int .i64 0, .int .i64 0, .int .i64 0] M T rfl rfl rfl rfl (.cons (T.ev 9 rfl) (.cons (T.ev 7 rfl) .nil)) (fun _ => by kernel_rfl) ?_; clear M T; intro gr2_7 wc ac M T
   refine sh_out hK _ _ (MA.mk (fun _ => M.mask [false, false, true, true] rfl) (M.mask [false, false, true, false] rfl)) ?_; clear hK K
   exact H12 _ _ ⟨gr2_14, gr2_7, T.pick [1, 0, 2, 3, 4, 5, 6, 7, 8, 9, 10, 11, 12, 13, 14, 15, 16, 17, 18, 19, 20] rfl, M.perm [1, 0, 2, 3] rfl rfl⟩
  refine gi 1048447 ?_; intro K hK
  refine ow_call (first := []) (cap := []) T rfl rfl rfl rfl evf (.cons evc (.cons evc .nil)) Try.func24 rfl rfl ?_
  refine Calls.mono (to5_any 30 30 _) ?_
  clear T
  rintro e wc ⟨rfl, hb⟩
  intro ac T
  replace M := M.call hb; clear hb
  refine sh_out hK _ _ (MA.mk (fun _ => M.mask [false, true, true] rfl) (M.mask [false, true, false] rfl)) ?_; clear hK K
  exact H11 _ _ ⟨gr2_14, T.pick [1, 0, 2, 3, 4, 5, 6, 7, 8, 9, 10, 11, 12, 13, 14, 15, 16, 17, 18, 19, 20] rfl, M⟩
 intro H8
 refine g_have (fun ac wc => ∃ (gr2_7 : Nat), Tm ac 27 [(10, .slice (some ⟨gr2_7, 0, none⟩) 2 2), (20, .agg #[.int .i64 30, .int .i64 30, .int .i64 0, .int .i64 0]), (18, .agg #[.int .i64 30, .int .i64 30]), (16, .agg #[.int .i64 13, .int .i64 15, .int .i64 0, .int .i64 0]), (14, .agg #[.int .i64 13, .int .i64 15]), (13, .agg #[.int .i64 20, .int .i64 20, .int .i64 0, .int .i64 0]), (11, .agg #[.int .i64 20, .int .i64 20]), (9, .agg #[.int .i64 0, .int .i64 0, .int .i64 0, .int .i64 0]), (7, .agg #[.int .i64 0, .int .i64 0]), (6, .agg #[.int .i64 (-1), .int .i64 1, .int .i64 0, .int .i64 0]), (4, .agg #[.int .i64 (-1), .int .i64 1]), (3, .agg #[.int .i64 20, .int .i64 (-2), .int .i64 4, .int .i64 2]), (22, .agg #[.int .i64 0, .int .i64 0]), (19, .agg #[.int .i64 0, .int .i64 0]), (15, .agg #[.int .i64 0, .int .i64 0]), (12, .agg #[.int .i64 0, .int .i64 0]), (8, .agg #[.int .i64 0, .int .i64 0]), (5, .agg #[.int .i64 0, .int .i64 0]), (1, .pointer (some ⟨g2, 0, none⟩)), (0, .pointer (some ⟨g1, 0, none⟩))] ∧ Mem w noEx wc [(gr2_7, .cells [.int .i64 (-1), .int .i64 1, .int .i64 0, .int .i64 0, .int .i64 0, .int .i64 0, .int .i64 0, .int .i64 0]), (g2, .cells [.int .i64 0, .int .i64 0]), (g1, .cells [.int .i64 0, .int .i64 0, .int .i64 0, .int .i64 0, .slice none 0 0])]) (pbits 25 770047) 7 ?_ ?_
 ·clear T M
  rintro ac wc ⟨gr2_7, T, M⟩
  refine g_m2 (i := 14) (j := 18) (by kernel_rfl) ?_ ?_
  ·refine gi 786431 ?_; intro K hK
   refine ow_bs (e := 48) [.int .i64 20, .int .i64 20, .int .i64 0, .int .i64 0, .int .i64 13, .int .i64 15, .int .i64 0, .int .i64 0] M T rfl rfl rfl rfl (.cons (T.ev 5 rfl) (.cons (T.ev 3 rfl) .nil)) (fun _ => by kernel_rfl) ?_; clear M T; intro gr2_14 wc ac M T
   refine sh_out hK _ _ (MA.mk (fun _ => M.mask [false, false, true, true] rfl) (M.mask [false, false, true, false] rfl)) ?_; clear hK K
   exact H12 _ _ ⟨gr2_14, gr2_7, T, M⟩
  refine gi 1032191 ?_; intro K hK
  refine ow_call (first := []) (cap := []) T rfl rfl rfl rfl evf (.cons evc (.cons evc .nil)) Try.func24 rfl rfl ?_
  refine Calls.mono (to5_any 30 30 _) ?_
  clear T
  rintro e wc ⟨rfl, hb⟩
  intro ac T
  replace M := M.call hb; clear hb
  refine sh_out hK _ _ (MA.mk (fun _ => M.mask [false, true, true] rfl) (M.mask [false, true, false] rfl)) ?_; clear hK K
  exact H10 _ _ ⟨gr2_7, T.pick [1, 0, 2, 3, 4, 5, 6, 7, 8, 9, 10, 11, 12, 13, 14, 15, 16, 17, 18, 19, 20] rfl, M⟩
 intro H7
 refine g_have (fun ac wc => ∃ (gr2_7 gr2_14 : Nat), Tm ac 27 [(10, .slice (some ⟨gr2_7, 0, none⟩) 2 2), (17, .slice (some ⟨gr2_14, 0, none⟩) 2 2), (16, .agg #[.int .i64 13, .int .i64 15, .int .i64 0, .int .i64 0]), (14, .agg #[.int .i64 13, .int .i64 15]), (13, .agg #[.int .i64 20, .int .i64 20, .int .i64 0, .int .i64 0]), (11, .agg #[.int .i64 20, .int .i64 20]), (9, .agg #[.int .i64 0, .int .i64 0, .int .i64 0, .int .i64 0]), (7, .agg #[.int .i64 0, .int .i64 0]), (6, .agg #[.int .i64 (-1), .int .i64 1, .int .i64 0, .int .i64 0]), (4, .agg #[.int .i64 (-1), .int .i64 1]), (3, .agg #[.int .i64 20, .int .i64 (-2), .int .i64 4, .int .i64 2]), (22, .agg #[.int .i64 0, .int .i64 0]), (19, .agg #[.int .i64 0, .int .i64 0]), (15, .agg #[.int .i64 0, .int .i64 0]), (12, .agg #[.int .i64 0, .int .i64 0]), (8, .agg #[.int .i64 0, .int .i64 0]), (5, .agg #[.int .i64 0, .int .i64 0]), (1, .pointer (some ⟨g2, 0, none⟩)), (0, .pointer (some ⟨g1, 0, none⟩))] ∧ Mem w noEx wc [(gr2_7, .cells [.int .i64 (-1), .int .i64 1, .int .i64 0, .int .i64 0, .int .i64 0, .int .i64 0, .int .i64 0, .int .i64 0]), (gr2_14, .cells [.int .i64 20, .int .i64 20, .int .i64 0, .int .i64 0, .int .i64 13, .int .i64 15, .int .i64 0, .int .i64 0]), (g2, .cells [.int .i64 0, .int .i64 0]), (g1, .cells [.int .i64 0, .int .i64 0, .int .i64 0, .int .i64 0, .slice none 0 0])]) (pbits 25 622591) 8 ?_ ?_
 ·clear T M
  rintro ac wc ⟨gr2_7, gr2_14, T, M⟩
  refine gw 15 655359 ?_; intro K hK
  refine ow_call (first := []) (cap := []) T rfl rfl rfl rfl evf (.cons evc (.cons evc .nil)) Try.func24 rfl rfl ?_
  refine Calls.mono (to5_any 30 30 _) ?_
  clear T
  rintro e wc ⟨rfl, hb⟩
  intro ac T
  replace M := M.call hb; clear hb
  refine sh_out hK _ _ (MA.mk (fun _ => M.mask [false, false, true, true] rfl) (M.mask [false, false, true, false] rfl)) ?_; clear hK K
  exact H9 _ _ ⟨gr2_14, gr2_7, T.pick [2, 1, 0, 3, 4, 5, 6, 7, 8, 9, 10, 11, 12, 13, 14, 15, 16, 17, 18, 19] rfl, M.perm [1, 0, 2, 3] rfl rfl⟩
 intro H6
 refine g_have (fun ac wc => ∃ (gr2_14 : Nat), Tm ac 27 [(18, .agg #[.int .i64 30, .int .i64 30]), (17, .slice (some ⟨gr2_14, 0, none⟩) 2 2), (16, .agg #[.int .i64 13, .int .i64 15, .int .i64 0, .int .i64 0]), (14, .agg #[.int .i64 13, .int .i64 15]), (13, .agg #[.int .i64 20, .int .i64 20, .int .i64 0, .int .i64 0]), (11, .agg #[.int .i64 20, .int .i64 20]), (9, .agg #[.int .i64 0, .int .i64 0, .int .i64 0, .int .i64 0]), (7, .agg #[.int .i64 0, .int .i64 0]), (6, .agg #[.int .i64 (-1), .int .i64 1, .int .i64 0, .int .i64 0]), (4, .agg #[.int .i64 (-1), .int .i64 1]), (3, .agg #[.int .i64 20, .int .i64 (-2), .int .i64 4, .int .i64 2]), (22, .agg #[.int .i64 0, .int .i64 0]), (19, .agg #[.int .i64 0, .int .i64 0]), (15, .agg #[.int .i64 0, .int .i64 0]), (12, .agg #[.int .i64 0, .int .i64 0]), (8, .agg #[.int .i64 0, .int .i64 0]), (5, .agg #[.int .i64 0, .int .i64 0]), (1, .pointer (some ⟨g2, 0, none⟩)), (0, .pointer (some ⟨g1, 0, none⟩))] ∧ Mem w noEx wc [(gr2_14, .cells [.int .i64 20, .int .i64 20, .int .i64 0, .int .i64 0, .int .i64 13, .int .i64 15, .int .i64 0, .int .i64 0]), (g2, .cells [.int .i64 0, .int .i64 0]), (g1, .cells [.int .i64 0, .int .i64 0, .int .i64 0, .int .i64 0, .slice none 0 0])]) (pbits 25 655231) 8 ?_ ?_
 ·clear T M
  rintro ac wc ⟨gr2_14, T, M⟩
  refine g_m2 (i := 7) (j := 17) (by kernel_rfl) ?_ ?_
  ·refine gi 655359 ?_; intro K hK
   refine ow_bs (e := 48) [.int .i64 (-1), .int .i64 1, .int .i64 0, .int .i64 0, .int .i64 0, .int .i64 0, .int .i64 0, .int .i64 0] M T rfl rfl rfl rfl (.cons (T.ev 8 rfl) (.cons (T.ev 6 rfl) .nil)) (fun _ => by kernel_rfl) ?_; clear M T; intro gr2_7 wc ac M T
   refine sh_out hK _ _ (MA.mk (fun _ => M.mask [false, false, true, true] rfl) (M.mask [false, false, true, false] rfl)) ?_; clear hK K
   exact H9 _ _ ⟨gr2_14, gr2_7, T.pick [2, 0, 1, 3, 4, 5, 6, 7, 8, 9, 10, 11, 12, 13, 14, 15, 16, 17, 18, 19] rfl, M.perm [1, 0, 2, 3] rfl rfl⟩
  refine gi 786303 ?_; intro K hK
  refine ow_call (first := []) (cap := []) T rfl rfl rfl rfl evf (.cons (T.ev 0 rfl) (.cons (T.ev 12 rfl) .nil)) Try.func36 rfl rfl ?_
  refine Calls.mono (sound5_any 30 30 0 0 _) ?_
  clear T
  rintro e wc ⟨rfl, hb⟩
  intro ac T
  replace M := M.call hb; clear hb
  refine sh_out hK _ _ (MA.mk (fun _ => M.mask [false, true, true] rfl) (M.mask [false, true, false] rfl)) ?_; clear hK K
  exact H8 _ _ ⟨gr2_14, T.pick [2, 0, 1, 3, 4, 5, 6, 7, 8, 9, 10, 11, 12, 13, 14, 15, 16, 17, 18, 19] rfl, M⟩
 intro H5
 refine g_have (fun ac wc => ∃ (gr2_7 : Nat), Tm ac 27 [(10, .slice (some ⟨gr2_7, 0, none⟩) 2 2), (18, .agg #[.int .i64 30, .int .i64 30]), (16, .agg #[.int .i64 13, .int .i64 15, .int .i64 0, .int .i64 0]), (14, .agg #[.int .i64 13, .int .i64 15]), (13, .agg #[.int .i64 20, .int .i64 20, .int .i64 0, .int .i64 0]), (11, .agg #[.int .i64 20, .int .i64 20]), (9, .agg #[.int .i64 0, .int .i64 0, .int .i64 0, .int .i64 0]), (7, .agg #[.int .i64 0, .int .i64 0]), (6, .agg #[.int .i64 (-1), .int .i64 1, .int .i64 0, .int .i64 0]), (4, .agg #[.int .i64 (-1), .int .i64 1]), (3, .agg #[.int .i64 20, .int .i64 (-2), .int .i64 4, .int .i64 2]), (22, .agg #[.int .i64 0, .int .i64 0]), (19, .agg #[.int .i64 0, .int .i64 0]), (15, .agg #[.int .i64 0, .int .i64 0]), (12, .agg #[.int .i64 0, .int .i64 0]), (8, .agg #[.int .i64 0, .int .i64 0]), (5, .agg #[.int .i64 0, .int .i64 0]), (1, .pointer (some ⟨g2, 0, none⟩)), (0, .pointer (some ⟨g1, 0, none⟩))] ∧ Mem w noEx wc [(gr2_7, .cells [.int .i64 (-1), .int .i64 1, .int .i64 0, .int .i64 0, .int .i64 0, .int .i64 0, .int .i64 0, .int .i64 0]), (g2, .cells [.int .i64 0, .int .i64 0]), (g1, .cells [.int .i64 0, .int .i64 0, .int .i64 0, .int .i64 0, .slice none 0 0])]) (pbits 25 638975) 8 ?_ ?_
 ·clear T M
  rintro ac wc ⟨gr2_7, T, M⟩
  refine g_m2 (i := 14) (j := 17) (by kernel_rfl) ?_ ?_
  ·refine gi 655359 ?_; intro K hK
   refine ow_bs (e := 48) [.int .i64 20, .int .i64 20, .int .i64 0, .int .i64 0, .int .i64 13, .int .i64 15, .int .i64 0, .int .i64 0] M T rfl rfl rfl rfl (.cons (T.ev 4 rfl) (.cons (T.ev 2 rfl) .nil)) (fun _ => by kernel_rfl) ?_; clear M T; intro gr2_14 wc ac M T
   refine sh_out hK _ _ (MA.mk (fun _ => M.mask [false, false, true, true] rfl) (M.mask [false, false, true, false] rfl)) ?_; clear hK K
   exact H9 _ _ ⟨gr2_14, gr2_7, T, M⟩
  refine gi 770047 ?_; intro K hK
  refine ow_call (first := []) (cap := []) T rfl rfl rfl rfl evf (.cons (T.ev 1 rfl) (.cons (T.ev 12 rfl) .nil)) Try.func36 rfl rfl ?_
  refine Calls.mono (sound5_any 30 30 0 0 _) ?_
  clear T
  rintro e wc ⟨rfl, hb⟩
  intro ac T
  replace M := M.call hb; clear hb
  refine sh_out hK _ _ (MA.mk (fun _ => M.mask [false, true, true] rfl) (M.mask [false, true, false] rfl)) ?_; clear hK K
  exact H7 _ _ ⟨gr2_7, T.pick [1, 0, 2, 3, 4, 5, 6, 7, 8, 9, 10, 11, 12, 13, 14, 15, 16, 17, 18, 19] rfl, M⟩
 intro H4
 refine g_have (fun ac wc => ∃ (gr2_7 : Nat), Tm ac 27 [(10, .slice (some ⟨gr2_7, 0, none⟩) 2 2), (16, .agg #[.int .i64 13, .int .i64 15, .int .i64 0, .int .i64 0]), (14, .agg #[.int .i64 13, .int .i64 15]), (13, .agg #[.int .i64 20, .int .i64 20, .int .i64 0, .int .i64 0]), (11, .agg #[.int .i64 20, .int .i64 20]), (9, .agg #[.int .i64 0, .int .i64 0, .int .i64 0, .int .i64 0]), (7, .agg #[.int .i64 0, .int .i64 0]), (6, .agg #[.int .i64 (-1), .int .i64 1, .int .i64 0, .int .i64 0]), (4, .agg #[.int .i64 (-1), .int .i64 1]), (3, .agg #[.int .i64 20, .int .i64 (-2), .int .i64 4, .int .i64 2]), (22, .agg #[.int .i64 0, .int .i64 0]), (19, .agg #[.int .i64 0, .int .i64 0]), (15, .agg #[.int .i64 0, .int .i64 0]), (12, .agg #[.int .i64 0, .int .i64 0]), (8, .agg #[.int .i64 0, .int .i64 0]), (5, .agg #[.int .i64 0, .int .i64 0]), (1, .pointer (some ⟨g2, 0, none⟩)), (0, .pointer (some ⟨g1, 0, none⟩))] ∧ Mem w noEx wc [(gr2_7, .cells [.int .i64 (-1), .int .i64 1, .int .i64 0, .int .i64 0, .int .i64 0, .int .i64 0, .int .i64 0, .int .i64 0]), (g2, .cells [.int .i64 0, .int .i64 0]), (g1, .cells [.int .i64 0, .int .i64 0, .int .i64 0, .int .i64 0, .slice none 0 0])]) (pbits 25 606207) 9 ?_ ?_
 ·clear T M
  rintro ac wc ⟨gr2_7, T, M⟩
  refine g_m2 (i := 14) (j := 15) (by kernel_rfl) ?_ ?_
  ·refine gi 622591 ?_; intro K hK
   refine ow_bs (e := 48) [.int .i64 20, .int .i64 20, .int .i64 0, .int .i64 0, .int .i64 13, .int .i64 15, .int .i64 0, .int .i64 0] M T rfl rfl rfl rfl (.cons (T.ev 3 rfl) (.cons (T.ev 1 rfl) .nil)) (fun _ => by kernel_rfl) ?_; clear M T; intro gr2_14 wc ac M T
   refine sh_out hK _ _ (MA.mk (fun _ => M.mask [false, false, true, true] rfl) (M.mask [false, false, true, false] rfl)) ?_; clear hK K
   exact H6 _ _ ⟨gr2_7, gr2_14, T.pick [1, 0, 2, 3, 4, 5, 6, 7, 8, 9, 10, 11, 12, 13, 14, 15, 16, 17, 18] rfl, M.perm [1, 0, 2, 3] rfl rfl⟩
  refine gi 638975 ?_; intro K hK
  refine ow_call (first := []) (cap := []) T rfl rfl rfl rfl evf (.cons evc (.cons evc .nil)) Try.func24 rfl rfl ?_
  refine Calls.mono (to5_any 30 30 _) ?_
  clear T
  rintro e wc ⟨rfl, hb⟩
  intro ac T
  replace M := M.call hb; clear hb
  refine sh_out hK _ _ (MA.mk (fun _ => M.mask [false, true, true] rfl) (M.mask [false, true, false] rfl)) ?_; clear hK K
  exact H4 _ _ ⟨gr2_7, T.pick [1, 0, 2, 3, 4, 5, 6, 7, 8, 9, 10, 11, 12, 13, 14, 15, 16, 17, 18] rfl, M⟩
 intro H3
 refine g_have (fun ac wc => ∃ (gr2_7 : Nat), Tm ac 27 [(10, .slice (some ⟨gr2_7, 0, none⟩) 2 2), (14, .agg #[.int .i64 13, .int .i64 15]), (13, .agg #[.int .i64 20, .int .i64 20, .int .i64 0, .int .i64 0]), (11, .agg #[.int .i64 20, .int .i64 20]), (9, .agg #[.int .i64 0, .int .i64 0, .int .i64 0, .int .i64 0]), (7, .agg #[.int .i64 0, .int .i64 0]), (6, .agg #[.int .i64 (-1), .int .i64 1, .int .i64 0, .int .i64 0]), (4, .agg #[.int .i64 (-1), .int .i64 1]), (3, .agg #[.int .i64 20, .int .i64 (-2), .int .i64 4, .int .i64 2]), (22, .agg #[.int .i64 0, .int .i64 0]), (19, .agg #[.int .i64 0, .int .i64 0]), (15, .agg #[.int .i64 0, .int .i64 0]), (12, .agg #[.int .i64 0, .int .i64 0]), (8, .agg #[.int .i64 0, .int .i64 0]), (5, .agg #[.int .i64 0, .int .i64 0]), (1, .pointer (some ⟨g2, 0, none⟩)), (0, .pointer (some ⟨g1, 0, none⟩))] ∧ Mem w noEx wc [(gr2_7, .cells [.int .i64 (-1), .int .i64 1, .int .i64 0, .int .i64 0, .int .i64 0, .int .i64 0, .int .i64 0, .int .i64 0]), (g2, .cells [.int .i64 0, .int .i64 0]), (g1, .cells [.int .i64 0, .int .i64 0, .int .i64 0, .int .i64 0, .slice none 0 0])]) (pbits 25 598015) 10 ?_ ?_
 ·clear T M
  rintro ac wc ⟨gr2_7, T, M⟩
  refine gw 13 606207 ?_; intro K hK
  refine ow_call (first := []) (cap := []) T rfl rfl rfl rfl evf (.cons (T.ev 1 rfl) (.cons (T.ev 11 rfl) .nil)) Try.func36 rfl rfl ?_
  refine Calls.mono (sound5_any 13 15 0 0 _) ?_
  clear T
  rintro e wc ⟨rfl, hb⟩
  intro ac T
  replace M := M.call hb; clear hb
  refine sh_out hK _ _ (MA.mk (fun _ => M.mask [false, true, true] rfl) (M.mask [false, true, false] rfl)) ?_; clear hK K
  exact H3 _ _ ⟨gr2_7, T.pick [1, 0, 2, 3, 4, 5, 6, 7, 8, 9, 10, 11, 12, 13, 14, 15, 16, 17] rfl, M⟩
 intro H2
 refine g_have (fun ac wc => ∃ (gr2_7 : Nat), Tm ac 27 [(10, .slice (some ⟨gr2_7, 0, none⟩) 2 2), (13, .agg #[.int .i64 20, .int .i64 20, .int .i64 0, .int .i64 0]), (11, .agg #[.int .i64 20, .int .i64 20]), (9, .agg #[.int .i64 0, .int .i64 0, .int .i64 0, .int .i64 0]), (7, .agg #[.int .i64 0, .int .i64 0]), (6, .agg #[.int .i64 (-1), .int .i64 1, .int .i64 0, .int .i64 0]), (4, .agg #[.int .i64 (-1), .int .i64 1]), (3, .agg #[.int .i64 20, .int .i64 (-2), .int .i64 4, .int .i64 2]), (22, .agg #[.int .i64 0, .int .i64 0]), (19, .agg #[.int .i64 0, .int .i64 0]), (15, .agg #[.int .i64 0, .int .i64 0]), (12, .agg #[.int .i64 0, .int .i64 0]), (8, .agg #[.int .i64 0, .int .i64 0]), (5, .agg #[.int .i64 0, .int .i64 0]), (1, .pointer (some ⟨g2, 0, none⟩)), (0, .pointer (some ⟨g1, 0, none⟩))] ∧ Mem w noEx wc [(gr2_7, .cells [.int .i64 (-1), .int .i64 1, .int .i64 0, .int .i64 0, .int .i64 0, .int .i64 0, .int .i64 0, .int .i64 0]), (g2, .cells [.int .i64 0, .int .i64 0]), (g1, .cells [.int .i64 0, .int .i64 0, .int .i64 0, .int .i64 0, .slice none 0 0])]) (pbits 25 595967) 11 ?_ ?_
 ·clear T M
  rintro ac wc ⟨gr2_7, T, M⟩
  refine gw 11 598015 ?_; intro K hK
  refine ow_call (first := []) (cap := []) T rfl rfl rfl rfl evf (.cons evc (.cons evc .nil)) Try.func24 rfl rfl ?_
  refine Calls.mono (to5_any 13 15 _) ?_
  clear T
  rintro e wc ⟨rfl, hb⟩
  intro ac T
  replace M := M.call hb; clear hb
  refine sh_out hK _ _ (MA.mk (fun _ => M.mask [false, true, true] rfl) (M.mask [false, true, false] rfl)) ?_; clear hK K
  exact H2 _ _ ⟨gr2_7, T.pick [1, 0, 2, 3, 4, 5, 6, 7, 8, 9, 10, 11, 12, 13, 14, 15, 16] rfl, M⟩
 intro H1
 refine g_have (fun ac wc => ∃ (gr2_7 : Nat), Tm ac 27 [(11, .agg #[.int .i64 20, .int .i64 20]), (10, .slice (some ⟨gr2_7, 0, none⟩) 2 2), (9, .agg #[.int .i64 0, .int .i64 0, .int .i64 0, .int .i64 0]), (7, .agg #[.int .i64 0, .int .i64 0]), (6, .agg #[.int .i64 (-1), .int .i64 1, .int .i64 0, .int .i64 0]), (4, .agg #[.int .i64 (-1), .int .i64 1]), (3, .agg #[.int .i64 20, .int .i64 (-2), .int .i64 4, .int .i64 2]), (22, .agg #[.int .i64 0, .int .i64 0]), (19, .agg #[.int .i64 0, .int .i64 0]), (15, .agg #[.int .i64 0, .int .i64 0]), (12, .agg #[.int .i64 0, .int .i64 0]), (8, .agg #[.int .i64 0, .int .i64 0]), (5, .agg #[.int .i64 0, .int .i64 0]), (1, .pointer (some ⟨g2, 0, none⟩)), (0, .pointer (some ⟨g1, 0, none⟩))] ∧ Mem w noEx wc [(gr2_7, .cells [.int .i64 (-1), .int .i64 1, .int .i64 0, .int .i64 0, .int .i64 0, .int .i64 0, .int .i64 0, .int .i64 0]), (g2, .cells [.int .i64 0, .int .i64 0]), (g1, .cells [.int .i64 0, .int .i64 0, .int .i64 0, .int .i64 0, .slice none 0 0])]) (pbits 25 594943) 12 ?_ ?_
 ·clear T M
  rintro ac wc ⟨gr2_7, T, M⟩
  refine gw 10 595967 ?_; intro K hK
  refine ow_call (first := []) (cap := []) T rfl rfl rfl rfl evf (.cons (T.ev 0 rfl) (.cons (T.ev 10 rfl) .nil)) Try.func36 rfl rfl ?_
  refine Calls.mono (sound5_any 20 20 0 0 _) ?_
  clear T
  rintro e wc ⟨rfl, hb⟩
  intro ac T
  replace M := M.call hb; clear hb
  refine sh_out hK _ _ (MA.mk (fun _ => M.mask [false, true, true] rfl) (M.mask [false, true, false] rfl)) ?_; clear hK K
  exact H1 _ _ ⟨gr2_7, T.pick [2, 0, 1, 3, 4, 5, 6, 7, 8, 9, 10, 11, 12, 13, 14, 15] rfl, M⟩
 intro H0
 refine gq T 2 4 rfl (fun B w' hD hl hS => (rn_rowO (Mem.nth (show Mem w noEx w' _ from ((MA.lft hS) (hD.wait (i := 2) (m := 24) (by kernel_rfl) hl))) 0 rfl) rfl (T.ev 0 rfl) rfl)) ?_; clear T ac; intro ac T
 refine gq T 5 36 rfl (fun B w' hD hl hS => (rn_rowO (Mem.nth (show Mem w noEx w' _ from ((MA.lft hS) (hD.wait (i := 5) (m := 24) (by kernel_rfl) hl))) 0 rfl) rfl (T.ev 1 rfl) rfl)) ?_; clear T ac; intro ac T
 refine gq T 9 548 rfl (fun B w' hD hl hS => (rn_rowO (Mem.nth (show Mem w noEx w' _ from ((MA.lft hS) (hD.wait (i := 9) (m := 24) (by kernel_rfl) hl))) 0 rfl) rfl (T.ev 2 rfl) rfl)) ?_; clear T ac; intro ac T
 refine gq T 12 4644 rfl (fun B w' hD hl hS => (rn_rowO (Mem.nth (show Mem w noEx w' _ from ((MA.lft hS) (hD.wait (i := 12) (m := 24) (by kernel_rfl) hl))) 0 rfl) rfl (T.ev 3 rfl) rfl)) ?_; clear T ac; intro ac T
 refine gq T 16 70180 rfl (fun B w' hD hl hS => (rn_rowO (Mem.nth (show Mem w noEx w' _ from ((MA.lft hS) (hD.wait (i := 16) (m := 24) (by kernel_rfl) hl))) 0 rfl) rfl (T.ev 4 rfl) rfl)) ?_; clear T ac; intro ac T
 refine gq T 19 594468 rfl (fun B w' hD hl hS => (rn_rowO (Mem.nth (show Mem w noEx w' _ from ((MA.lft hS) (hD.wait (i := 19) (m := 24) (by kernel_rfl) hl))) 0 rfl) rfl (T.ev 5 rfl) rfl)) ?_; clear T ac; intro ac T
 refine gw 0 594469 ?_; intro K hK
 refine ow_call (first := []) (cap := []) T rfl rfl rfl rfl evf .nil Try.func95 rfl rfl ?_
 refine Calls.mono (law5_any _) ?_
 clear T
 rintro e wc ⟨rfl, hb⟩
 intro ac T
 replace M := M.call hb; clear hb
 refine sh_out hK _ _ (MA.mk (fun _ => M.mask [true, true] rfl) (M.mask [true, false] rfl)) ?_; clear hK K
 refine gw 1 594471 ?_; intro K hK
 refine ow_call (first := []) (cap := []) T rfl rfl rfl rfl evf (.cons evc (.cons evc .nil)) Try.func24 rfl rfl ?_
 refine Calls.mono (to5_any (-1) 1 _) ?_
 clear T
 rintro e wc ⟨rfl, hb⟩
 intro ac T
 replace M := M.call hb; clear hb
 refine sh_out hK _ _ (MA.mk (fun _ => M.mask [true, true] rfl) (M.mask [true, false] rfl)) ?_; clear hK K
 refine gw 3 594479 ?_; intro K hK
 refine ow_call (first := []) (cap := []) T rfl rfl rfl rfl evf (.cons (T.ev 0 rfl) (.cons (T.ev 7 rfl) .nil)) Try.func36 rfl rfl ?_
 refine Calls.mono (sound5_any (-1) 1 0 0 _) ?_
 clear T
 rintro e wc ⟨rfl, hb⟩
 intro ac T
 replace M := M.call hb; clear hb
 refine sh_out hK _ _ (MA.mk (fun _ => M.mask [true, true] rfl) (M.mask [true, false] rfl)) ?_; clear hK K
 refine gw 4 594495 ?_; intro K hK
 refine ow_call (first := []) (cap := []) T rfl rfl rfl rfl evf (.cons evc (.cons evc .nil)) Try.func24 rfl rfl ?_
 refine Calls.mono (to5_any 0 0 _) ?_
 clear T
 rintro e wc ⟨rfl, hb⟩
 intro ac T
 replace M := M.call hb; clear hb
 refine sh_out hK _ _ (MA.mk (fun _ => M.mask [true, true] rfl) (M.mask [true, false] rfl)) ?_; clear hK K
 refine gw 6 594559 ?_; intro K hK
 refine ow_call (first := []) (cap := []) T rfl rfl rfl rfl evf (.cons (T.ev 0 rfl) (.cons (T.ev 8 rfl) .nil)) Try.func36 rfl rfl ?_
 refine Calls.mono (sound5_any 0 0 0 0 _) ?_
 clear T
 rintro e wc ⟨rfl, hb⟩
 intro ac T
 replace M := M.call hb; clear hb
 refine sh_out hK _ _ (MA.mk (fun _ => M.mask [true, true] rfl) (M.mask [true, false] rfl)) ?_; clear hK K
 refine g_m2 (i := 7) (j := 8) (by kernel_rfl) ?_ ?_
 ·refine gi 594687 ?_; intro K hK
  refine ow_bs (e := 48) [.int .i64 (-1), .int .i64 1, .int .i64 0, .int .i64 0, .int .i64 0, .int .i64 0, .int .i64 0, .int .i64 0] M T rfl rfl rfl rfl (.cons (T.ev 2 rfl) (.cons (T.ev 0 rfl) .nil)) (fun _ => by kernel_rfl) ?_; clear M T; intro gr2_7 wc ac M T
  refine sh_out hK _ _ (MA.mk (fun _ => M.mask [false, true, true] rfl) (M.mask [false, true, false] rfl)) ?_; clear hK K
  refine gw 8 594943 ?_; intro K hK
  refine ow_call (first := []) (cap := []) T rfl rfl rfl rfl evf (.cons evc (.cons evc .nil)) Try.func24 rfl rfl ?_
  refine Calls.mono (to5_any 20 20 _) ?_
  clear T
  rintro e wc ⟨rfl, hb⟩
  intro ac T
  replace M := M.call hb; clear hb
  refine sh_out hK _ _ (MA.mk (fun _ => M.mask [false, true, true] rfl) (M.mask [false, true, false] rfl)) ?_; clear hK K
  exact H0 _ _ ⟨gr2_7, T, M⟩
 refine gi 594815 ?_; intro K hK
 refine ow_call (first := []) (cap := []) T rfl rfl rfl rfl evf (.cons evc (.cons evc .nil)) Try.func24 rfl rfl ?_
 refine Calls.mono (to5_any 20 20 _) ?_
 clear T
 rintro e wc ⟨rfl, hb⟩
 intro ac T
 replace M := M.call hb; clear hb
 refine sh_out hK _ _ (MA.mk (fun _ => M.mask [true, true] rfl) (M.mask [true, false] rfl)) ?_; clear hK K
 refine g_m2 (i := 7) (j := 10) (by kernel_rfl) ?_ ?_
 ·refine gi 594943 ?_; intro K hK
  refine ow_bs (e := 48) [.int .i64 (-1), .int .i64 1, .int .i64 0, .int .i64 0, .int .i64 0, .int .i64 0, .int .i64 0, .int .i64 0] M T rfl rfl rfl rfl (.cons (T.ev 3 rfl) (.cons (T.ev 1 rfl) .nil)) (fun _ => by kernel_rfl) ?_; clear M T; intro gr2_7 wc ac M T
  refine sh_out hK _ _ (MA.mk (fun _ => M.mask [false, true, true] rfl) (M.mask [false, true, false] rfl)) ?_; clear hK K
  exact H0 _ _ ⟨gr2_7, T.pick [1, 0, 2, 3, 4, 5, 6, 7, 8, 9, 10, 11, 12, 13, 14] rfl, M⟩
 refine gi 595839 ?_; intro K hK
 refine ow_call (first := []) (cap := []) T rfl rfl rfl rfl evf (.cons (T.ev 0 rfl) (.cons (T.ev 9 rfl) .nil)) Try.func36 rfl rfl ?_
 refine Calls.mono (sound5_any 20 20 0 0 _) ?_
 clear T
 rintro e wc ⟨rfl, hb⟩
 intro ac T
 replace M := M.call hb; clear hb
 refine sh_out hK _ _ (MA.mk (fun _ => M.mask [true, true] rfl) (M.mask [true, false] rfl)) ?_; clear hK K
 refine g_m2 (i := 7) (j := 11) (by kernel_rfl) ?_ ?_
 ·refine gi 595967 ?_; intro K hK
  refine ow_bs (e := 48) [.int .i64 (-1), .int .i64 1, .int .i64 0, .int .i64 0, .int .i64 0, .int .i64 0, .int .i64 0, .int .i64 0] M T rfl rfl rfl rfl (.cons (T.ev 4 rfl) (.cons (T.ev 2 rfl) .nil)) (fun _ => by kernel_rfl) ?_; clear M T; intro gr2_7 wc ac M T
  refine sh_out hK _ _ (MA.mk (fun _ => M.mask [false, true, true] rfl) (M.mask [false, true, false] rfl)) ?_; clear hK K
  exact H1 _ _ ⟨gr2_7, T, M⟩
 refine gi 597887 ?_; intro K hK
 refine ow_call (first := []) (cap := []) T rfl rfl rfl rfl evf (.cons evc (.cons evc .nil)) Try.func24 rfl rfl ?_
 refine Calls.mono (to5_any 13 15 _) ?_
 clear T
 rintro e wc ⟨rfl, hb⟩
 intro ac T
 replace M := M.call hb; clear hb
 refine sh_out hK _ _ (MA.mk (fun _ => M.mask [true, true] rfl) (M.mask [true, false] rfl)) ?_; clear hK K
 refine g_m2 (i := 7) (j := 13) (by kernel_rfl) ?_ ?_
 ·refine gi 598015 ?_; intro K hK
  refine ow_bs (e := 48) [.int .i64 (-1), .int .i64 1, .int .i64 0, .int .i64 0, .int .i64 0, .int .i64 0, .int .i64 0, .int .i64 0] M T rfl rfl rfl rfl (.cons (T.ev 5 rfl) (.cons (T.ev 3 rfl) .nil)) (fun _ => by kernel_rfl) ?_; clear M T; intro gr2_7 wc ac M T
  refine sh_out hK _ _ (MA.mk (fun _ => M.mask [false, true, true] rfl) (M.mask [false, true, false] rfl)) ?_; clear hK K
  exact H2 _ _ ⟨gr2_7, T, M⟩
 refine gi 606079 ?_; intro K hK
 refine ow_call (first := []) (cap := []) T rfl rfl rfl rfl evf (.cons (T.ev 0 rfl) (.cons (T.ev 10 rfl) .nil)) Try.func36 rfl rfl ?_
 refine Calls.mono (sound5_any 13 15 0 0 _) ?_
 clear T
 rintro e wc ⟨rfl, hb⟩
 intro ac T
 replace M := M.call hb; clear hb
 refine sh_out hK _ _ (MA.mk (fun _ => M.mask [true, true] rfl) (M.mask [true, false] rfl)) ?_; clear hK K
 refine g_m3 (i := 7) (j := 14) (k := 15) (by kernel_rfl) ?_ ?_ ?_
 ·refine gi 606207 ?_; intro K hK
  refine ow_bs (e := 48) [.int .i64 (-1), .int .i64 1, .int .i64 0, .int .i64 0, .int .i64 0, .int .i64 0, .int .i64 0, .int .i64 0] M T rfl rfl rfl rfl (.cons (T.ev 6 rfl) (.cons (T.ev 4 rfl) .nil)) (fun _ => by kernel_rfl) ?_; clear M T; intro gr2_7 wc ac M T
  refine sh_out hK _ _ (MA.mk (fun _ => M.mask [false, true, true] rfl) (M.mask [false, true, false] rfl)) ?_; clear hK K
  exact H3 _ _ ⟨gr2_7, T, M⟩
 ·refine gi 622463 ?_; intro K hK
  refine ow_bs (e := 48) [.int .i64 20, .int .i64 20, .int .i64 0, .int .i64 0, .int .i64 13, .int .i64 15, .int .i64 0, .int .i64 0] M T rfl rfl rfl rfl (.cons (T.ev 2 rfl) (.cons (T.ev 0 rfl) .nil)) (fun _ => by kernel_rfl) ?_; clear M T; intro gr2_14 wc ac M T
  refine sh_out hK _ _ (MA.mk (fun _ => M.mask [false, true, true] rfl) (M.mask [false, true, false] rfl)) ?_; clear hK K
  refine g_m2 (i := 7) (j := 15) (by kernel_rfl) ?_ ?_
  ·refine gi 622591 ?_; intro K hK
   refine ow_bs (e := 48) [.int .i64 (-1), .int .i64 1, .int .i64 0, .int .i64 0, .int .i64 0, .int .i64 0, .int .i64 0, .int .i64 0] M T rfl rfl rfl rfl (.cons (T.ev 7 rfl) (.cons (T.ev 5 rfl) .nil)) (fun _ => by kernel_rfl) ?_; clear M T; intro gr2_7 wc ac M T
   refine sh_out hK _ _ (MA.mk (fun _ => M.mask [false, false, true, true] rfl) (M.mask [false, false, true, false] rfl)) ?_; clear hK K
   exact H6 _ _ ⟨gr2_7, gr2_14, T, M⟩
  refine gi 655231 ?_; intro K hK
  refine ow_call (first := []) (cap := []) T rfl rfl rfl rfl evf (.cons evc (.cons evc .nil)) Try.func24 rfl rfl ?_
  refine Calls.mono (to5_any 30 30 _) ?_
  clear T
  rintro e wc ⟨rfl, hb⟩
  intro ac T
  replace M := M.call hb; clear hb
  refine sh_out hK _ _ (MA.mk (fun _ => M.mask [false, true, true] rfl) (M.mask [false, true, false] rfl)) ?_; clear hK K
  exact H5 _ _ ⟨gr2_14, T, M⟩
 refine gi 638847 ?_; intro K hK
 refine ow_call (first := []) (cap := []) T rfl rfl rfl rfl evf (.cons evc (.cons evc .nil)) Try.func24 rfl rfl ?_
 refine Calls.mono (to5_any 30 30 _) ?_
 clear T
 rintro e wc ⟨rfl, hb⟩
 intro ac T
 replace M := M.call hb; clear hb
 refine sh_out hK _ _ (MA.mk (fun _ => M.mask [true, true] rfl) (M.mask [true, false] rfl)) ?_; clear hK K
 refine g_m3 (i := 7) (j := 14) (k := 17) (by kernel_rfl) ?_ ?_ ?_
 ·refine gi 638975 ?_; intro K hK
  refine ow_bs (e := 48) [.int .i64 (-1), .int .i64 1, .int .i64 0, .int .i64 0, .int .i64 0, .int .i64 0, .int .i64 0, .int .i64 0] M T rfl rfl rfl rfl (.cons (T.ev 7 rfl) (.cons (T.ev 5 rfl) .nil)) (fun _ => by kernel_rfl) ?_; clear M T; intro gr2_7 wc ac M T
  refine sh_out hK _ _ (MA.mk (fun _ => M.mask [false, true, true] rfl) (M.mask [false, true, false] rfl)) ?_; clear hK K
  exact H4 _ _ ⟨gr2_7, T, M⟩
 ·refine gi 655231 ?_; intro K hK
  refine ow_bs (e := 48) [.int .i64 20, .int .i64 20, .int .i64 0, .int .i64 0, .int .i64 13, .int .i64 15, .int .i64 0, .int .i64 0] M T rfl rfl rfl rfl (.cons (T.ev 3 rfl) (.cons (T.ev 1 rfl) .nil)) (fun _ => by kernel_rfl) ?_; clear M T; intro gr2_14 wc ac M T
  refine sh_out hK _ _ (MA.mk (fun _ => M.mask [false, true, true] rfl) (M.mask [false, true, false] rfl)) ?_; clear hK K
  exact H5 _ _ ⟨gr2_14, T.pick [1, 0, 2, 3, 4, 5, 6, 7, 8, 9, 10, 11, 12, 13, 14, 15, 16, 17, 18] rfl, M⟩
 refine gi 769919 ?_; intro K hK
 refine ow_call (first := []) (cap := []) T rfl rfl rfl rfl evf (.cons (T.ev 0 rfl) (.cons (T.ev 11 rfl) .nil)) Try.func36 rfl rfl ?_
 refine Calls.mono (sound5_any 30 30 0 0 _) ?_
 clear T
 rintro e wc ⟨rfl, hb⟩
 intro ac T
 replace M := M.call hb; clear hb
 refine sh_out hK _ _ (MA.mk (fun _ => M.mask [true, true] rfl) (M.mask [true, false] rfl)) ?_; clear hK K
 refine g_m3 (i := 7) (j := 14) (k := 18) (by kernel_rfl) ?_ ?_ ?_
 ·refine gi 770047 ?_; intro K hK
  refine ow_bs (e := 48) [.int .i64 (-1), .int .i64 1, .int .i64 0, .int .i64 0, .int .i64 0, .int .i64 0, .int .i64 0, .int .i64 0] M T rfl rfl rfl rfl (.cons (T.ev 8 rfl) (.cons (T.ev 6 rfl) .nil)) (fun _ => by kernel_rfl) ?_; clear M T; intro gr2_7 wc ac M T
  refine sh_out hK _ _ (MA.mk (fun _ => M.mask [false, true, true] rfl) (M.mask [false, true, false] rfl)) ?_; clear hK K
  exact H7 _ _ ⟨gr2_7, T, M⟩
 ·refine gi 786303 ?_; intro K hK
  refine ow_bs (e := 48) [.int .i64 20, .int .i64 20, .int .i64 0, .int .i64 0, .int .i64 13, .int .i64 15, .int .i64 0, .int .i64 0] M T rfl rfl rfl rfl (.cons (T.ev 4 rfl) (.cons (T.ev 2 rfl) .nil)) (fun _ => by kernel_rfl) ?_; clear M T; intro gr2_14 wc ac M T
  refine sh_out hK _ _ (MA.mk (fun _ => M.mask [false, true, true] rfl) (M.mask [false, true, false] rfl)) ?_; clear hK K
  exact H8 _ _ ⟨gr2_14, T, M⟩
 refine gi 1032063 ?_; intro K hK
 refine ow_call (first := []) (cap := []) T rfl rfl rfl rfl evf (.cons evc (.cons evc .nil)) Try.func24 rfl rfl ?_
 refine Calls.mono (to5_any 30 30 _) ?_
 clear T
 rintro e wc ⟨rfl, hb⟩
 intro ac T
 replace M := M.call hb; clear hb
 refine sh_out hK _ _ (MA.mk (fun _ => M.mask [true, true] rfl) (M.mask [true, false] rfl)) ?_; clear hK K
 refine g_m3 (i := 7) (j := 14) (k := 20) (by kernel_rfl) ?_ ?_ ?_
 ·refine gi 1032191 ?_; intro K hK
  refine ow_bs (e := 48) [.int .i64 (-1), .int .i64 1, .int .i64 0, .int .i64 0, .int .i64 0, .int .i64 0, .int .i64 0, .int .i64 0] M T rfl rfl rfl rfl (.cons (T.ev 9 rfl) (.cons (T.ev 7 rfl) .nil)) (fun _ => by kernel_rfl) ?_; clear M T; intro gr2_7 wc ac M T
  refine sh_out hK _ _ (MA.mk (fun _ => M.mask [false, true, true] rfl) (M.mask [false, true, false] rfl)) ?_; clear hK K
  exact H10 _ _ ⟨gr2_7, T, M⟩
 ·refine gi 1048447 ?_; intro K hK
  refine ow_bs (e := 48) [.int .i64 20, .int .i64 20, .int .i64 0, .int .i64 0, .int .i64 13, .int .i64 15, .int .i64 0, .int .i64 0] M T rfl rfl rfl rfl (.cons (T.ev 5 rfl) (.cons (T.ev 3 rfl) .nil)) (fun _ => by kernel_rfl) ?_; clear M T; intro gr2_14 wc ac M T
  refine sh_out hK _ _ (MA.mk (fun _ => M.mask [false, true, true] rfl) (M.mask [false, true, false] rfl)) ?_; clear hK K
  exact H11 _ _ ⟨gr2_14, T, M⟩
 refine gi 2080639 ?_; intro K hK
 refine ow_call (first := []) (cap := []) T rfl rfl rfl rfl evf (.cons (T.ev 0 rfl) (.cons (T.ev 12 rfl) .nil)) Try.func36 rfl rfl ?_
 refine Calls.mono (sound5_any 30 30 0 0 _) ?_
 clear T
 rintro e wc ⟨rfl, hb⟩
 intro ac T
 replace M := M.call hb; clear hb
 refine sh_out hK _ _ (MA.mk (fun _ => M.mask [true, true] rfl) (M.mask [true, false] rfl)) ?_; clear hK K
 refine g_m3 (i := 7) (j := 14) (k := 21) (by kernel_rfl) ?_ ?_ ?_
 ·refine gi 2080767 ?_; intro K hK
  refine ow_bs (e := 48) [.int .i64 (-1), .int .i64 1, .int .i64 0, .int .i64 0, .int .i64 0, .int .i64 0, .int .i64 0, .int .i64 0] M T rfl rfl rfl rfl (.cons (T.ev 10 rfl) (.cons (T.ev 8 rfl) .nil)) (fun _ => by kernel_rfl) ?_; clear M T; intro gr2_7 wc ac M T
  refine sh_out hK _ _ (MA.mk (fun _ => M.mask [false, true, true] rfl) (M.mask [false, true, false] rfl)) ?_; clear hK K
  exact H13 _ _ ⟨gr2_7, T, M⟩
 ·refine gi 2097023 ?_; intro K hK
  refine ow_bs (e := 48) [.int .i64 20, .int .i64 20, .int .i64 0, .int .i64 0, .int .i64 13, .int .i64 15, .int .i64 0, .int .i64 0] M T rfl rfl rfl rfl (.cons (T.ev 6 rfl) (.cons (T.ev 4 rfl) .nil)) (fun _ => by kernel_rfl) ?_; clear M T; intro gr2_14 wc ac M T
  refine sh_out hK _ _ (MA.mk (fun _ => M.mask [false, true, true] rfl) (M.mask [false, true, false] rfl)) ?_; clear hK K
  exact H14 _ _ ⟨gr2_14, T, M⟩
 refine gi 4177791 ?_; intro K hK
 refine ow_bs (e := 48) [.int .i64 30, .int .i64 30, .int .i64 0, .int .i64 0, .int .i64 30, .int .i64 30, .int .i64 0, .int .i64 0] M T rfl rfl rfl rfl (.cons (T.ev 2 rfl) (.cons (T.ev 0 rfl) .nil)) (fun _ => by kernel_rfl) ?_; clear M T; intro gr2_21 wc ac M T
 refine sh_out hK _ _ (MA.mk (fun _ => M.mask [false, true, true] rfl) (M.mask [false, true, false] rfl)) ?_; clear hK K
 refine g_m2 (i := 7) (j := 14) (by kernel_rfl) ?_ ?_
 ·refine gi 4177919 ?_; intro K hK
  refine ow_bs (e := 48) [.int .i64 (-1), .int .i64 1, .int .i64 0, .int .i64 0, .int .i64 0, .int .i64 0, .int .i64 0, .int .i64 0] M T rfl rfl rfl rfl (.cons (T.ev 11 rfl) (.cons (T.ev 9 rfl) .nil)) (fun _ => by kernel_rfl) ?_; clear M T; intro gr2_7 wc ac M T
  refine sh_out hK _ _ (MA.mk (fun _ => M.mask [false, false, true, true] rfl) (M.mask [false, false, true, false] rfl)) ?_; clear hK K
  exact H16 _ _ ⟨gr2_7, gr2_21, T, M⟩
 refine gi 4194175 ?_; intro K hK
 refine ow_bs (e := 48) [.int .i64 20, .int .i64 20, .int .i64 0, .int .i64 0, .int .i64 13, .int .i64 15, .int .i64 0, .int .i64 0] M T rfl rfl rfl rfl (.cons (T.ev 7 rfl) (.cons (T.ev 5 rfl) .nil)) (fun _ => by kernel_rfl) ?_; clear M T; intro gr2_14 wc ac M T
 refine sh_out hK _ _ (MA.mk (fun _ => M.mask [false, false, true, true] rfl) (M.mask [false, false, true, false] rfl)) ?_; clear hK K
 exact H17 _ _ ⟨gr2_14, gr2_21, T, M⟩
end Go.Proofs.Ytlahdenlmmlplaa
end

section
/-
 law05: trembling.
-/
namespace Go.Proofs.Ytlahdenlmmlplaa
set_option linter.unusedSimpArgs false
set_option linter.unusedVariables false
open Go.RowKit
theorem trembling_any  (w : World)  :
   Calls Try.prog 17 #[] w fun e w' => e = .returned (.bool true) ∧ Below w.heap.size w w' := by
 refine px_enter noEx Try.func17 rfl 82 rfl [] rfl rfl (Mem.init w _) ?_
 intro ac wc T M
 refine wp_seq ?_
 refine wp_region_lit ?_
 refine lq T (rn_assign rfl evc) ?_; clear T ac; intro ac T
 refine wpList_nil ?_
 replace T := T.pick [] rfl
 refine nm_then ?_
 refine wp_seq ?_
 refine wp_region_lit ?_
 refine l_w rfl ?_; intro K hK
 refine ow_call (first := []) (cap := []) T rfl rfl rfl rfl evf .nil Try.func58 rfl rfl ?_
 refine Calls.mono (full5_any _) ?_
 clear T
 rintro e wc ⟨Au1, cu1, Bu1, du1, Iu1, rfl, SAu1, SBu1, N⟩
 intro ac T
 obtain ⟨b1u1, o1u1, SAu1⟩ := SAu1
 replace SAu1 := SAu1 w noEx
 obtain ⟨b2u1, o2u1, SBu1⟩ := SBu1
 replace SBu1 := SBu1 w noEx
 replace M := (M.join N).swapI
 clear N
 replace M : Mem w noEx wc (Iu1) := M
 refine sh_out hK _ _ ?_; clear hK K
 refine l_w rfl ?_; intro K hK
 refine ow_call (first := []) (cap := []) T rfl rfl rfl rfl evf (.cons (T.ev 0 rfl) (.cons evc (.cons evc .nil))) Try.func21 rfl rfl ?_
 refine Calls.mono (Beat_x _ _ _ _ _ (SAu1.rd M (List.Sublist.refl _)) (SBu1.rd M (List.Sublist.refl _))) ?_
 clear T
 rintro e wc ⟨Au2, cu2, Iu2, rfl, Su2, N⟩
 intro ac T
 obtain ⟨bu2, ou2, Su2⟩ := Su2
 replace Su2 := Su2 w noEx
 replace M := (M.join N).swapI
 clear N
 replace M : Mem w noEx wc ((Iu1 ++ Iu2)) := M
 refine sh_out hK _ _ ?_; clear hK K
 refine lq T (rn_move rfl (T.ev 0 rfl)) ?_; clear T ac; intro ac T
 refine lq T (rn_extract rfl (T.ev 0 rfl) rfl) ?_; clear T ac; intro ac T
 refine lq T (rn_extract rfl (T.ev 1 rfl) rfl) ?_; clear T ac; intro ac T
 refine lq T (rn_assign rfl (T.ev 1 rfl)) ?_; clear T ac; intro ac T
 refine lq T (rn_assign rfl (T.ev 1 rfl)) ?_; clear T ac; intro ac T
 refine wpList_nil ?_
 replace T := T.pick [0, 1] rfl
 refine nm_then ?_
 refine wp_seq ?_
 refine wp_region_lit ?_
 refine l_w rfl ?_; intro K hK
 refine ow_call (first := []) (cap := []) T rfl rfl rfl rfl evf .nil Try.func59 rfl rfl ?_
 refine Calls.mono (less5_any _) ?_
 clear T
 rintro e wc ⟨Au3, cu3, Bu3, du3, Iu3, rfl, SAu3, SBu3, N⟩
 intro ac T
 obtain ⟨b1u3, o1u3, SAu3⟩ := SAu3
 replace SAu3 := SAu3 w noEx
 obtain ⟨b2u3, o2u3, SBu3⟩ := SBu3
 replace SBu3 := SBu3 w noEx
 replace M := (M.join N).swapI
 clear N
 replace M : Mem w noEx wc ((Iu1 ++ Iu2 ++ Iu3)) := M
 refine sh_out hK _ _ ?_; clear hK K
 refine l_w rfl ?_; intro K hK
 refine ow_call (first := []) (cap := []) T rfl rfl rfl rfl evf (.cons (T.ev 0 rfl) .nil) Try.func27 rfl rfl ?_
 refine Calls.mono (Match_x _ _ _ _ _ (SAu3.rd M (List.sublist_append_right _ _)) (SBu3.rd M (List.sublist_append_right _ _))) ?_
 clear T
 rintro e wc ⟨Au4, cu4, Iu4, rfl, Su4, N⟩
 intro ac T
 obtain ⟨bu4, ou4, Su4⟩ := Su4
 replace Su4 := Su4 w noEx
 replace M := (M.join N).swapI
 clear N
 replace M : Mem w noEx wc ((Iu1 ++ Iu2 ++ Iu3 ++ Iu4)) := M
 refine sh_out hK _ _ ?_; clear hK K
 refine lq T (rn_move rfl (T.ev 0 rfl)) ?_; clear T ac; intro ac T
 refine lq T (rn_extract rfl (T.ev 0 rfl) rfl) ?_; clear T ac; intro ac T
 refine lq T (rn_extract rfl (T.ev 1 rfl) rfl) ?_; clear T ac; intro ac T
 refine lq T (rn_assign rfl (T.ev 1 rfl)) ?_; clear T ac; intro ac T
 refine lq T (rn_assign rfl (T.ev 1 rfl)) ?_; clear T ac; intro ac T
 refine wpList_nil ?_
 replace T := T.pick [0, 1, 7, 8] rfl
 refine nm_then ?_
 refine wp_seq ?_
 refine wp_region_lit ?_
 refine l_w rfl ?_; intro K hK
 refine ow_call (first := []) (cap := []) T rfl rfl rfl rfl evf .nil Try.func58 rfl rfl ?_
 refine Calls.mono (full5_any _) ?_
 clear T
 rintro e wc ⟨Au5, cu5, Bu5, du5, Iu5, rfl, SAu5, SBu5, N⟩
 intro ac T
 obtain ⟨b1u5, o1u5, SAu5⟩ := SAu5
 replace SAu5 := SAu5 w noEx
 obtain ⟨b2u5, o2u5, SBu5⟩ := SBu5
 replace SBu5 := SBu5 w noEx
 replace M := (M.join N).swapI
 clear N
 replace M : Mem w noEx wc ((Iu1 ++ Iu2 ++ Iu3 ++ Iu4 ++ Iu5)) := M
 refine sh_out hK _ _ ?_; clear hK K
 refine l_w rfl ?_; intro K hK
 refine ow_call (first := []) (cap := []) T rfl rfl rfl rfl evf (.cons (T.ev 0 rfl) (.cons evc (.cons evc .nil))) Try.func60 rfl rfl ?_
 refine Calls.mono (Strokes_x _ _ _ _ _ (SAu5.rd M (List.sublist_append_right _ _)) (SBu5.rd M (List.sublist_append_right _ _))) ?_
 clear T
 rintro e wc ⟨rfl, hb⟩
 intro ac T
 replace M := M.call hb; clear hb
 refine sh_out hK _ _ ?_; clear hK K
 refine lq T (rn_move rfl (T.ev 0 rfl)) ?_; clear T ac; intro ac T
 refine lq T (rn_extract rfl (T.ev 0 rfl) rfl) ?_; clear T ac; intro ac T
 refine lq T (rn_extract rfl (T.ev 1 rfl) rfl) ?_; clear T ac; intro ac T
 refine lq T (rn_assign rfl (T.ev 1 rfl)) ?_; clear T ac; intro ac T
 refine lq T (rn_assign rfl (T.ev 1 rfl)) ?_; clear T ac; intro ac T
 refine wpList_nil ?_
 replace T := T.pick [0, 1, 7, 8, 9, 10] rfl
 refine nm_then ?_
 refine wp_seq ?_
 refine wp_region_lit ?_
 refine l_w rfl ?_; intro K hK
 refine ow_call (first := []) (cap := []) T rfl rfl rfl rfl evf .nil Try.func61 rfl rfl ?_
 refine Calls.mono (scale5_any _) ?_
 clear T
 rintro e wc ⟨Au7, cu7, LLu7, Iu7, hRu7, rfl, Su7, Eu7, N⟩
 intro ac T
 obtain ⟨bu7, ou7, Su7⟩ := Su7
 replace Su7 := Su7 w noEx
 replace M := (M.join N).swapI
 clear N
 replace M : Mem w noEx wc ((Iu1 ++ Iu2 ++ Iu3 ++ Iu4 ++ Iu5 ++ Iu7)) := M
 refine sh_out hK _ _ ?_; clear hK K
 refine l_w rfl ?_; intro K hK
 refine ow_bs (e := 3) [.int .i64 0, .int .i64 1] M T rfl rfl rfl rfl (.cons evc (.cons evc .nil)) (fun _ => by kernel_rfl) ?_; clear M T; intro g1 wc ac M T
 refine sh_out hK _ _ ?_; clear hK K
 refine l_w rfl ?_; intro K hK
 refine ow_call (first := []) (cap := []) T rfl rfl rfl rfl evf (.cons (T.ev 1 rfl) (.cons (T.ev 0 rfl) .nil)) Try.func15 rfl rfl ?_
 refine Calls.mono (Tremolo_x _ _ LLu7 _ _ _ hRu7 (Su7.rd M (.cons _ (List.sublist_append_right _ _))) (fun x hx => by obtain ⟨b9, o9, h9⟩ := Eu7 x hx; exact (h9 w noEx).rd M (.cons _ (List.sublist_append_right _ _))) (M.rdOwn (nthE_mem (i := 0) rfl) rfl rfl)) ?_
 clear T
 rintro e wc ⟨Au8, cu8, Iu8, rfl, Su8, N⟩
 intro ac T
 obtain ⟨bu8, ou8, Su8⟩ := Su8
 replace Su8 := Su8 w noEx
 replace M := (M.join N).swapI
 clear N
 replace M : Mem w noEx wc ((g1, .cells [.int .i64 0, .int .i64 1]) :: (Iu1 ++ Iu2 ++ Iu3 ++ Iu4 ++ Iu5 ++ Iu7 ++ Iu8)) := M
 refine sh_out hK _ _ ?_; clear hK K
 refine lq T (rn_move rfl (T.ev 0 rfl)) ?_; clear T ac; intro ac T
 refine lq T (rn_extract rfl (T.ev 0 rfl) rfl) ?_; clear T ac; intro ac T
 refine lq T (rn_extract rfl (T.ev 1 rfl) rfl) ?_; clear T ac; intro ac T
 refine lq T (rn_assign rfl (T.ev 1 rfl)) ?_; clear T ac; intro ac T
 refine lq T (rn_assign rfl (T.ev 1 rfl)) ?_; clear T ac; intro ac T
 refine wpList_nil ?_
 replace T := T.pick [0, 1, 8, 9, 10, 11, 12, 13] rfl
 replace M := M.mask [false] rfl
 refine nm_then ?_
 refine wp_seq ?_
 refine wp_region_lit ?_
 refine l_w rfl ?_; intro K hK
 refine ow_call (first := []) (cap := []) T rfl rfl rfl rfl evf .nil Try.func59 rfl rfl ?_
 refine Calls.mono (less5_any _) ?_
 clear T
 rintro e wc ⟨Au9, cu9, Bu9, du9, Iu9, rfl, SAu9, SBu9, N⟩
 intro ac T
 obtain ⟨b1u9, o1u9, SAu9⟩ := SAu9
 replace SAu9 := SAu9 w noEx
 obtain ⟨b2u9, o2u9, SBu9⟩ := SBu9
 replace SBu9 := SBu9 w noEx
 replace M := (M.join N).swapI
 clear N
 replace M : Mem w noEx wc ((Iu1 ++ Iu2 ++ Iu3 ++ Iu4 ++ Iu5 ++ Iu7 ++ Iu8 ++ Iu9)) := M
 refine sh_out hK _ _ ?_; clear hK K
 refine l_w rfl ?_; intro K hK
 refine ow_call (first := []) (cap := []) T rfl rfl rfl rfl evf (.cons (T.ev 0 rfl) .nil) Try.func28 rfl rfl ?_
 refine Calls.mono (Short_x _ _ _ _ _ (SAu9.rd M (List.sublist_append_right _ _)) (SBu9.rd M (List.sublist_append_right _ _))) ?_
 clear T
 rintro e wc ⟨Au10, cu10, Iu10, rfl, Su10, N⟩
 intro ac T
 obtain ⟨bu10, ou10, Su10⟩ := Su10
 replace Su10 := Su10 w noEx
 replace M := (M.join N).swapI
 clear N
 replace M : Mem w noEx wc ((Iu1 ++ Iu2 ++ Iu3 ++ Iu4 ++ Iu5 ++ Iu7 ++ Iu8 ++ Iu9 ++ Iu10)) := M
 refine sh_out hK _ _ ?_; clear hK K
 refine lq T (rn_move rfl (T.ev 0 rfl)) ?_; clear T ac; intro ac T
 refine lq T (rn_extract rfl (T.ev 0 rfl) rfl) ?_; clear T ac; intro ac T
 refine lq T (rn_extract rfl (T.ev 1 rfl) rfl) ?_; clear T ac; intro ac T
 refine lq T (rn_assign rfl (T.ev 1 rfl)) ?_; clear T ac; intro ac T
 refine lq T (rn_assign rfl (T.ev 1 rfl)) ?_; clear T ac; intro ac T
 refine wpList_nil ?_
 replace T := T.pick [0, 1, 7, 8, 9, 10, 11, 12, 13, 14] rfl
 refine nm_then ?_
 refine wp_seq ?_
 refine wp_region_lit ?_
 refine lq T (rn_move rfl (T.ev 8 rfl)) ?_; clear T ac; intro ac T
 refine lq (v := (.bool true)) T (rn_neqof (rn_eql rfl (T.ev 0 rfl) evc) (by simp)) ?_; clear T ac; intro ac T
 refine lq T (rn_move rfl (T.ev 0 rfl)) ?_; clear T ac; intro ac T
 refine lw T (wanted_yes rfl rfl (T.ev 0 rfl) rfl) (rn_move rfl (T.ev 9 rfl)) ?_; clear T ac; intro ac T
 refine lw (v := (.bool true)) T (wanted_yes rfl rfl (T.ev 1 rfl) rfl) (rn_neqof (rn_eql rfl (T.ev 0 rfl) evc) (by simp)) ?_; clear T ac; intro ac T
 refine lq T (rn_pick1 rfl (T.ev 2 rfl) rfl (T.ev 0 rfl)) ?_; clear T ac; intro ac T
 refine lq T (rn_move rfl (T.ev 0 rfl)) ?_; clear T ac; intro ac T
 refine lw T (wanted_yes rfl rfl (T.ev 0 rfl) rfl) (rn_move rfl (T.ev 11 rfl)) ?_; clear T ac; intro ac T
 refine lw (v := (.bool true)) T (wanted_yes rfl rfl (T.ev 1 rfl) rfl) (rn_neqof (rn_eql rfl (T.ev 0 rfl) evc) (by simp)) ?_; clear T ac; intro ac T
 refine lq T (rn_pick1 rfl (T.ev 2 rfl) rfl (T.ev 0 rfl)) ?_; clear T ac; intro ac T
 refine lq T (rn_move rfl (T.ev 0 rfl)) ?_; clear T ac; intro ac T
 refine lw T (wanted_yes rfl rfl (T.ev 0 rfl) rfl) (rn_move rfl (T.ev 13 rfl)) ?_; clear T ac; intro ac T
 refine lw (v := (.bool true)) T (wanted_yes rfl rfl (T.ev 1 rfl) rfl) (rn_neqof (rn_eql rfl (T.ev 0 rfl) evc) (by simp)) ?_; clear T ac; intro ac T
 refine lq T (rn_pick1 rfl (T.ev 2 rfl) rfl (T.ev 0 rfl)) ?_; clear T ac; intro ac T
 refine lq T (rn_move rfl (T.ev 0 rfl)) ?_; clear T ac; intro ac T
 refine lw T (wanted_yes rfl rfl (T.ev 0 rfl) rfl) (rn_move rfl (T.ev 15 rfl)) ?_; clear T ac; intro ac T
 refine lw (v := (.bool true)) T (wanted_yes rfl rfl (T.ev 1 rfl) rfl) (rn_neqof (rn_eql rfl (T.ev 0 rfl) evc) (by simp)) ?_; clear T ac; intro ac T
 refine lq T (rn_pick1 rfl (T.ev 2 rfl) rfl (T.ev 0 rfl)) ?_; clear T ac; intro ac T
 refine lq T (rn_move rfl (T.ev 0 rfl)) ?_; clear T ac; intro ac T
 refine lw T (wanted_yes rfl rfl (T.ev 0 rfl) rfl) (rn_move rfl (T.ev 24 rfl)) ?_; clear T ac; intro ac T
 refine lw (v := (.bool true)) T (wanted_yes rfl rfl (T.ev 1 rfl) rfl) (rn_neqof (rn_eql rfl (T.ev 0 rfl) evc) (by simp)) ?_; clear T ac; intro ac T
 refine lq T (rn_pick1 rfl (T.ev 2 rfl) rfl (T.ev 0 rfl)) ?_; clear T ac; intro ac T
 refine lq T (rn_move rfl (T.ev 0 rfl)) ?_; clear T ac; intro ac T
 refine lw T (wanted_yes rfl rfl (T.ev 0 rfl) rfl) (rn_move rfl (T.ev 32 rfl)) ?_; clear T ac; intro ac T
 refine l_w (wanted_yes rfl rfl (T.ev 1 rfl) rfl) ?_; intro K hK
 refine ow_call (first := []) (cap := []) T rfl rfl rfl rfl evf (.cons evc (.cons evc .nil)) Try.func24 rfl rfl ?_
 refine Calls.mono (to5_any 9 10 _) ?_
 clear T
 rintro e wc ⟨rfl, hb⟩
 intro ac T
 replace M := M.call hb; clear hb
 refine sh_out hK _ _ ?_; clear hK K
 refine l_w (wanted_yes rfl rfl (T.ev 2 rfl) rfl) ?_; intro K hK
 refine ow_call (first := []) (cap := []) T rfl rfl rfl rfl evf (.cons evc (.cons evc .nil)) Try.func24 rfl rfl ?_
 refine Calls.mono (to5_any 8 10 _) ?_
 clear T
 rintro e wc ⟨rfl, hb⟩
 intro ac T
 replace M := M.call hb; clear hb
 refine sh_out hK _ _ ?_; clear hK K
 refine l_w (wanted_yes rfl rfl (T.ev 3 rfl) rfl) ?_; intro K hK
 refine ow_call (first := []) (cap := []) T rfl rfl rfl rfl evf (.cons evc (.cons evc .nil)) Try.func24 rfl rfl ?_
 refine Calls.mono (to5_any 7 10 _) ?_
 clear T
 rintro e wc ⟨rfl, hb⟩
 intro ac T
 replace M := M.call hb; clear hb
 refine sh_out hK _ _ ?_; clear hK K
 refine l_w (wanted_yes rfl rfl (T.ev 4 rfl) rfl) ?_; intro K hK
 refine ow_bs (e := 40) [.int .i64 9, .int .i64 10, .int .i64 8, .int .i64 10, .int .i64 7, .int .i64 10] M T rfl rfl rfl rfl (.cons (T.ev 2 rfl) (.cons (T.ev 1 rfl) (.cons (T.ev 0 rfl) .nil))) (fun _ => by kernel_rfl) ?_; clear M T; intro g2 wc ac M T
 refine sh_out hK _ _ ?_; clear hK K
 refine l_w (wanted_yes rfl rfl (T.ev 5 rfl) rfl) ?_; intro K hK
 refine ow_call (first := []) (cap := []) T rfl rfl rfl rfl evf (.cons (T.ev 4 rfl) (.cons (T.ev 0 rfl) .nil)) Try.func26 rfl rfl ?_
 refine Calls.mono (sameRanges_same _ _ _ _ _ _ [(9, 10), (8, 10), (7, 10)] _ (Su2.rd M (.cons _ (subL (subL (subL (subL (subL (subL (subL (List.sublist_append_right _ _)))))))))) (M.rdOwn (nthE_mem (i := 0) rfl) rfl rfl) (by omega) (by omega)) ?_
 clear T
 rintro e wc ⟨rfl, hb⟩
 intro ac T
 replace M := M.call hb; clear hb
 refine sh_out hK _ _ ?_; clear hK K
 refine lq T (rn_pick1 rfl (T.ev 6 rfl) rfl (T.ev 0 rfl)) ?_; clear T ac; intro ac T
 refine lq T (rn_move rfl (T.ev 0 rfl)) ?_; clear T ac; intro ac T
 refine lw T (wanted_yes rfl rfl (T.ev 0 rfl) rfl) (rn_move rfl (T.ev 38 rfl)) ?_; clear T ac; intro ac T
 refine l_w (wanted_yes rfl rfl (T.ev 1 rfl) rfl) ?_; intro K hK
 refine ow_bs (e := 3) [.int .i64 0, .int .i64 (-1)] M T rfl rfl rfl rfl (.cons evc (.cons evc .nil)) (fun _ => by kernel_rfl) ?_; clear M T; intro g3 wc ac M T
 refine sh_out hK _ _ ?_; clear hK K
 refine l_w (wanted_yes rfl rfl (T.ev 2 rfl) rfl) ?_; intro K hK
 refine ow_call (first := []) (cap := []) T rfl rfl rfl rfl evf (.cons (T.ev 1 rfl) (.cons (T.ev 0 rfl) .nil)) Try.func35 rfl rfl ?_
 refine Calls.mono (sameInts_eq _ _ _ _ _ _ [0, -1] _ (Su4.rd M (.cons _ (.cons _ (subL (subL (subL (subL (subL (List.sublist_append_right _ _))))))))) (M.rdOwn (nthE_mem (i := 0) rfl) rfl rfl) (by omega) (by omega)) ?_
 clear T
 rintro e wc ⟨rfl, hb⟩
 intro ac T
 replace M := M.call hb; clear hb
 refine sh_out hK _ _ ?_; clear hK K
 refine lq T (rn_pick1 rfl (T.ev 3 rfl) rfl (T.ev 0 rfl)) ?_; clear T ac; intro ac T
 refine lq T (rn_move rfl (T.ev 0 rfl)) ?_; clear T ac; intro ac T
 refine lw T (wanted_yes rfl rfl (T.ev 0 rfl) rfl) (rn_move rfl (T.ev 39 rfl)) ?_; clear T ac; intro ac T
 refine l_w (wanted_yes rfl rfl (T.ev 1 rfl) rfl) ?_; intro K hK
 refine ow_bs (e := 3) [.int .i64 1, .int .i64 3] M T rfl rfl rfl rfl (.cons evc (.cons evc .nil)) (fun _ => by kernel_rfl) ?_; clear M T; intro g4 wc ac M T
 refine sh_out hK _ _ ?_; clear hK K
 refine l_w (wanted_yes rfl rfl (T.ev 2 rfl) rfl) ?_; intro K hK
 refine ow_call (first := []) (cap := []) T rfl rfl rfl rfl evf (.cons (T.ev 1 rfl) (.cons (T.ev 0 rfl) .nil)) Try.func35 rfl rfl ?_
 refine Calls.mono (sameInts_eq _ _ _ _ _ _ [1, 3] _ (Su8.rd M (.cons _ (.cons _ (.cons _ (subL (subL (List.sublist_append_right _ _))))))) (M.rdOwn (nthE_mem (i := 0) rfl) rfl rfl) (by omega) (by omega)) ?_
 clear T
 rintro e wc ⟨rfl, hb⟩
 intro ac T
 replace M := M.call hb; clear hb
 refine sh_out hK _ _ ?_; clear hK K
 refine lq T (rn_pick1 rfl (T.ev 3 rfl) rfl (T.ev 0 rfl)) ?_; clear T ac; intro ac T
 refine lq T (rn_move rfl (T.ev 0 rfl)) ?_; clear T ac; intro ac T
 refine lw T (wanted_yes rfl rfl (T.ev 0 rfl) rfl) (rn_move rfl (T.ev 42 rfl)) ?_; clear T ac; intro ac T
 refine l_w (wanted_yes rfl rfl (T.ev 1 rfl) rfl) ?_; intro K hK
 refine ow_bs (e := 3) [.int .i64 1] M T rfl rfl rfl rfl (.cons evc .nil) (fun _ => by kernel_rfl) ?_; clear M T; intro g5 wc ac M T
 refine sh_out hK _ _ ?_; clear hK K
 refine l_w (wanted_yes rfl rfl (T.ev 2 rfl) rfl) ?_; intro K hK
 refine ow_call (first := []) (cap := []) T rfl rfl rfl rfl evf (.cons (T.ev 1 rfl) (.cons (T.ev 0 rfl) .nil)) Try.func35 rfl rfl ?_
 refine Calls.mono (sameInts_eq _ _ _ _ _ _ [1] _ (Su10.rd M (.cons _ (.cons _ (.cons _ (.cons _ (List.sublist_append_right _ _)))))) (M.rdOwn (nthE_mem (i := 0) rfl) rfl rfl) (by omega) (by omega)) ?_
 clear T
 rintro e wc ⟨rfl, hb⟩
 intro ac T
 replace M := M.call hb; clear hb
 refine sh_out hK _ _ ?_; clear hK K
 refine lq T (rn_pick1 rfl (T.ev 3 rfl) rfl (T.ev 0 rfl)) ?_; clear T ac; intro ac T
 refine lq T (rn_assign rfl (T.ev 0 rfl)) ?_; clear T ac; intro ac T
 refine wpList_nil ?_
 replace T := T.pick [0] rfl
 replace M := M.mask [false, false, false, false] rfl
 refine nm_then ?_
 refine wp_ret ?_
 refine rt_1 T rfl (T.ev 0 rfl) ?_
 exact ⟨rfl, M.below⟩
end Go.Proofs.Ytlahdenlmmlplaa
end

section
/-
 kit: sounds and laws out of a pot; what tongues truly are.
-/
namespace Go.Proofs.Ytlahdenlmmlplaa
set_option linter.unusedSimpArgs false
set_option linter.unusedVariables false
open Go.RowKit
theorem rn_quo {P : Program} {op : Oper} {a : Act} {w : World} {ty ty' : TypeId} {x y : Operand} {p q : Int} (ho : op.op = .binOp .quo ty x y ty') (hx : a.eval x = .int .i64 p) (hy : a.eval y = .int .i64 q) (hq : q ≠ 0) (hb : -9223372036854775808 ≤ p.tdiv q ∧ p.tdiv q ≤ 9223372036854775807) : Runs P op a (.int .i64 (p.tdiv q)) w := by
 refine rn_bin ho hx hy ?_
 rw [eqGuard_quo, binOp_quo]
 unfold Op.intDiv
 rw [if_neg (by simpa using hq)]
 show Result.ok (Value.int .i64 (IntKind.i64.wrap (p.tdiv q))) w = _
 rw [IntWalk.i64_in _ hb]
def mostD (notes : Int) : Int := min 5 ((5 : Int).tdiv (max 1 notes))
theorem tdiv_bd {q : Int} (h : 1 ≤ q) : 0 ≤ (5 : Int).tdiv q ∧ (5 : Int).tdiv q ≤ 5 ∧ (5 : Int).tdiv q * q ≤ 5 := by
 rw [Int.tdiv_eq_ediv_of_nonneg (by omega)]
 refine ⟨Int.ediv_nonneg (by omega) (by omega), ?_, Int.ediv_mul_le 5 (by omega)⟩
 have h1 := Int.ediv_mul_le 5 (show q ≠ 0 by omega)
 have h2 : 0 ≤ 5 / q := Int.ediv_nonneg (by omega) (by omega)
 have h3 : 5 / q * 1 ≤ 5 / q * q := Int.mul_le_mul_of_nonneg_left h h2
 omega
theorem mostD_bd (notes : Int) : 0 ≤ mostD notes ∧ mostD notes ≤ 5 ∧ ∀ k : Int, 0 ≤ k ∧ k ≤ notes → mostD notes * k ≤ 5 := by
 have h := tdiv_bd (q := max 1 notes) (by omega)
 unfold mostD
 refine ⟨by omega, by omega, fun k hk => ?_⟩
 have e : min 5 ((5 : Int).tdiv (max 1 notes)) = (5 : Int).tdiv (max 1 notes) := by omega
 rw [e]
 exact Int.le_trans (Int.mul_le_mul_of_nonneg_left (by omega) h.1) h.2.2
theorem step_bd {notes st k : Int} (hs : -mostD notes ≤ st ∧ st ≤ mostD notes) (hk : 0 ≤ k ∧ k ≤ notes) : -5 ≤ st * k ∧ st * k ≤ 5 := by
 have h := (mostD_bd notes).2.2 k hk
 have h1 : st * k ≤ mostD notes * k := Int.mul_le_mul_of_nonneg_right hs.2 hk.1
 have h2 : -mostD notes * k ≤ st * k := Int.mul_le_mul_of_nonneg_right hs.1 hk.1
 rw [Int.neg_mul] at h2
 omega
structure Lw.made (l : Lw) (notes : Int) : Prop where
 first : 5 ≤ l.first ∧ l.first ≤ 25
 step : -mostD notes ≤ l.step ∧ l.step ≤ mostD notes
 span : 1 ≤ l.span ∧ l.span ≤ 8
 press : 0 ≤ l.press ∧ l.press ≤ 3
def LawPost (bp : Nat) (notes : Int) (w : World) (e : Ending) (w' : World) : Prop := ∃ (l : Lw) (s' : Int), l.made notes ∧ u64ok s' ∧ e = .returned (.agg #[.int .i64 l.first, .int .i64 l.step, .int .i64 l.span, .int .i64 l.press]) ∧ w.grownBy w' (some bp) ∧ Bk w' bp #[.int .u64 s']
def SoundPost (bp : Nat) (w : World) (e : Ending) (w' : World) : Prop := ∃ (x : Snd) (s' : Int), x.good ∧ u64ok s' ∧ e = .returned (.agg #[.int .i64 x.t0, .int .i64 x.t1, .int .i64 x.s0, .int .i64 x.s1]) ∧ w.grownBy w' (some bp) ∧ Bk w' bp #[.int .u64 s']
def beatT (t0 s0 t1 s1 p : Int) : Int := t1 + s1 * p - t0 - s0 * p
theorem beatT_eq (t0 s0 t1 s1 p : Int) : beatT t0 s0 t1 s1 p = t1 - t0 + p * (s1 - s0) := by
 unfold beatT
 rw [Int.mul_sub, Int.mul_comm p s1, Int.mul_comm p s0]
 omega
theorem lawOf_any (s : Int) (bp : Nat) (notes : Int) (w : World) (hn : 0 ≤ notes ∧ notes ≤ 1000) (hp : Bk w bp #[.int .u64 s]) (hs : u64ok s) :
   Calls Try.prog 51 #[.pointer (some ⟨bp, 0, none⟩), .int .i64 notes] w (LawPost bp notes w) := by
 have hq := tdiv_bd (q := max 1 notes) (by omega)
 refine px_enter (fun b => b = bp) Try.func51 rfl 27 rfl [.pointer (some ⟨bp, 0, none⟩), .int .i64 notes] rfl rfl (Mem.initEx (p := .cells [.int .u64 s]) hp) ?_
 intro ac wc T M
 refine wp_seq ?_
 refine wp_region_lit ?_
 refine l_w rfl ?_; intro K hK
 refine ow_al M T rfl rfl rfl rfl ?_; clear M T; intro g1 wc ac M T
 refine sh_out hK _ _ ?_; clear hK K
 refine wpList_nil ?_
 refine nm_then ?_
 refine wp_seq ?_
 refine wp_region_lit ?_
 refine lq T (rn_move rfl (T.ev 1 rfl)) ?_; clear T ac; intro ac T
 refine l_w rfl ?_; intro K hK
 refine ow_call (first := []) (cap := []) T rfl rfl rfl rfl evf (.cons (T.ev 0 rfl) (.cons evc (.cons evc .nil))) Try.func19 rfl rfl ?_
 refine Calls.mono (within_pot _ bp 5 25 _ (by omega) (by omega) (by omega) (M.nth 1 rfl) hs) ?_
 clear T
 rintro e wc ⟨xu1, su1, hxu1, hsu1, rfl, hgr, hbk⟩
 intro ac T
 replace M := M.callC (cs' := [.int .u64 su1]) (.tail .head) hgr hbk
 clear hgr hbk
 refine sh_out hK _ _ ?_; clear hK K
 refine lq T (rn_move rfl (T.ev 3 rfl)) ?_; clear T ac; intro ac T
 refine l_w rfl ?_; intro K hK
 refine ow_call (first := []) (cap := []) T rfl rfl rfl rfl evf (.cons (T.ev 0 rfl) (.cons evc (.cons evc .nil))) Try.func19 rfl rfl ?_
 refine Calls.mono (within_pot _ bp 1 8 _ (by omega) (by omega) (by omega) (M.nth 1 rfl) hsu1) ?_
 clear T
 rintro e wc ⟨xu2, su2, hxu2, hsu2, rfl, hgr, hbk⟩
 intro ac T
 replace M := M.callC (cs' := [.int .u64 su2]) (.tail .head) hgr hbk
 clear hgr hbk
 refine sh_out hK _ _ ?_; clear hK K
 refine lq T (rn_move rfl (T.ev 5 rfl)) ?_; clear T ac; intro ac T
 refine l_w rfl ?_; intro K hK
 refine ow_call (first := []) (cap := []) T rfl rfl rfl rfl evf (.cons (T.ev 0 rfl) (.cons evc .nil)) Try.func39 rfl rfl ?_
 refine Calls.mono (upto_any _ bp 3 _ (by omega) (by omega) (M.nth 1 rfl) hsu2) ?_
 clear T
 rintro e wc ⟨xu3, su3, hxu3, hsu3, rfl, hgr, hbk⟩
 intro ac T
 replace M := M.callC (cs' := [.int .u64 su3]) (.tail .head) hgr hbk
 clear hgr hbk
 refine sh_out hK _ _ ?_; clear hK K
 refine lq (v := (.agg #[.int .i64 xu1, .int .i64 0, .int .i64 xu2, .int .i64 xu3])) T (rn_build rfl (.cons (T.ev 4 rfl) (.cons (T.ev 2 rfl) (.cons (T.ev 0 rfl) .nil))) (fun _ => by kernel_rfl)) ?_; clear T ac; intro ac T
 refine l_w rfl ?_; intro K hK
 refine ow_al M T rfl rfl rfl rfl ?_; clear M T; intro g2 wc ac M T
 refine sh_out hK _ _ ?_; clear hK K
 refine l_w rfl ?_; intro K hK
 refine ow_stO M T rfl rfl (T.ev 0 rfl) (T.ev 1 rfl) rfl .head rfl (by simp) rfl (by kernel_rfl) ?_; clear M T; intro wc ac M T
 refine sh_out hK _ _ ?_; clear hK K
 refine wpList_nil ?_
 replace T := T.pick [0, 8, 9, 10] rfl
 refine nm_then ?_
 refine wp_seq ?_
 refine wp_seq ?_
 refine wp_region_lit ?_
 refine lq T (rn_move rfl (T.ev 3 rfl)) ?_; clear T ac; intro ac T
 refine lq T (rn_max2 rfl evc (T.ev 0 rfl)) ?_; clear T ac; intro ac T
 refine lq T (rn_quo rfl evc (T.ev 0 rfl) (by omega) (by omega)) ?_; clear T ac; intro ac T
 refine lq T (rn_min2 rfl evc (T.ev 0 rfl)) ?_; clear T ac; intro ac T
 refine lq T (rn_assign rfl (T.ev 0 rfl)) ?_; clear T ac; intro ac T
 refine wpList_nil ?_
 replace T := T.pick [0, 5, 6, 7] rfl
 refine nm_then ?_
 refine wp_seq ?_
 refine wp_region_lit ?_
 refine lq T (rn_move rfl (T.ev 0 rfl)) ?_; clear T ac; intro ac T
 refine lq T (rn_gtr rfl (T.ev 0 rfl) evc) ?_; clear T ac; intro ac T
 refine wpList_nil ?_
 replace T := T.pick [0, 2, 3, 4, 5] rfl
 refine nm_then ?_
 refine wp_if (T.ev 0 rfl) ?_ ?_
 ·intro h1
  refine wp_region_lit ?_
  refine lq T (rn_move rfl (T.ev 4 rfl)) ?_; clear T ac; intro ac T
  refine lq T (rn_move rfl (T.ev 2 rfl)) ?_; clear T ac; intro ac T
  refine lq T (rn_neg rfl (T.ev 0 rfl) (by omega)) ?_; clear T ac; intro ac T
  refine lq T (rn_move rfl (T.ev 4 rfl)) ?_; clear T ac; intro ac T
  refine l_w rfl ?_; intro K hK
  refine ow_call (first := []) (cap := []) T rfl rfl rfl rfl evf (.cons (T.ev 3 rfl) (.cons (T.ev 1 rfl) (.cons (T.ev 0 rfl) .nil))) Try.func19 rfl rfl ?_
  refine Calls.mono (within_pot _ bp (-(min 5 (Int.tdiv 5 (max 1 notes)))) (min 5 (Int.tdiv 5 (max 1 notes))) _ (by omega) (by omega) (by omega) (M.nth 2 rfl) hsu3) ?_
  clear T
  rintro e wc ⟨xu4, su4, hxu4, hsu4, rfl, hgr, hbk⟩
  intro ac T
  replace M := M.callC (cs' := [.int .u64 su4]) (.tail (.tail .head)) hgr hbk
  clear hgr hbk
  refine sh_out hK _ _ ?_; clear hK K
  refine lq (v := (.pointer (some ⟨g2, 1, none⟩))) T (rn_fieldAddr (off := 1) rfl (T.ev 7 rfl) (fun _ _ _ => by kernel_rfl)) ?_; clear T ac; intro ac T
  refine l_w rfl ?_; intro K hK
  refine ow_stO M T rfl rfl (T.ev 0 rfl) (T.ev 1 rfl) rfl .head rfl (by simp) rfl (by kernel_rfl) ?_; clear M T; intro wc ac M T
  refine sh_out hK _ _ ?_; clear hK K
  refine wpList_nil ?_
  replace T := T.pick [8, 9] rfl
  refine nm_then ?_
  refine wp_seq ?_
  refine wp_region_lit ?_
  refine lq T (rn_rowO (Mem.nth M 0 rfl) rfl (T.ev 0 rfl) rfl) ?_; clear T ac; intro ac T
  refine l_w rfl ?_; intro K hK
  refine ow_stO M T rfl rfl (T.ev 2 rfl) (T.ev 0 rfl) rfl (.tail .head) rfl (by simp) rfl (by kernel_rfl) ?_; clear M T; intro wc ac M T
  refine sh_out hK _ _ ?_; clear hK K
  refine wpList_nil ?_
  replace T := T.pick [2] rfl
  replace M := M.mask [false, true, true] rfl
  refine nm_then ?_
  refine wp_ret ?_
  refine rt_c M T rfl (T.ev 0 rfl) (nthE_mem (i := 0) rfl) rfl ?_
  exact ⟨⟨xu1, xu4, xu2, xu3⟩, _, ⟨by (try dsimp only); omega, by (try dsimp only); unfold mostD; omega, by (try dsimp only); omega, by (try dsimp only); omega⟩, hsu4, rfl, M.grown, M.nth 1 rfl⟩
 intro h1
 refine wp_skip ?_
 refine nm_then ?_
 refine wp_seq ?_
 refine wp_region_lit ?_
 refine lq T (rn_rowO (Mem.nth M 0 rfl) rfl (T.ev 2 rfl) rfl) ?_; clear T ac; intro ac T
 refine l_w rfl ?_; intro K hK
 refine ow_stO M T rfl rfl (T.ev 4 rfl) (T.ev 0 rfl) rfl (.tail .head) rfl (by simp) rfl (by kernel_rfl) ?_; clear M T; intro wc ac M T
 refine sh_out hK _ _ ?_; clear hK K
 refine wpList_nil ?_
 replace T := T.pick [4] rfl
 replace M := M.mask [false, true, true] rfl
 refine nm_then ?_
 refine wp_ret ?_
 refine rt_c M T rfl (T.ev 0 rfl) (nthE_mem (i := 0) rfl) rfl ?_
 exact ⟨⟨xu1, 0, xu2, xu3⟩, _, ⟨by (try dsimp only); omega, by (try dsimp only); unfold mostD; omega, by (try dsimp only); omega, by (try dsimp only); omega⟩, hsu3, rfl, M.grown, M.nth 1 rfl⟩
theorem soundOf_any (s : Int) (bp : Nat) (tone wide : Int) (w : World) (ht : -1000 ≤ tone ∧ tone ≤ 1000) (hw : 0 ≤ wide ∧ wide ≤ 40) (hp : Bk w bp #[.int .u64 s]) (hs : u64ok s) :
   Calls Try.prog 20 #[.pointer (some ⟨bp, 0, none⟩), .int .i64 tone, .int .i64 wide] w (SoundPost bp w) := by
 refine px_enter (fun b => b = bp) Try.func20 rfl 24 rfl [.pointer (some ⟨bp, 0, none⟩), .int .i64 tone, .int .i64 wide] rfl rfl (Mem.initEx (p := .cells [.int .u64 s]) hp) ?_
 intro ac wc T M
 refine wp_seq ?_
 refine wp_region_lit ?_
 refine l_w rfl ?_; intro K hK
 refine ow_al M T rfl rfl rfl rfl ?_; clear M T; intro g1 wc ac M T
 refine sh_out hK _ _ ?_; clear hK K
 refine wpList_nil ?_
 refine nm_then ?_
 refine wp_seq ?_
 refine wp_region_lit ?_
 refine lq T (rn_move rfl (T.ev 2 rfl)) ?_; clear T ac; intro ac T
 refine lq T (rn_min2 rfl evc (T.ev 0 rfl)) ?_; clear T ac; intro ac T
 refine lq T (rn_max2 rfl evc (T.ev 0 rfl)) ?_; clear T ac; intro ac T
 refine l_q (v := (.int .i64 (max (-30) (min 30 tone)))) (T.pick [0, 1, 2, 3, 4, 6] rfl) rfl rfl rfl rfl (rn_assign rfl (T.ev 0 rfl)) ?_; clear T ac; intro ac T
 refine wpList_nil ?_
 replace T := T.pick [0, 4, 5, 6] rfl
 refine nm_then ?_
 refine wp_seq ?_
 refine wp_region_lit ?_
 refine lq T (rn_move rfl (T.ev 2 rfl)) ?_; clear T ac; intro ac T
 refine lq T (rn_move rfl (T.ev 1 rfl)) ?_; clear T ac; intro ac T
 refine lq T (rn_move rfl (T.ev 5 rfl)) ?_; clear T ac; intro ac T
 refine l_w rfl ?_; intro K hK
 refine ow_call (first := []) (cap := []) T rfl rfl rfl rfl evf (.cons (T.ev 2 rfl) (.cons (T.ev 1 rfl) (.cons evc (.cons evc (.cons (T.ev 0 rfl) .nil))))) Try.func63 rfl rfl ?_
 refine Calls.mono (near_pot _ bp (max (-30) (min 30 tone)) (-30) 30 wide _ (by omega) (by omega) (by omega) (by omega) (by omega) (by omega) (M.nth 1 rfl) hs) ?_
 clear T
 rintro e wc ⟨xu1, yu1, su1, hxu1, hsu1, rfl, hgr, hbk⟩
 intro ac T
 replace M := M.callC (cs' := [.int .u64 su1]) (.tail .head) hgr hbk
 clear hgr hbk
 refine sh_out hK _ _ ?_; clear hK K
 refine lq T (rn_move rfl (T.ev 6 rfl)) ?_; clear T ac; intro ac T
 refine lq T (rn_move rfl (T.ev 7 rfl)) ?_; clear T ac; intro ac T
 refine lq T (rn_move rfl (T.ev 8 rfl)) ?_; clear T ac; intro ac T
 refine l_w rfl ?_; intro K hK
 refine ow_call (first := []) (cap := []) T rfl rfl rfl rfl evf (.cons (T.ev 0 rfl) (.cons evc (.cons evc .nil))) Try.func19 rfl rfl ?_
 refine Calls.mono (within_pot _ bp (-2) 2 _ (by omega) (by omega) (by omega) (M.nth 1 rfl) hsu1) ?_
 clear T
 rintro e wc ⟨xu2, su2, hxu2, hsu2, rfl, hgr, hbk⟩
 intro ac T
 replace M := M.callC (cs' := [.int .u64 su2]) (.tail .head) hgr hbk
 clear hgr hbk
 refine sh_out hK _ _ ?_; clear hK K
 refine l_w rfl ?_; intro K hK
 refine ow_bs (e := 3) [.int .i64 0, .int .i64 0, .int .i64 xu2] M T rfl rfl rfl rfl (.cons evc (.cons evc (.cons (T.ev 0 rfl) .nil))) (fun _ => by kernel_rfl) ?_; clear M T; intro g2 wc ac M T
 refine sh_out hK _ _ ?_; clear hK K
 refine l_w rfl ?_; intro K hK
 refine ow_call (first := []) (cap := []) T rfl rfl rfl rfl evf (.cons (T.ev 3 rfl) (.cons (T.ev 0 rfl) .nil)) Try.func64 rfl rfl ?_
 refine Calls.mono (of_any _ bp _ 3 3 [0, 0, xu2] _ (M.rdOwn (nthE_mem (i := 0) rfl) rfl rfl) (M.nee 0 2 rfl rfl rfl) (by decide) (by decide) (M.nth 2 rfl) hsu2) ?_
 clear T
 rintro e wc ⟨xu3, su3, hxu3, hsu3, rfl, hgr, hbk⟩
 intro ac T
 replace M := M.callC (cs' := [.int .u64 su3]) (.tail (.tail .head)) hgr hbk
 clear hgr hbk
 simp only [List.mem_cons, List.not_mem_nil, or_false] at hxu3
 refine sh_out hK _ _ ?_; clear hK K
 refine lq T (rn_move rfl (T.ev 13 rfl)) ?_; clear T ac; intro ac T
 refine lq T (rn_min2 rfl (T.ev 0 rfl) evc) ?_; clear T ac; intro ac T
 refine l_w rfl ?_; intro K hK
 refine ow_call (first := []) (cap := []) T rfl rfl rfl rfl evf (.cons (T.ev 7 rfl) (.cons (T.ev 2 rfl) (.cons evc (.cons evc (.cons (T.ev 0 rfl) .nil))))) Try.func63 rfl rfl ?_
 refine Calls.mono (near_pot _ bp xu3 (-3) 3 (min wide 1) _ (by omega) (by omega) (by omega) (by omega) (by omega) (by omega) (M.nth 2 rfl) hsu3) ?_
 clear T
 rintro e wc ⟨xu4, yu4, su4, hxu4, hsu4, rfl, hgr, hbk⟩
 intro ac T
 replace M := M.callC (cs' := [.int .u64 su4]) (.tail (.tail .head)) hgr hbk
 clear hgr hbk
 refine sh_out hK _ _ ?_; clear hK K
 refine lq (v := (.agg #[.int .i64 xu1, .int .i64 yu1, .int .i64 xu4, .int .i64 yu4])) T (rn_build rfl (.cons (T.ev 9 rfl) (.cons (T.ev 0 rfl) .nil)) (fun _ => by kernel_rfl)) ?_; clear T ac; intro ac T
 refine l_w rfl ?_; intro K hK
 refine ow_stO M T rfl rfl (T.ev 15 rfl) (T.ev 0 rfl) rfl (.tail .head) rfl (by simp) rfl (by kernel_rfl) ?_; clear M T; intro wc ac M T
 refine sh_out hK _ _ ?_; clear hK K
 refine wpList_nil ?_
 replace T := T.pick [15] rfl
 replace M := M.mask [false, true, true] rfl
 refine nm_then ?_
 refine wp_ret ?_
 refine rt_c M T rfl (T.ev 0 rfl) (nthE_mem (i := 0) rfl) rfl ?_
 exact ⟨⟨xu1, yu1, xu4, yu4⟩, _, ⟨by (try dsimp only); omega, by (try dsimp only); omega⟩, hsu4, rfl, M.grown, M.nth 1 rfl⟩
end Go.Proofs.Ytlahdenlmmlplaa
end

section
/-
 kit: boxes out of a pot.
-/
namespace Go.Proofs.Ytlahdenlmmlplaa
set_option linter.unusedSimpArgs false
set_option linter.unusedVariables false
open Go.RowKit
theorem Mem.joinW {w0 w w' : World} {ex : Nat → Prop} {L L' I : List (Nat × BA)} {g : Nat} {p p' : BA} (M : Mem w0 ex w L) (hu : Upd L g p p' L') (N : Mem w (fun b => b = g) w' (I ++ [(g, p')])) : Mem w0 ex w' (I ++ L') := by
 have hg := M.blk _ hu.mem
 have hgl := BA.lt hg.2
 have hnd := N.nd
 rw [List.map_append] at hnd
 obtain ⟨n1, n2, n3⟩ := List.nodup_append.1 hnd
 have hI : ∀ q ∈ I, w.heap.size ≤ q.1 := fun q hq => by
   rcases (N.blk q (List.mem_append_left _ hq)).1 with h | h
   · exact h
   · exact absurd h (n3 q.1 (List.mem_map.2 ⟨q, hq, rfl⟩) g (by simp))
 refine ⟨N.os.trans M.os, N.tape.trans M.tape, N.output.trans M.output, Nat.le_trans M.size N.size, fun b hb hx => ?_, fun q hq => ?_, ?_⟩
 · refine (N.block b (Nat.lt_of_lt_of_le hb M.size) fun e => ?_).trans (M.block b hb hx)
   have e : b = g := e
   subst e
   rcases hg.1 with h | h
   · have h : w0.heap.size ≤ b := h
     omega
   · exact hx h
 · rcases List.mem_append.1 hq with hq | hq
   · exact ⟨.inl (Nat.le_trans M.size (hI q hq)), (N.blk q (List.mem_append_left _ hq)).2⟩
   · rcases hu.all M.nd q hq with rfl | ⟨h1, h2⟩
     · exact ⟨hg.1, (N.blk _ (List.mem_append_right _ List.mem_cons_self)).2⟩
     · have h3 := M.blk q h1
       exact ⟨h3.1, BA.same h3.2 N.size (N.block _ (BA.lt h3.2) h2)⟩
 · rw [List.map_append, hu.keys]
   refine List.nodup_append.2 ⟨n1, M.nd, fun a ha b hb e => ?_⟩
   obtain ⟨q, hq, rfl⟩ := List.mem_map.1 ha
   obtain ⟨r, hr, rfl⟩ := List.mem_map.1 hb
   have h1 := hI q hq
   have h2 := BA.lt (M.blk r hr).2
   omega
structure Bx.made (b : Bx) (lo hi : Int) : Prop where
 law : b.law.made 3
 note : 0 ≤ b.note ∧ b.note ≤ 3
 nlo : (b.lows.length : Int) ≤ lo
 nhi : (b.highs.length : Int) ≤ hi
 good : b.good
def BoxOfPost (bp : Nat) (lo hi : Int) (w : World) (e : Ending) (w' : World) : Prop :=
 ∃ (b : Bx) (A : Option Addr) (c : Nat) (B : Option Addr) (d : Nat) (s : Int) (I : List (Nat × BA)), e = .returned (bxV b A c B d) ∧ b.made lo hi ∧ u64ok s ∧ (∃ b1 o1, ∀ (w : World) (ex : Nat → Prop), Sp w ex I A b.lows.length 4 b1 o1 (sc b.lows)) ∧ (∃ b1 o1, ∀ (w : World) (ex : Nat → Prop), Sp w ex I B b.highs.length 4 b1 o1 (sc b.highs)) ∧ Mem w (fun b => b = bp) w' (I ++ [(bp, .cells [.int .u64 s])])
end Go.Proofs.Ytlahdenlmmlplaa
end

section
/-
 kit: scales and registers out of a pot; law05's own checks.
-/
namespace Go.Proofs.Ytlahdenlmmlplaa
set_option linter.unusedSimpArgs false
set_option linter.unusedVariables false
open Go.RowKit
theorem Mem.swap3 {w0 w : World} {ex : Nat → Prop} (H X Y Z : List (Nat × BA)) (M : Mem w0 ex w (H ++ (X ++ Y ++ Z))) : Mem w0 ex w (H ++ (X ++ Z ++ Y)) := by
 have hp : (H ++ (X ++ Y ++ Z)).Perm (H ++ (X ++ Z ++ Y)) := List.Perm.append_left H (by rw [List.append_assoc, List.append_assoc]; exact List.Perm.append_left X List.perm_append_comm)
 exact ⟨M.os, M.tape, M.output, M.size, M.block, fun p h => M.blk p (hp.mem_iff.2 h), (hp.map _).nodup_iff.1 M.nd⟩
def OddsPost (bp : Nat) (w : World) (e : Ending) (w' : World) : Prop := ∃ (b : Bool) (s' : Int), u64ok s' ∧ e = .returned (.bool b) ∧ w.grownBy w' (some bp) ∧ Bk w' bp #[.int .u64 s']
def SungPost (bp : Nat) (x : Snd) (w : World) (e : Ending) (w' : World) : Prop := ∃ t u s' : Int, (x.t0 ≤ t ∧ t ≤ x.t1 ∧ x.s0 ≤ u ∧ u ≤ x.s1) ∧ u64ok s' ∧ e = .returned (.agg #[.int .i64 t, .int .i64 u]) ∧ w.grownBy w' (some bp) ∧ Bk w' bp #[.int .u64 s']
def Asc (n : Int) (l : List Int) : Prop := l.Pairwise (· < ·) ∧ ∀ x ∈ l, 0 ≤ x ∧ x < n
theorem Asc.nil (n : Int) : Asc n [] := ⟨List.Pairwise.nil, fun x hx => by cases hx⟩
theorem Asc.snoc {n : Int} {l : List Int} (h : Asc n l) (hn : 0 ≤ n) : Asc (n + 1) (l ++ [n]) := by
 refine ⟨List.pairwise_append.2 ⟨h.1, List.pairwise_singleton _ _, fun a ha b hb => ?_⟩, fun x hx => ?_⟩
 · simp only [List.mem_cons, List.not_mem_nil, or_false] at hb
   subst hb
   exact (h.2 a ha).2
 · rcases List.mem_append.1 hx with hx | hx
   · have := h.2 x hx
     omega
   · simp only [List.mem_cons, List.not_mem_nil, or_false] at hx
     omega
theorem Asc.more {n m : Int} {l : List Int} (h : Asc n l) (hm : n ≤ m) : Asc m l := ⟨h.1, fun x hx => by have := h.2 x hx; omega⟩
theorem Asc.sub {n : Int} {l l' : List Int} (h : Asc n l) (hs : l'.Sublist l) : Asc n l' := ⟨h.1.sublist hs, fun x hx => h.2 x (hs.subset hx)⟩
theorem Asc.reg : ∀ {n : Int} {l : List Int} {p : Option Int}, Asc n l → (∀ q, p = some q → ∀ x ∈ l, q < x) → regE n p l = 0
 | n, [], p, _, _ => rfl
 | n, r :: l, p, h, hp => by
   have h1 := h.2 r List.mem_cons_self
   have h2 := List.pairwise_cons.1 h.1
   unfold regE
   rw [if_neg (by omega), if_neg]
   · exact Asc.reg ⟨h2.2, fun x hx => h.2 x (List.mem_cons_of_mem _ hx)⟩ fun q hq x hx => by injection hq with hq; subst hq; exact h2.1 x hx
   · cases p with
     | none => simp [leO]
     | some q =>
       have := hp q rfl r List.mem_cons_self
       simp only [leO, decide_eq_true_eq]
       omega
theorem Asc.check {l : Lw} {R : List (List Snd)} {g : List Int} (hS : SGood l R) (h : Asc R.length g) : checkR l R g = 0 := by
 unfold checkR
 rw [if_neg (by rw [checkS_good.2 hS]; simp)]
 exact h.reg fun q hq => by cases hq
theorem Asc.short : ∀ {l : List Int} {n : Nat}, Asc n l → l.length ≤ n
 | l, 0, h => by
   cases l with
   | nil => simp
   | cons a r => have := h.2 a List.mem_cons_self; omega
 | l, n + 1, h => by
   rcases List.eq_nil_or_concat l with rfl | ⟨r, a, rfl⟩
   · simp
   · rw [List.concat_eq_append] at h ⊢
     have h1 := List.pairwise_append.1 h.1
     have ha := h.2 a (by simp)
     have := Asc.short (l := r) (n := n) ⟨h1.1, fun x hx => ⟨(h.2 x (by simp [hx])).1, by have := h1.2.2 x hx a (by simp); omega⟩⟩
     rw [List.length_append]
     simp
     omega
theorem Sl.cap {w0 w : World} {ex : Nat → Prop} {e n c size : Nat} {A : Option Addr} {xs : List Value} {I L : List (Nat × BA)} (h : Sl e size (.slice A n c) n xs I) (M : Mem w0 ex w L) (hI : I.Sublist L) : n ≤ c := by
 rcases h with ⟨h1, rfl, _, _⟩ | ⟨g, cap, h1, rfl⟩
 · omega
 · injection h1 with h1 _ h2
   subst h1 h2
   obtain ⟨hb, hn⟩ := (M.blk _ (hI.subset List.mem_cons_self)).2
   obtain ⟨g', cap', e1, h3, _⟩ := own_form hb hn
   injection e1 with _ _ e3
   omega
def PickPost (bp : Nat) (n : Int) (w : World) (e : Ending) (w' : World) : Prop := ∃ (l : List Int) (A : Option Addr) (c : Nat) (s : Int) (I : List (Nat × BA)), e = .returned (.slice A l.length c) ∧ Asc n l ∧ u64ok s ∧ l.length ≤ c ∧ (∃ b o, ∀ (w : World) (ex : Nat → Prop), Sp w ex I A l.length 1 b o (ic l)) ∧ Mem w (fun b => b = bp) w' (I ++ [(bp, .cells [.int .u64 s])])
theorem ElsR.mono {LL : List LS} {I I' : List (Nat × BA)} (h : ElsR LL I) (hs : I.Sublist I') : ElsR LL I' := fun x hx => by
 obtain ⟨b, o, h1⟩ := h x hx
 exact ⟨b, o, fun w ex => (h1 w ex).mono hs⟩
theorem ElsR.snoc {LL : List LS} {I I' : List (Nat × BA)} (h : ElsR LL I) {l : List Snd} {A : Option Addr} {c : Nat} (hs : ∃ b o, ∀ (w : World) (ex : Nat → Prop), Sp w ex I' A l.length 4 b o (sc l)) : ElsR (LL ++ [(l, A, c)]) (I ++ I') := fun x hx => by
 rcases List.mem_append.1 hx with hx | hx
 · exact h.mono (List.sublist_append_left _ _) x hx
 · simp only [List.mem_cons, List.not_mem_nil, or_false] at hx
   subst hx
   obtain ⟨b, o, h1⟩ := hs
   exact ⟨b, o, fun w ex => (h1 w ex).mono (List.sublist_append_right _ _)⟩
theorem lsC_snoc (l : List LS) (x : List Snd) (A : Option Addr) (c : Nat) : lsC l ++ [.slice A x.length c] = lsC (l ++ [(x, A, c)]) := by simp [lsC]
def ScaleOfPost (bp : Nat) (w : World) (e : Ending) (w' : World) : Prop :=
 ∃ (l : Lw) (LL : List LS) (A : Option Addr) (c : Nat) (s : Int) (I : List (Nat × BA)), e = .returned (.agg #[.int .i64 l.first, .int .i64 l.step, .int .i64 l.span, .int .i64 l.press, .slice A LL.length c]) ∧ SGood l (rowsOf LL) ∧ u64ok s ∧ (∃ b o, ∀ (w : World) (ex : Nat → Prop), Sp w ex I A LL.length 1 b o (lsC LL)) ∧ ElsR LL I ∧ Mem w (fun b => b = bp) w' (I ++ [(bp, .cells [.int .u64 s])])
theorem Try.info38 : (Try.prog.info? 38).map (fun i => (i.zero, i.size, i.bytes)) = some (some (.slice none 0 0), 1, 24) := by kernel_rfl
theorem scaleMade {l : Lw} {n : Int} {LL : List LS} (hl : l.made n) (hn : 0 ≤ n ∧ n ≤ 6) (h4 : LL.length ≤ 4) (h : ∀ x ∈ LL, (x.1.length : Int) = n ∧ ∀ y ∈ x.1, y.good) : SGood ⟨min l.first 14, l.step, l.span, l.press⟩ (rowsOf LL) := by
 have h1 := hl.first
 have h2 := hl.step
 have h3 := hl.span
 have h5 := hl.press
 have h6 := mostD_bd n
 have hN : LL = [] ∨ (notesP (rowsOf LL) : Int) = n := by
   cases LL with
   | nil => exact .inl rfl
   | cons a r => exact .inr (h a List.mem_cons_self).1
 refine ⟨⟨by dsimp only; omega, by dsimp only; omega, by dsimp only; omega, by dsimp only; omega⟩, by simpa using h4, fun x hx => ?_, fun k hk => ?_⟩
 · obtain ⟨y, hy, rfl⟩ := List.mem_map.1 hx
   obtain ⟨a, b⟩ := h y hy
   rcases hN with rfl | hN
   · cases hy
   · exact ⟨by omega, by omega, b⟩
 · rcases hN with rfl | hN
   · simp [notesP] at hk
   · have := step_bd (k := (k : Int)) h2 (by omega)
     unfold dueO
     rw [decide_eq_true_eq]
     dsimp only
     omega
theorem odds_any (s : Int) (bp : Nat) (n m : Int) (w : World) (hn : 0 ≤ n ∧ n ≤ 1000) (hm : 1 ≤ m ∧ m ≤ 1000) (hp : Bk w bp #[.int .u64 s]) (hs : u64ok s) :
   Calls Try.prog 52 #[.pointer (some ⟨bp, 0, none⟩), .int .i64 n, .int .i64 m] w (OddsPost bp w) := by
 refine px_enter (fun b => b = bp) Try.func52 rfl 13 rfl [.pointer (some ⟨bp, 0, none⟩), .int .i64 n, .int .i64 m] rfl rfl (Mem.initEx (p := .cells [.int .u64 s]) hp) ?_
 intro ac wc T M
 refine wp_seq ?_
 refine wp_region_lit ?_
 refine lq T (rn_assign rfl evc) ?_; clear T ac; intro ac T
 refine wpList_nil ?_
 replace T := T.pick [1, 2, 3] rfl
 refine nm_then ?_
 refine wp_seq ?_
 refine wp_region_lit ?_
 refine lq T (rn_move rfl (T.ev 0 rfl)) ?_; clear T ac; intro ac T
 refine lq T (rn_move rfl (T.ev 3 rfl)) ?_; clear T ac; intro ac T
 refine lq T (rn_sub rfl (T.ev 0 rfl) evc (by omega)) ?_; clear T ac; intro ac T
 refine l_w rfl ?_; intro K hK
 refine ow_call (first := []) (cap := []) T rfl rfl rfl rfl evf (.cons (T.ev 2 rfl) (.cons (T.ev 0 rfl) .nil)) Try.func39 rfl rfl ?_
 refine Calls.mono (upto_any _ bp (m - 1) _ (by omega) (by omega) (M.nth 0 rfl) hs) ?_
 clear T
 rintro e wc ⟨xu1, su1, hxu1, hsu1, rfl, hgr, hbk⟩
 intro ac T
 replace M := M.callC (cs' := [.int .u64 su1]) .head hgr hbk
 clear hgr hbk
 refine sh_out hK _ _ ?_; clear hK K
 refine lq T (rn_move rfl (T.ev 5 rfl)) ?_; clear T ac; intro ac T
 refine lq T (rn_lss rfl (T.ev 1 rfl) (T.ev 0 rfl)) ?_; clear T ac; intro ac T
 refine lq T (rn_assign rfl (T.ev 0 rfl)) ?_; clear T ac; intro ac T
 refine wpList_nil ?_
 replace T := T.pick [0] rfl
 refine nm_then ?_
 refine wp_ret ?_
 refine rt_1 T rfl (T.ev 0 rfl) ?_
 exact ⟨_, _, hsu1, rfl, M.grown, M.nth 0 rfl⟩
theorem pick_any (s : Int) (bp : Nat) (n : Int) (w : World) (hn : 0 ≤ n ∧ n ≤ 1000) (hp : Bk w bp #[.int .u64 s]) (hs : u64ok s) :
   Calls Try.prog 14 #[.pointer (some ⟨bp, 0, none⟩), .int .i64 n] w (PickPost bp n w) := by
 refine px_enter (fun b => b = bp) Try.func14 rfl 19 rfl [.pointer (some ⟨bp, 0, none⟩), .int .i64 n] rfl rfl (Mem.initEx (p := .cells [.int .u64 s]) hp) ?_
 intro ac wc T M
 refine wp_seq ?_
 refine wp_region_lit ?_
 refine lq T (rn_assign rfl evc) ?_; clear T ac; intro ac T
 refine wpList_nil ?_
 replace T := T.pick [1, 2] rfl
 refine nm_then ?_
 refine wp_seq ?_
 refine wp_region_lit ?_
 refine lq T (rn_assign rfl evc) ?_; clear T ac; intro ac T
 refine wpList_nil ?_
 refine nm_then ?_
 refine wp_seq ?_
 refine wp_seq ?_
 refine wp_region_lit ?_
 refine lq T (rn_assign rfl evc) ?_; clear T ac; intro ac T
 refine wpList_nil ?_
 refine nm_then ?_
 refine wp_block ?_
 refine wp_loop_n (fun mz ac wc => ∃ (i : Int) (ol : List Int) (A3 : Option Addr) (c3 : Nat) (s : Int) (Io : List (Nat × BA)), mz = (n - i).toNat ∧ (0 ≤ i ∧ i ≤ n) ∧ (Asc i ol) ∧ ((ol.length : Int) ≤ i) ∧ (u64ok s) ∧ (Sl 3 1 (.slice A3 ol.length c3) ol.length (ic ol) Io) ∧ Tm ac 19 [(0, .pointer (some ⟨bp, 0, none⟩)), (1, .int .i64 n), (5, .slice A3 ol.length c3), (6, .int .i64 i)] ∧ Mem w (fun b => b = bp) wc ((bp, .cells [.int .u64 s]) :: Io)) ?_ ?_
 ·exact ⟨_, 0, [], none, 0, _, [], rfl, (by omega), (Asc.nil _), (by simp), hs, (Sl.nil _ _), T.pick [2, 3, 1, 0] rfl, M.mask [true] rfl⟩
 clear T M
 rintro mz ac wc ⟨i, ol, A3, c3, s, Io, hmm1, hi, ha, hol, hs, hsl, T, M⟩
 refine wp_seq ?_
 refine wp_seq ?_
 refine wp_region_lit ?_
 refine lq T (rn_move rfl (T.ev 3 rfl)) ?_; clear T ac; intro ac T
 refine lq T (rn_move rfl (T.ev 2 rfl)) ?_; clear T ac; intro ac T
 refine lq T (rn_lss rfl (T.ev 1 rfl) (T.ev 0 rfl)) ?_; clear T ac; intro ac T
 refine wpList_nil ?_
 replace T := T.pick [0, 3, 4, 5, 6] rfl
 refine nm_then ?_
 refine wp_if (T.ev 0 rfl) ?_ ?_
 ·intro h1
  refine wp_skip ?_
  refine nm_then ?_
  refine wp_seq ?_
  refine wp_block ?_
  refine wp_seq ?_
  refine wp_region_lit ?_
  refine lq T (rn_move rfl (T.ev 1 rfl)) ?_; clear T ac; intro ac T
  refine l_w rfl ?_; intro K hK
  refine ow_call (first := []) (cap := []) T rfl rfl rfl rfl evf (.cons (T.ev 0 rfl) (.cons evc (.cons evc .nil))) Try.func52 rfl rfl ?_
  refine Calls.mono (odds_any _ bp 1 2 _ (by omega) (by omega) (M.nth 0 rfl) hs) ?_
  clear T
  rintro e wc ⟨bu1, su1, hsu1, rfl, hgr, hbk⟩
  intro ac T
  replace M := M.callC (cs' := [.int .u64 su1]) .head hgr hbk
  clear hgr hbk
  refine sh_out hK _ _ ?_; clear hK K
  refine wpList_nil ?_
  replace T := T.pick [0, 3, 4, 5, 6] rfl
  refine nm_then ?_
  refine wp_cond_split (T.ev 0 rfl) ?_ ?_
  ·intro h2
   refine wp_region_lit ?_
   refine lq T (rn_move rfl (T.ev 3 rfl)) ?_; clear T ac; intro ac T
   refine lq T (rn_move rfl (T.ev 5 rfl)) ?_; clear T ac; intro ac T
   refine l_w rfl ?_; intro K hK
   refine ow_bs (e := 3) [.int .i64 i] M T rfl rfl rfl rfl (.cons (T.ev 0 rfl) .nil) (fun _ => by kernel_rfl) ?_; clear M T; intro g1 wc ac M T
   refine sh_out hK _ _ ?_; clear hK K
   refine l_w rfl ?_; intro K hK
   refine ow_app ([(g1, .cells [.int .i64 i]), (bp, .cells [.int .u64 su1])]) Try.info3 hsl M (by first | rfl | simp) T rfl rfl rfl rfl Try.underlying22 rfl rfl rfl (by omega) (T.ev 2 rfl) (T.ev 0 rfl) (nthE_mem (i := 0) rfl) rfl rfl ?_; clear M T; intro ga1 cga1 wc ac M T
   refine sh_out hK _ _ ?_; clear hK K
   refine l_q (v := (.slice (some ⟨ga1, 0, none⟩) (ol.length + 1) cga1)) (T.pick [0, 1, 2, 3, 4, 5, 6, 8] rfl) rfl rfl rfl rfl (rn_assign rfl (T.ev 0 rfl)) ?_; clear T ac; intro ac T
   refine wpList_nil ?_
   replace T := T.pick [0, 6, 7, 8] rfl
   replace M := M.mask [true, false, true] rfl
   refine nm_blk ?_
   refine nm_then ?_
   refine wp_region_lit ?_
   refine lq T (rn_move rfl (T.ev 3 rfl)) ?_; clear T ac; intro ac T
   refine lq T (rn_add rfl (T.ev 0 rfl) evc (by omega)) ?_; clear T ac; intro ac T
   refine l_q (v := (.int .i64 (i + 1))) (T.pick [0, 1, 2, 3, 4] rfl) rfl rfl rfl rfl (rn_assign rfl (T.ev 0 rfl)) ?_; clear T ac; intro ac T
   refine wpList_nil ?_
   replace T := T.pick [0, 3, 4, 5] rfl
   refine nm_then ?_
   have e9 : ol.length + 1 = (ol ++ [i]).length := by simp
   have e8 : ((ic ol) ++ [.int .i64 i]) = ic (ol ++ [i]) := by rw [← ic_snoc]
   rw [e9, e8] at M
   rw [e9] at T
   clear e9 e8
   exact ⟨_, by omega, (i + 1), (ol ++ [i]), _, _, su1, [(ga1, .row 3 1 (ol ++ [i]).length (ic (ol ++ [i])) cga1)], rfl, (by omega), (ha.snoc (by omega)), (by simp only [List.length_append, List.length_cons, List.length_nil]; omega), hsu1, (Sl.row _ _ _ _ _ _), T.pick [2, 3, 1, 0] rfl, M.perm [1, 0] rfl rfl⟩
  intro h2
  refine wp_skip ?_
  refine nm_blk ?_
  refine nm_then ?_
  refine wp_region_lit ?_
  refine lq T (rn_move rfl (T.ev 4 rfl)) ?_; clear T ac; intro ac T
  refine lq T (rn_add rfl (T.ev 0 rfl) evc (by omega)) ?_; clear T ac; intro ac T
  refine l_q (v := (.int .i64 (i + 1))) (T.pick [0, 1, 2, 3, 4, 5] rfl) rfl rfl rfl rfl (rn_assign rfl (T.ev 0 rfl)) ?_; clear T ac; intro ac T
  refine wpList_nil ?_
  replace T := T.pick [0, 4, 5, 6] rfl
  refine nm_then ?_
  exact ⟨_, by omega, (i + 1), ol, _, _, su1, Io, rfl, (by omega), (ha.more (by omega)), (by omega), hsu1, hsl, T.pick [1, 2, 3, 0] rfl, M.permT [0] 1 rfl rfl rfl rfl⟩
 intro h1
 refine wp_exit ?_
 refine ex_then ?_
 refine ex_then ?_
 refine ex_hit ?_
 refine nm_then ?_
 refine wp_seq ?_
 refine wp_region_lit ?_
 refine lq T (rn_move rfl (T.ev 3 rfl)) ?_; clear T ac; intro ac T
 refine lq T (rn_assign rfl (T.ev 0 rfl)) ?_; clear T ac; intro ac T
 refine wpList_nil ?_
 replace T := T.pick [0] rfl
 refine nm_then ?_
 refine wp_ret ?_
 refine rt_1 T rfl (T.ev 0 rfl) ?_
 obtain ⟨b9, o9, h9⟩ := hsl.spV (by rw [ic_length]; omega)
 have hcap := hsl.cap M (.cons _ (List.Sublist.refl _))
 exact ⟨ol, A3, c3, _, Io, rfl, ha.more (by omega), hs, hcap, ⟨b9, o9, h9⟩, Mem.swapI (I := [(bp, .cells [.int .u64 s])]) (L := Io) (M.mask [true] rfl)⟩
theorem sungOf_any (s : Int) (bp : Nat) (x : Snd) (w : World) (gx : x.good) (hp : Bk w bp #[.int .u64 s]) (hs : u64ok s) :
   Calls Try.prog 42 #[.pointer (some ⟨bp, 0, none⟩), .agg #[.int .i64 x.t0, .int .i64 x.t1, .int .i64 x.s0, .int .i64 x.s1]] w (SungPost bp x w) := by
 have ⟨gx1, gx2⟩ := gx
 refine px_enter (fun b => b = bp) Try.func42 rfl 14 rfl [.pointer (some ⟨bp, 0, none⟩), .agg #[.int .i64 x.t0, .int .i64 x.t1, .int .i64 x.s0, .int .i64 x.s1]] rfl rfl (Mem.initEx (p := .cells [.int .u64 s]) hp) ?_
 intro ac wc T M
 refine wp_seq ?_
 refine wp_region_lit ?_
 refine l_w rfl ?_; intro K hK
 refine ow_bx M T rfl rfl rfl rfl (T.ev 1 rfl) rfl ?_; clear M T; intro g1 wc ac M T
 refine sh_out hK _ _ ?_; clear hK K
 refine l_w rfl ?_; intro K hK
 refine ow_al M T rfl rfl rfl rfl ?_; clear M T; intro g2 wc ac M T
 refine sh_out hK _ _ ?_; clear hK K
 refine wpList_nil ?_
 replace T := T.pick [0, 1, 2] rfl
 refine nm_then ?_
 refine wp_seq ?_
 refine g_start2 M (M.perm [1] rfl rfl) 10 (by kernel_rfl) rfl (by kernel_rfl) ?_
 clear M; intro wc M
 refine g_addG 3 M ?_
 refine g_addG 9 (M.perm [0, 1] rfl rfl) ?_
 refine gq T 0 1 rfl (fun _ _ _ _ _ => (rn_move rfl (T.ev 2 rfl))) ?_; clear T ac; intro ac T
 refine gq (v := (.pointer (some ⟨g1, 0, none⟩))) T 1 3 rfl (fun _ _ _ _ _ => (rn_fieldAddr (off := 0) rfl (T.ev 2 rfl) (fun _ _ _ => by kernel_rfl))) ?_; clear T ac; intro ac T
 refine gq T 2 7 rfl (fun B w' hD hl hS => (rn_rowO (Mem.nth (show Mem w (fun b => b = bp) w' _ from ((MA.lft hS) (hD.wait (i := 2) (m := 9) (by kernel_rfl) hl))) 1 rfl) rfl (T.ev 0 rfl) rfl)) ?_; clear T ac; intro ac T
 refine gq T 4 23 rfl (fun _ _ _ _ _ => (rn_move rfl (T.ev 5 rfl))) ?_; clear T ac; intro ac T
 refine gq (v := (.pointer (some ⟨g1, 2, none⟩))) T 5 55 rfl (fun _ _ _ _ _ => (rn_fieldAddr (off := 2) rfl (T.ev 5 rfl) (fun _ _ _ => by kernel_rfl))) ?_; clear T ac; intro ac T
 refine gq T 6 119 rfl (fun B w' hD hl hS => (rn_rowO (Mem.nth (show Mem w (fun b => b = bp) w' _ from ((MA.lft hS) (hD.wait (i := 6) (m := 9) (by kernel_rfl) hl))) 1 rfl) rfl (T.ev 0 rfl) rfl)) ?_; clear T ac; intro ac T
 refine gw 3 127 ?_; intro K hK
 refine ow_call (first := []) (cap := []) T rfl rfl rfl rfl evf (.cons (T.ev 5 rfl) (.cons (T.ev 3 rfl) .nil)) Try.func38 rfl rfl ?_
 refine Calls.mono (inner_any _ bp x.t0 x.t1 _ (by omega) (by omega) (by omega) (M.nth 2 rfl) hs) ?_
 clear T
 rintro e wc ⟨xu1, su1, hxu1, hsu1, rfl, hgr, hbk⟩
 intro ac T
 replace M := M.callC (cs' := [.int .u64 su1]) (.tail (.tail .head)) hgr hbk
 clear hgr hbk
 refine sh_out hK _ _ (MA.mk (fun _ => M.mask [true, true, false] rfl) (MA.mk (fun h => (no_of (by kernel_rfl) h).elim) (M.mask [false, true, false] rfl))) ?_; clear hK K
 refine gw 7 255 ?_; intro K hK
 refine ow_call (first := []) (cap := []) T rfl rfl rfl rfl evf (.cons (T.ev 3 rfl) (.cons (T.ev 1 rfl) .nil)) Try.func38 rfl rfl ?_
 refine Calls.mono (inner_any _ bp x.s0 x.s1 _ (by omega) (by omega) (by omega) (M.nth 2 rfl) hsu1) ?_
 clear T
 rintro e wc ⟨xu2, su2, hxu2, hsu2, rfl, hgr, hbk⟩
 intro ac T
 replace M := M.callC (cs' := [.int .u64 su2]) (.tail (.tail .head)) hgr hbk
 clear hgr hbk
 refine sh_out hK _ _ (MA.mk (fun _ => M.mask [true, true, false] rfl) (MA.mk (fun h => (no_of (by kernel_rfl) h).elim) (M.mask [false, true, false] rfl))) ?_; clear hK K
 refine gq (v := (.agg #[.int .i64 xu1, .int .i64 xu2])) T 8 511 rfl (fun _ _ _ _ _ => (rn_build rfl (.cons (T.ev 1 rfl) (.cons (T.ev 0 rfl) .nil)) (fun _ => by kernel_rfl))) ?_; clear T ac; intro ac T
 refine gw 9 1023 ?_; intro K hK
 refine ow_stO M T rfl rfl (T.ev 9 rfl) (T.ev 0 rfl) rfl .head rfl (by simp) rfl (by kernel_rfl) ?_; clear M T; intro wc ac M T
 refine sh_out hK _ _ (MA.mk (fun h => (no_of (by kernel_rfl) h).elim) (MA.mk (fun h => (no_of (by kernel_rfl) h).elim) (M.mask [false, true, false] rfl))) ?_; clear hK K
 refine g_done (by kernel_rfl) ?_
 replace T := T.pick [9] rfl
 replace M := M.mask [true, false, true] rfl
 refine nm_then ?_
 refine wp_ret ?_
 refine rt_c M T rfl (T.ev 0 rfl) (nthE_mem (i := 0) rfl) rfl ?_
 exact ⟨xu1, xu2, _, (by omega), hsu2, rfl, M.grown, M.nth 1 rfl⟩
set_option maxHeartbeats 2000000 in
theorem scaleOf_any (s : Int) (bp : Nat) (rw nt wide : Int) (w : World) (hrw : 0 ≤ rw ∧ rw ≤ 40) (hnt : 0 ≤ nt ∧ nt ≤ 40) (hw : 0 ≤ wide ∧ wide ≤ 40) (hp : Bk w bp #[.int .u64 s]) (hs : u64ok s) :
   Calls Try.prog 13 #[.pointer (some ⟨bp, 0, none⟩), .int .i64 rw, .int .i64 nt, .int .i64 wide] w (ScaleOfPost bp w) := by
 refine px_enter (fun b => b = bp) Try.func13 rfl 97 rfl [.pointer (some ⟨bp, 0, none⟩), .int .i64 rw, .int .i64 nt, .int .i64 wide] rfl rfl (Mem.initEx (p := .cells [.int .u64 s]) hp) ?_
 intro ac wc T M
 refine wp_seq ?_
 refine wp_region_lit ?_
 refine l_w rfl ?_; intro K hK
 refine ow_al M T rfl rfl rfl rfl ?_; clear M T; intro g1 wc ac M T
 refine sh_out hK _ _ ?_; clear hK K
 refine wpList_nil ?_
 refine nm_then ?_
 refine wp_seq ?_
 refine wp_region_lit ?_
 refine lq T (rn_move rfl (T.ev 1 rfl)) ?_; clear T ac; intro ac T
 refine lq T (rn_move rfl (T.ev 4 rfl)) ?_; clear T ac; intro ac T
 refine lq T (rn_min2 rfl (T.ev 0 rfl) evc) ?_; clear T ac; intro ac T
 refine l_w rfl ?_; intro K hK
 refine ow_call (first := []) (cap := []) T rfl rfl rfl rfl evf (.cons (T.ev 2 rfl) (.cons (T.ev 0 rfl) .nil)) Try.func39 rfl rfl ?_
 refine Calls.mono (upto_any _ bp (min nt 6) _ (by omega) (by omega) (M.nth 1 rfl) hs) ?_
 clear T
 rintro e wc ⟨xu1, su1, hxu1, hsu1, rfl, hgr, hbk⟩
 intro ac T
 replace M := M.callC (cs' := [.int .u64 su1]) (.tail .head) hgr hbk
 clear hgr hbk
 refine sh_out hK _ _ ?_; clear hK K
 refine lq T (rn_assign rfl (T.ev 0 rfl)) ?_; clear T ac; intro ac T
 refine wpList_nil ?_
 replace T := T.pick [0, 5, 6, 7, 9] rfl
 refine nm_then ?_
 refine wp_seq ?_
 refine wp_region_lit ?_
 refine lq T (rn_move rfl (T.ev 2 rfl)) ?_; clear T ac; intro ac T
 refine lq T (rn_move rfl (T.ev 1 rfl)) ?_; clear T ac; intro ac T
 refine l_w rfl ?_; intro K hK
 refine ow_call (first := []) (cap := []) T rfl rfl rfl rfl evf (.cons (T.ev 1 rfl) (.cons (T.ev 0 rfl) .nil)) Try.func51 rfl rfl ?_
 refine Calls.mono (lawOf_any _ bp xu1 _ (by omega) (M.nth 1 rfl) hsu1) ?_
 clear T
 rintro e wc ⟨lu2, su2, hlu2, hsu2, rfl, hgr, hbk⟩
 intro ac T
 replace M := M.callC (cs' := [.int .u64 su2]) (.tail .head) hgr hbk
 clear hgr hbk
 have hlfu2 := hlu2.first
 have hlsu2 := hlu2.step
 have hlpu2 := hlu2.span
 have hlqu2 := hlu2.press
 have hmdu2 := mostD_bd xu1
 refine sh_out hK _ _ ?_; clear hK K
 refine lq (v := (.agg #[.int .i64 lu2.first, .int .i64 lu2.step, .int .i64 lu2.span, .int .i64 lu2.press, .slice none 0 0])) T (rn_build rfl (.cons (T.ev 0 rfl) .nil) (fun _ => by kernel_rfl)) ?_; clear T ac; intro ac T
 refine l_w rfl ?_; intro K hK
 refine ow_al M T rfl rfl rfl rfl ?_; clear M T; intro g2 wc ac M T
 refine sh_out hK _ _ ?_; clear hK K
 refine l_w rfl ?_; intro K hK
 refine ow_stO M T rfl rfl (T.ev 0 rfl) (T.ev 1 rfl) rfl .head rfl (by simp) rfl (by kernel_rfl) ?_; clear M T; intro wc ac M T
 refine sh_out hK _ _ ?_; clear hK K
 refine wpList_nil ?_
 replace T := T.pick [0, 5, 6, 7, 8, 9] rfl
 refine nm_then ?_
 refine wp_seq ?_
 refine wp_region_lit ?_
 refine lq (v := (.pointer (some ⟨g2, 0, none⟩))) T (rn_fieldAddr (off := 0) rfl (T.ev 0 rfl) (fun _ _ _ => by kernel_rfl)) ?_; clear T ac; intro ac T
 refine lq (v := (.pointer (some ⟨g2, 0, none⟩))) T (rn_fieldAddr (off := 0) rfl (T.ev 0 rfl) (fun _ _ _ => by kernel_rfl)) ?_; clear T ac; intro ac T
 refine lq T (rn_one (Mem.nth M 0 rfl) rfl (T.ev 0 rfl) rfl) ?_; clear T ac; intro ac T
 refine lq T (rn_min2 rfl (T.ev 0 rfl) evc) ?_; clear T ac; intro ac T
 refine lq (v := (.pointer (some ⟨g2, 0, none⟩))) T (rn_fieldAddr (off := 0) rfl (T.ev 4 rfl) (fun _ _ _ => by kernel_rfl)) ?_; clear T ac; intro ac T
 refine lq (v := (.pointer (some ⟨g2, 0, none⟩))) T (rn_fieldAddr (off := 0) rfl (T.ev 0 rfl) (fun _ _ _ => by kernel_rfl)) ?_; clear T ac; intro ac T
 refine l_w rfl ?_; intro K hK
 refine ow_stO M T rfl rfl (T.ev 0 rfl) (T.ev 2 rfl) rfl .head rfl (by simp) rfl (by kernel_rfl) ?_; clear M T; intro wc ac M T
 refine sh_out hK _ _ ?_; clear hK K
 refine wpList_nil ?_
 replace T := T.pick [6, 7, 8, 9, 10, 11] rfl
 refine nm_then ?_
 refine wp_seq ?_
 refine wp_seq ?_
 refine wp_region_lit ?_
 refine lq T (rn_move rfl (T.ev 3 rfl)) ?_; clear T ac; intro ac T
 refine lq T (rn_move rfl (T.ev 5 rfl)) ?_; clear T ac; intro ac T
 refine lq T (rn_min2 rfl (T.ev 0 rfl) evc) ?_; clear T ac; intro ac T
 refine l_w rfl ?_; intro K hK
 refine ow_call (first := []) (cap := []) T rfl rfl rfl rfl evf (.cons (T.ev 2 rfl) (.cons (T.ev 0 rfl) .nil)) Try.func39 rfl rfl ?_
 refine Calls.mono (upto_any _ bp (min rw 4) _ (by omega) (by omega) (M.nth 2 rfl) hsu2) ?_
 clear T
 rintro e wc ⟨xu3, su3, hxu3, hsu3, rfl, hgr, hbk⟩
 intro ac T
 replace M := M.callC (cs' := [.int .u64 su3]) (.tail (.tail .head)) hgr hbk
 clear hgr hbk
 refine sh_out hK _ _ ?_; clear hK K
 refine lq T (rn_assign rfl (T.ev 0 rfl)) ?_; clear T ac; intro ac T
 refine wpList_nil ?_
 replace T := T.pick [0, 5, 6, 7, 8, 10] rfl
 refine nm_then ?_
 refine wp_block ?_
 refine wp_loop_n (fun mz ac wc => ∃ (i : Int) (RL : List LS) (A3 : Option Addr) (c3 : Nat) (s : Int) (Ie Io : List (Nat × BA)), mz = i.toNat ∧ (0 ≤ i) ∧ ((RL.length : Int) + i = xu3) ∧ (∀ z ∈ RL, (z.1.length : Int) = xu1 ∧ ∀ y ∈ z.1, y.good) ∧ (ElsR RL Ie) ∧ (u64ok s) ∧ (Sl 38 1 (.slice A3 RL.length c3) RL.length (lsC RL) Io) ∧ Tm ac 97 [(0, .pointer (some ⟨bp, 0, none⟩)), (3, .int .i64 wide), (8, .pointer (some ⟨g1, 0, none⟩)), (9, .int .i64 xu1), (10, .pointer (some ⟨g2, 0, none⟩)), (11, .int .i64 i)] ∧ Mem w (fun b => b = bp) wc ((g2, .cells [.int .i64 (min lu2.first 14), .int .i64 lu2.step, .int .i64 lu2.span, .int .i64 lu2.press, .slice A3 RL.length c3]) :: (g1, .cells [.int .i64 0, .int .i64 0, .int .i64 0, .int .i64 0, .slice none 0 0]) :: (bp, .cells [.int .u64 s]) :: (Ie ++ Io))) ?_ ?_
 ·exact ⟨_, _, [], none, 0, _, [], [], rfl, (by omega), (by simp), (fun z hz => by cases hz), (fun z hz => by cases hz), hsu3, (Sl.nil _ _), T.pick [4, 5, 3, 2, 1, 0] rfl, (by simp only [List.append_nil]; exact M)⟩
 clear T M
 rintro mz ac wc ⟨i, RL, A3, c3, s, Ie, Io, hmm1, hi, hRl, hgo, hEl, hs, hsl, T, M⟩
 refine wp_seq ?_
 refine wp_seq ?_
 refine wp_region_lit ?_
 refine lq T (rn_move rfl (T.ev 5 rfl)) ?_; clear T ac; intro ac T
 refine lq T (rn_gtr rfl (T.ev 0 rfl) evc) ?_; clear T ac; intro ac T
 refine wpList_nil ?_
 replace T := T.pick [0, 2, 3, 4, 5, 6, 7] rfl
 refine nm_then ?_
 refine wp_if (T.ev 0 rfl) ?_ ?_
 ·intro h1
  obtain ⟨b3, o3, h3⟩ := hsl.spV (by rw [lsC_length]; omega)
  have S3 := h3 w (fun b => b = bp)
  refine wp_skip ?_
  refine nm_then ?_
  refine wp_seq ?_
  refine wp_block ?_
  refine wp_seq ?_
  refine wp_region_lit ?_
  refine lq T (rn_assign rfl evc) ?_; clear T ac; intro ac T
  refine wpList_nil ?_
  replace T := T.pick [0, 2, 3, 4, 5, 6, 7] rfl
  refine nm_then ?_
  refine wp_seq ?_
  refine wp_seq ?_
  refine wp_region_lit ?_
  refine lq T (rn_assign rfl evc) ?_; clear T ac; intro ac T
  refine wpList_nil ?_
  refine nm_then ?_
  refine wp_block ?_
  refine wp_loop_n (fun mz ac wc => ∃ (k : Nat) (ol : List Snd) (A4 : Option Addr) (c4 : Nat) (s : Int) (I4 : List (Nat × BA)), mz = (xu1 - k).toNat ∧ ((k : Int) ≤ xu1) ∧ (ol.length = k) ∧ (∀ y ∈ ol, y.good) ∧ (u64ok s) ∧ (Sl 48 4 (.slice A4 ol.length c4) ol.length (sc ol) I4) ∧ Tm ac 97 [(0, .pointer (some ⟨bp, 0, none⟩)), (3, .int .i64 wide), (8, .pointer (some ⟨g1, 0, none⟩)), (9, .int .i64 xu1), (10, .pointer (some ⟨g2, 0, none⟩)), (11, .int .i64 i), (12, .slice A4 ol.length c4), (13, .int .i64 (k : Int))] ∧ Mem w (fun b => b = bp) wc ((g2, .cells [.int .i64 (min lu2.first 14), .int .i64 lu2.step, .int .i64 lu2.span, .int .i64 lu2.press, .slice A3 RL.length c3]) :: (g1, .cells [.int .i64 0, .int .i64 0, .int .i64 0, .int .i64 0, .slice none 0 0]) :: (bp, .cells [.int .u64 s]) :: (Ie ++ Io ++ I4))) ?_ ?_
  ·exact ⟨_, 0, [], none, 0, _, [], rfl, (by omega), rfl, (fun z hz => by cases hz), hs, (Sl.nil _ _), T.pick [2, 3, 4, 5, 6, 7, 1, 0] rfl, (by simp only [List.append_nil]; exact M)⟩
  clear T M
  rintro mz ac wc ⟨k, ol, A4, c4, s, I4, hmm2, hk4, hol, hg4, hs4, hsl4, T, M⟩
  refine wp_seq ?_
  refine wp_seq ?_
  refine wp_region_lit ?_
  refine lq T (rn_move rfl (T.ev 7 rfl)) ?_; clear T ac; intro ac T
  refine lq T (rn_move rfl (T.ev 4 rfl)) ?_; clear T ac; intro ac T
  refine lq T (rn_lss rfl (T.ev 1 rfl) (T.ev 0 rfl)) ?_; clear T ac; intro ac T
  refine wpList_nil ?_
  replace T := T.pick [0, 3, 4, 5, 6, 7, 8, 9, 10] rfl
  refine nm_then ?_
  refine wp_if (T.ev 0 rfl) ?_ ?_
  ·intro h2
   have hst := step_bd (k := (k : Int)) hlu2.step (by omega)
   refine wp_skip ?_
   refine nm_then ?_
   refine wp_seq ?_
   refine wp_block ?_
   refine wp_seq ?_
   refine wp_region_lit ?_
   refine lq T (rn_move rfl (T.ev 1 rfl)) ?_; clear T ac; intro ac T
   refine l_w rfl ?_; intro K hK
   refine ow_call (first := []) (cap := []) T rfl rfl rfl rfl evf (.cons (T.ev 0 rfl) (.cons evc (.cons evc .nil))) Try.func19 rfl rfl ?_
   refine Calls.mono (within_pot _ bp (-8) 0 _ (by omega) (by omega) (by omega) (M.nth 2 rfl) hs4) ?_
   clear T
   rintro e wc ⟨xu4, su4, hxu4, hsu4, rfl, hgr, hbk⟩
   intro ac T
   replace M := M.callC (cs' := [.int .u64 su4]) (.tail (.tail .head)) hgr hbk
   clear hgr hbk
   refine sh_out hK _ _ ?_; clear hK K
   refine lq T (rn_assign rfl (T.ev 0 rfl)) ?_; clear T ac; intro ac T
   refine wpList_nil ?_
   replace T := T.pick [0, 4, 5, 6, 7, 8, 9, 10, 11] rfl
   refine nm_then ?_
   refine wp_seq ?_
   refine wp_seq ?_
   refine wp_region_lit ?_
   refine lq (v := (.pointer (some ⟨g2, 4, none⟩))) T (rn_fieldAddr (off := 4) rfl (T.ev 5 rfl) (fun _ _ _ => by kernel_rfl)) ?_; clear T ac; intro ac T
   refine lq T (rn_one (Mem.nth M 0 rfl) rfl (T.ev 0 rfl) rfl) ?_; clear T ac; intro ac T
   refine lq T (rn_lenS rfl Try.underlying27 (T.ev 0 rfl)) ?_; clear T ac; intro ac T
   refine lq T (rn_assign rfl (T.ev 0 rfl)) ?_; clear T ac; intro ac T
   refine wpList_nil ?_
   replace T := T.pick [0, 4, 5, 6, 7, 8, 9, 10, 11, 12] rfl
   refine nm_then ?_
   refine wp_seq ?_
   refine wp_region_lit ?_
   refine lq T (rn_move rfl (T.ev 0 rfl)) ?_; clear T ac; intro ac T
   refine lq T (rn_gtr rfl (T.ev 0 rfl) evc) ?_; clear T ac; intro ac T
   refine wpList_nil ?_
   replace T := T.pick [0, 2, 3, 4, 5, 6, 7, 8, 9, 10, 11] rfl
   refine nm_then ?_
   refine wp_if (T.ev 0 rfl) ?_ ?_
   ·intro h3
    obtain ⟨ab, hab⟩ : ∃ q : Nat, ((RL.length : Nat) : Int) - 1 = (q : Int) := ⟨RL.length - 1, by omega⟩
    obtain ⟨⟨xr, Br, dr⟩, hkx⟩ : ∃ x, RL[ab]? = some x := ⟨_, List.getElem?_eq_getElem (by omega)⟩
    have hgr := hgo _ (List.mem_of_getElem? hkx)
    dsimp only at hgr
    obtain ⟨y, hky, -⟩ := sc_next (l := xr) (k := k) (by omega)
    have ⟨gy1, gy2⟩ := hgr.2 y (List.mem_of_getElem? hky)
    obtain ⟨br, orr, hSr⟩ := hEl _ (List.mem_of_getElem? hkx)
    have Sr := hSr w (fun b => b = bp)
    dsimp only at Sr
    refine g_start2 M (M.mask [true, true, false] rfl) 34 (by kernel_rfl) rfl (by kernel_rfl) ?_
    clear M; intro wc M
    refine g_addG 31 M ?_
    refine gq (v := (.pointer (some ⟨g2, 4, none⟩))) T 0 1 rfl (fun _ _ _ _ _ => (rn_fieldAddr (off := 4) rfl (T.ev 7 rfl) (fun _ _ _ => by kernel_rfl))) ?_; clear T ac; intro ac T
    refine gq T 1 3 rfl (fun B w' hD hl hS => (rn_one (Mem.nth (show Mem w (fun b => b = bp) w' _ from (MA.rgt hS)) 0 rfl) rfl (T.ev 0 rfl) rfl)) ?_; clear T ac; intro ac T
    refine gq T 2 7 rfl (fun _ _ _ _ _ => (rn_move rfl (T.ev 3 rfl))) ?_; clear T ac; intro ac T
    refine gq T 3 15 rfl (fun _ _ _ _ _ => (rn_sub rfl (T.ev 0 rfl) evc (by omega))) ?_; clear T ac; intro ac T
    refine gq T 4 31 rfl (fun _ _ _ _ _ => (rn_indexAddr (size := 1) ab rfl (T.ev 2 rfl) (T.ev 0 rfl) ⟨_, Try.underlying27, by kernel_rfl⟩ hab (by omega) (S3.at0 (by omega)))) ?_; clear T ac; intro ac T
    refine gq (v := (.slice Br xr.length dr)) T 5 63 rfl (fun B w' hD hl hS => (rn_cell (Sp.ls0 S3 (show Mem w (fun b => b = bp) w' _ from (MA.rgt hS)) (.cons _ (.cons _ (subL (List.sublist_append_right _ _)))) hkx) rfl (T.ev 0 rfl))) ?_; clear T ac; intro ac T
    refine gq T 6 127 rfl (fun _ _ _ _ _ => (rn_move rfl (T.ev 16 rfl))) ?_; clear T ac; intro ac T
    refine gq T 7 255 rfl (fun _ _ _ _ _ => (rn_indexAddr (size := 4) k rfl (T.ev 1 rfl) (T.ev 0 rfl) ⟨_, Try.underlying38, by kernel_rfl⟩ rfl (by omega) (Sr.at0 (by omega)))) ?_; clear T ac; intro ac T
    refine gq T 8 511 rfl (fun _ _ _ _ _ => (rn_fieldAddr (off := 0) rfl (T.ev 0 rfl) (fun _ _ _ => by kernel_rfl))) ?_; clear T ac; intro ac T
    refine gq T 9 1023 rfl (fun _ _ _ _ _ => (rn_fieldAddr (off := 0) rfl (T.ev 0 rfl) (fun _ _ _ => by kernel_rfl))) ?_; clear T ac; intro ac T
    refine gq T 10 2047 rfl (fun B w' hD hl hS => (rn_cell (Sp.scC0 Sr (show Mem w (fun b => b = bp) w' _ from (MA.rgt hS)) (.cons _ (.cons _ (subL (subL (List.Sublist.refl _))))) hky) rfl (T.ev 0 rfl))) ?_; clear T ac; intro ac T
    refine gq (v := (.pointer (some ⟨g2, 0, none⟩))) T 11 4095 rfl (fun _ _ _ _ _ => (rn_fieldAddr (off := 0) rfl (T.ev 18 rfl) (fun _ _ _ => by kernel_rfl))) ?_; clear T ac; intro ac T
    refine gq (v := (.pointer (some ⟨g2, 0, none⟩))) T 12 8191 rfl (fun _ _ _ _ _ => (rn_fieldAddr (off := 0) rfl (T.ev 0 rfl) (fun _ _ _ => by kernel_rfl))) ?_; clear T ac; intro ac T
    refine gq T 13 16383 rfl (fun B w' hD hl hS => (rn_one (Mem.nth (show Mem w (fun b => b = bp) w' _ from (MA.rgt hS)) 0 rfl) rfl (T.ev 0 rfl) rfl)) ?_; clear T ac; intro ac T
    refine gq T 14 32767 rfl (fun _ _ _ _ _ => (rn_add rfl (T.ev 3 rfl) (T.ev 0 rfl) (by omega))) ?_; clear T ac; intro ac T
    refine gq (v := (.pointer (some ⟨g2, 0, none⟩))) T 15 65535 rfl (fun _ _ _ _ _ => (rn_fieldAddr (off := 0) rfl (T.ev 22 rfl) (fun _ _ _ => by kernel_rfl))) ?_; clear T ac; intro ac T
    refine gq (v := (.pointer (some ⟨g2, 1, none⟩))) T 16 131071 rfl (fun _ _ _ _ _ => (rn_fieldAddr (off := 1) rfl (T.ev 0 rfl) (fun _ _ _ => by kernel_rfl))) ?_; clear T ac; intro ac T
    refine gq T 17 262143 rfl (fun B w' hD hl hS => (rn_one (Mem.nth (show Mem w (fun b => b = bp) w' _ from (MA.rgt hS)) 0 rfl) rfl (T.ev 0 rfl) rfl)) ?_; clear T ac; intro ac T
    refine gq T 18 524287 rfl (fun _ _ _ _ _ => (rn_move rfl (T.ev 28 rfl))) ?_; clear T ac; intro ac T
    refine gq T 19 1048575 rfl (fun _ _ _ _ _ => (rn_mul rfl (T.ev 1 rfl) (T.ev 0 rfl) (by omega))) ?_; clear T ac; intro ac T
    refine gq T 20 2097151 rfl (fun _ _ _ _ _ => (rn_add rfl (T.ev 5 rfl) (T.ev 0 rfl) (by omega))) ?_; clear T ac; intro ac T
    refine gq T 21 4194303 rfl (fun _ _ _ _ _ => (rn_move rfl (T.ev 24 rfl))) ?_; clear T ac; intro ac T
    refine gq (v := (.pointer (some ⟨g2, 0, none⟩))) T 22 8388607 rfl (fun _ _ _ _ _ => (rn_fieldAddr (off := 0) rfl (T.ev 29 rfl) (fun _ _ _ => by kernel_rfl))) ?_; clear T ac; intro ac T
    refine gq (v := (.pointer (some ⟨g2, 2, none⟩))) T 23 16777215 rfl (fun _ _ _ _ _ => (rn_fieldAddr (off := 2) rfl (T.ev 0 rfl) (fun _ _ _ => by kernel_rfl))) ?_; clear T ac; intro ac T
    refine gq T 24 33554431 rfl (fun B w' hD hl hS => (rn_one (Mem.nth (show Mem w (fun b => b = bp) w' _ from ((MA.lft hS) (hD.wait (i := 26) (m := 31) (by kernel_rfl) (hD.wait (i := 25) (m := 26) (by kernel_rfl) (hD.wait (i := 24) (m := 25) (by kernel_rfl) hl))))) 0 rfl) rfl (T.ev 0 rfl) rfl)) ?_; clear T ac; intro ac T
    refine gq T 25 67108863 rfl (fun _ _ _ _ _ => (rn_neg rfl (T.ev 0 rfl) (by omega))) ?_; clear T ac; intro ac T
    refine gq T 26 134217727 rfl (fun _ _ _ _ _ => (rn_sub rfl (T.ev 0 rfl) evc (by omega))) ?_; clear T ac; intro ac T
    refine gq (v := (.pointer (some ⟨g2, 0, none⟩))) T 27 268435455 rfl (fun _ _ _ _ _ => (rn_fieldAddr (off := 0) rfl (T.ev 34 rfl) (fun _ _ _ => by kernel_rfl))) ?_; clear T ac; intro ac T
    refine gq (v := (.pointer (some ⟨g2, 2, none⟩))) T 28 536870911 rfl (fun _ _ _ _ _ => (rn_fieldAddr (off := 2) rfl (T.ev 0 rfl) (fun _ _ _ => by kernel_rfl))) ?_; clear T ac; intro ac T
    refine gq T 29 1073741823 rfl (fun B w' hD hl hS => (rn_one (Mem.nth (show Mem w (fun b => b = bp) w' _ from ((MA.lft hS) (hD.wait (i := 30) (m := 31) (by kernel_rfl) (hD.wait (i := 29) (m := 30) (by kernel_rfl) hl)))) 0 rfl) rfl (T.ev 0 rfl) rfl)) ?_; clear T ac; intro ac T
    refine gq T 30 2147483647 rfl (fun _ _ _ _ _ => (rn_add rfl (T.ev 0 rfl) evc (by omega))) ?_; clear T ac; intro ac T
    refine gw 31 4294967295 ?_; intro K hK
    refine ow_call (first := []) (cap := []) T rfl rfl rfl rfl evf (.cons (T.ev 9 rfl) (.cons (T.ev 4 rfl) (.cons (T.ev 0 rfl) .nil))) Try.func19 rfl rfl ?_
    refine Calls.mono (within_pot _ bp ((-lu2.span) - 1) (lu2.span + 1) _ (by omega) (by omega) (by omega) (M.nth 2 rfl) hsu4) ?_
    clear T
    rintro e wc ⟨xu5, su5, hxu5, hsu5, rfl, hgr, hbk⟩
    intro ac T
    replace M := M.callC (cs' := [.int .u64 su5]) (.tail (.tail .head)) hgr hbk
    clear hgr hbk
    refine sh_out hK _ _ (MA.mk (fun h => (no_of (by kernel_rfl) h).elim) (M.mask [true, true, false] rfl)) ?_; clear hK K
    refine gq T 32 8589934591 rfl (fun _ _ _ _ _ => (rn_add rfl (T.ev 11 rfl) (T.ev 0 rfl) (by omega))) ?_; clear T ac; intro ac T
    refine g_q (v := (.int .i64 (((y.t0 + (min lu2.first 14)) + (lu2.step * (k : Int))) + xu5))) (T := T.pick [0, 1, 2, 3, 4, 5, 6, 7, 8, 9, 10, 11, 12, 13, 14, 15, 16, 17, 18, 19, 20, 21, 22, 23, 24, 25, 26, 27, 28, 29, 30, 31, 32, 33, 34, 36, 37, 38, 39, 40, 41, 42, 43] rfl) (i := 33) rfl (by kernel_rfl) (by kernel_rfl : (pbits 34 8589934591).setIfInBounds 33 true = pbits 34 17179869183) (si_and (si_G rfl) si_U) (fun _ _ _ h => h) rfl rfl rfl rfl (fun _ _ _ _ _ => (rn_assign rfl (T.ev 0 rfl))) ?_; clear T ac; intro ac T
    refine g_done (by kernel_rfl) ?_
    replace T := T.pick [0, 36, 37, 38, 39, 40, 41, 42, 43] rfl
    refine nm_then ?_
    refine wp_region_lit ?_
    refine lq T (rn_move rfl (T.ev 7 rfl)) ?_; clear T ac; intro ac T
    refine lq T (rn_move rfl (T.ev 2 rfl)) ?_; clear T ac; intro ac T
    refine lq T (rn_move rfl (T.ev 2 rfl)) ?_; clear T ac; intro ac T
    refine lq T (rn_move rfl (T.ev 5 rfl)) ?_; clear T ac; intro ac T
    refine l_w rfl ?_; intro K hK
    refine ow_call (first := []) (cap := []) T rfl rfl rfl rfl evf (.cons (T.ev 2 rfl) (.cons (T.ev 1 rfl) (.cons (T.ev 0 rfl) .nil))) Try.func20 rfl rfl ?_
    refine Calls.mono (soundOf_any _ bp (((y.t0 + (min lu2.first 14)) + (lu2.step * (k : Int))) + xu5) wide _ (by omega) (by omega) (M.nth 2 rfl) hsu5) ?_
    clear T
    rintro e wc ⟨xu6, su6, hxu6, hsu6, rfl, hgr, hbk⟩
    intro ac T
    replace M := M.callC (cs' := [.int .u64 su6]) (.tail (.tail .head)) hgr hbk
    clear hgr hbk
    refine sh_out hK _ _ ?_; clear hK K
    refine l_w rfl ?_; intro K hK
    refine ow_bs (e := 48) [.int .i64 xu6.t0, .int .i64 xu6.t1, .int .i64 xu6.s0, .int .i64 xu6.s1] M T rfl rfl rfl rfl (.cons (T.ev 0 rfl) .nil) (fun _ => by kernel_rfl) ?_; clear M T; intro g3 wc ac M T
    refine sh_out hK _ _ ?_; clear hK K
    refine l_w rfl ?_; intro K hK
    refine ow_app (((g3, .cells [.int .i64 xu6.t0, .int .i64 xu6.t1, .int .i64 xu6.s0, .int .i64 xu6.s1]) :: (g2, .cells [.int .i64 (min lu2.first 14), .int .i64 lu2.step, .int .i64 lu2.span, .int .i64 lu2.press, .slice A3 RL.length c3]) :: (g1, .cells [.int .i64 0, .int .i64 0, .int .i64 0, .int .i64 0, .slice none 0 0]) :: (bp, .cells [.int .u64 su6]) :: (Ie ++ Io))) Try.info48 hsl4 M (by first | rfl | simp) T rfl rfl rfl rfl Try.underlying38 rfl rfl rfl (by omega) (T.ev 5 rfl) (T.ev 0 rfl) (nthE_mem (i := 0) rfl) rfl rfl ?_; clear M T; intro ga1 cga1 wc ac M T
    refine sh_out hK _ _ ?_; clear hK K
    refine l_q (v := (.slice (some ⟨ga1, 0, none⟩) (ol.length + 1) cga1)) (T.pick [0, 1, 2, 3, 4, 5, 6, 7, 8, 9, 10, 11, 12, 13, 15] rfl) rfl rfl rfl rfl (rn_assign rfl (T.ev 0 rfl)) ?_; clear T ac; intro ac T
    refine wpList_nil ?_
    replace T := T.pick [0, 9, 10, 11, 12, 13, 14, 15] rfl
    replace M := M.mask [true, false, true, true, true] rfl
    refine nm_blk ?_
    refine nm_then ?_
    refine wp_region_lit ?_
    refine lq T (rn_move rfl (T.ev 7 rfl)) ?_; clear T ac; intro ac T
    refine lq T (rn_add rfl (T.ev 0 rfl) evc (by omega)) ?_; clear T ac; intro ac T
    refine l_q (v := (.int .i64 ((k : Int) + 1))) (T.pick [0, 1, 2, 3, 4, 5, 6, 7, 8] rfl) rfl rfl rfl rfl (rn_assign rfl (T.ev 0 rfl)) ?_; clear T ac; intro ac T
    refine wpList_nil ?_
    replace T := T.pick [0, 3, 4, 5, 6, 7, 8, 9] rfl
    refine nm_then ?_
    have e9 : ol.length + 1 = (ol ++ [xu6]).length := by simp
    have e8 : ((sc ol) ++ [.int .i64 xu6.t0, .int .i64 xu6.t1, .int .i64 xu6.s0, .int .i64 xu6.s1]) = sc (ol ++ [xu6]) := by rw [← sc_snoc]
    rw [e9, e8] at M
    rw [e9] at T
    clear e9 e8
    exact ⟨_, by omega, k + 1, (ol ++ [xu6]), _, _, su6, [(ga1, .row 48 4 (ol ++ [xu6]).length (sc (ol ++ [xu6])) cga1)], rfl, (by omega), (by simp [hol]), (fun z hz => by rcases List.mem_append.1 hz with h9 | h9; exact hg4 z h9; simp only [List.mem_cons, List.not_mem_nil, or_false] at h9; subst h9; exact hxu6), hsu6, (Sl.row _ _ _ _ _ _), T.pick [2, 3, 4, 5, 6, 7, 1, 0] rfl, (Mem.spin [(g2, .cells [.int .i64 (min lu2.first 14), .int .i64 lu2.step, .int .i64 lu2.span, .int .i64 lu2.press, .slice A3 RL.length c3]), (g1, .cells [.int .i64 0, .int .i64 0, .int .i64 0, .int .i64 0, .slice none 0 0]), (bp, .cells [.int .u64 su6])] [(ga1, .row 48 4 (ol ++ [xu6]).length (sc (ol ++ [xu6])) cga1)] (Ie ++ Io) (M.permT [1, 2, 3, 0] 4 rfl rfl rfl rfl))⟩
   intro h3
   refine wp_skip ?_
   refine nm_then ?_
   refine wp_region_lit ?_
   refine lq T (rn_move rfl (T.ev 9 rfl)) ?_; clear T ac; intro ac T
   refine lq T (rn_move rfl (T.ev 4 rfl)) ?_; clear T ac; intro ac T
   refine lq T (rn_move rfl (T.ev 4 rfl)) ?_; clear T ac; intro ac T
   refine lq T (rn_move rfl (T.ev 7 rfl)) ?_; clear T ac; intro ac T
   refine l_w rfl ?_; intro K hK
   refine ow_call (first := []) (cap := []) T rfl rfl rfl rfl evf (.cons (T.ev 2 rfl) (.cons (T.ev 1 rfl) (.cons (T.ev 0 rfl) .nil))) Try.func20 rfl rfl ?_
   refine Calls.mono (soundOf_any _ bp xu4 wide _ (by omega) (by omega) (M.nth 2 rfl) hsu4) ?_
   clear T
   rintro e wc ⟨xu7, su7, hxu7, hsu7, rfl, hgr, hbk⟩
   intro ac T
   replace M := M.callC (cs' := [.int .u64 su7]) (.tail (.tail .head)) hgr hbk
   clear hgr hbk
   refine sh_out hK _ _ ?_; clear hK K
   refine l_w rfl ?_; intro K hK
   refine ow_bs (e := 48) [.int .i64 xu7.t0, .int .i64 xu7.t1, .int .i64 xu7.s0, .int .i64 xu7.s1] M T rfl rfl rfl rfl (.cons (T.ev 0 rfl) .nil) (fun _ => by kernel_rfl) ?_; clear M T; intro g4 wc ac M T
   refine sh_out hK _ _ ?_; clear hK K
   refine l_w rfl ?_; intro K hK
   refine ow_app (((g4, .cells [.int .i64 xu7.t0, .int .i64 xu7.t1, .int .i64 xu7.s0, .int .i64 xu7.s1]) :: (g2, .cells [.int .i64 (min lu2.first 14), .int .i64 lu2.step, .int .i64 lu2.span, .int .i64 lu2.press, .slice A3 RL.length c3]) :: (g1, .cells [.int .i64 0, .int .i64 0, .int .i64 0, .int .i64 0, .slice none 0 0]) :: (bp, .cells [.int .u64 su7]) :: (Ie ++ Io))) Try.info48 hsl4 M (by first | rfl | simp) T rfl rfl rfl rfl Try.underlying38 rfl rfl rfl (by omega) (T.ev 5 rfl) (T.ev 0 rfl) (nthE_mem (i := 0) rfl) rfl rfl ?_; clear M T; intro ga2 cga2 wc ac M T
   refine sh_out hK _ _ ?_; clear hK K
   refine l_q (v := (.slice (some ⟨ga2, 0, none⟩) (ol.length + 1) cga2)) (T.pick [0, 1, 2, 3, 4, 5, 6, 7, 8, 9, 10, 11, 12, 13, 14, 15, 17] rfl) rfl rfl rfl rfl (rn_assign rfl (T.ev 0 rfl)) ?_; clear T ac; intro ac T
   refine wpList_nil ?_
   replace T := T.pick [0, 11, 12, 13, 14, 15, 16, 17] rfl
   replace M := M.mask [true, false, true, true, true] rfl
   refine nm_blk ?_
   refine nm_then ?_
   refine wp_region_lit ?_
   refine lq T (rn_move rfl (T.ev 7 rfl)) ?_; clear T ac; intro ac T
   refine lq T (rn_add rfl (T.ev 0 rfl) evc (by omega)) ?_; clear T ac; intro ac T
   refine l_q (v := (.int .i64 ((k : Int) + 1))) (T.pick [0, 1, 2, 3, 4, 5, 6, 7, 8] rfl) rfl rfl rfl rfl (rn_assign rfl (T.ev 0 rfl)) ?_; clear T ac; intro ac T
   refine wpList_nil ?_
   replace T := T.pick [0, 3, 4, 5, 6, 7, 8, 9] rfl
   refine nm_then ?_
   have e9 : ol.length + 1 = (ol ++ [xu7]).length := by simp
   have e8 : ((sc ol) ++ [.int .i64 xu7.t0, .int .i64 xu7.t1, .int .i64 xu7.s0, .int .i64 xu7.s1]) = sc (ol ++ [xu7]) := by rw [← sc_snoc]
   rw [e9, e8] at M
   rw [e9] at T
   clear e9 e8
   exact ⟨_, by omega, k + 1, (ol ++ [xu7]), _, _, su7, [(ga2, .row 48 4 (ol ++ [xu7]).length (sc (ol ++ [xu7])) cga2)], rfl, (by omega), (by simp [hol]), (fun z hz => by rcases List.mem_append.1 hz with h9 | h9; exact hg4 z h9; simp only [List.mem_cons, List.not_mem_nil, or_false] at h9; subst h9; exact hxu7), hsu7, (Sl.row _ _ _ _ _ _), T.pick [2, 3, 4, 5, 6, 7, 1, 0] rfl, (Mem.spin [(g2, .cells [.int .i64 (min lu2.first 14), .int .i64 lu2.step, .int .i64 lu2.span, .int .i64 lu2.press, .slice A3 RL.length c3]), (g1, .cells [.int .i64 0, .int .i64 0, .int .i64 0, .int .i64 0, .slice none 0 0]), (bp, .cells [.int .u64 su7])] [(ga2, .row 48 4 (ol ++ [xu7]).length (sc (ol ++ [xu7])) cga2)] (Ie ++ Io) (M.permT [1, 2, 3, 0] 4 rfl rfl rfl rfl))⟩
  intro h2
  replace M : Mem w (fun b => b = bp) wc ((g2, .cells [.int .i64 (min lu2.first 14), .int .i64 lu2.step, .int .i64 lu2.span, .int .i64 lu2.press, .slice A3 RL.length c3]) :: (g1, .cells [.int .i64 0, .int .i64 0, .int .i64 0, .int .i64 0, .slice none 0 0]) :: (bp, .cells [.int .u64 s]) :: (Ie ++ I4 ++ Io)) := Mem.swap3 [(g2, .cells [.int .i64 (min lu2.first 14), .int .i64 lu2.step, .int .i64 lu2.span, .int .i64 lu2.press, .slice A3 RL.length c3]), (g1, .cells [.int .i64 0, .int .i64 0, .int .i64 0, .int .i64 0, .slice none 0 0]), (bp, .cells [.int .u64 s])] Ie Io I4 M
  refine wp_exit ?_
  refine ex_then ?_
  refine ex_then ?_
  refine ex_hit ?_
  refine nm_then ?_
  refine wp_region_lit ?_
  refine lq (v := (.pointer (some ⟨g2, 4, none⟩))) T (rn_fieldAddr (off := 4) rfl (T.ev 5 rfl) (fun _ _ _ => by kernel_rfl)) ?_; clear T ac; intro ac T
  refine lq T (rn_one (Mem.nth M 0 rfl) rfl (T.ev 0 rfl) rfl) ?_; clear T ac; intro ac T
  refine lq T (rn_move rfl (T.ev 9 rfl)) ?_; clear T ac; intro ac T
  refine l_w rfl ?_; intro K hK
  refine ow_bs (e := 38) [.slice A4 ol.length c4] M T rfl rfl rfl rfl (.cons (T.ev 0 rfl) .nil) (fun _ => by kernel_rfl) ?_; clear M T; intro g5 wc ac M T
  refine sh_out hK _ _ ?_; clear hK K
  refine l_w rfl ?_; intro K hK
  refine ow_app (((g5, .cells [.slice A4 ol.length c4]) :: (g2, .cells [.int .i64 (min lu2.first 14), .int .i64 lu2.step, .int .i64 lu2.span, .int .i64 lu2.press, .slice A3 RL.length c3]) :: (g1, .cells [.int .i64 0, .int .i64 0, .int .i64 0, .int .i64 0, .slice none 0 0]) :: (bp, .cells [.int .u64 s]) :: (Ie ++ I4))) Try.info38 hsl M (by first | rfl | simp) T rfl rfl rfl rfl Try.underlying27 rfl rfl rfl (by omega) (T.ev 2 rfl) (T.ev 0 rfl) (nthE_mem (i := 0) rfl) rfl rfl ?_; clear M T; intro ga3 cga3 wc ac M T
  refine sh_out hK _ _ ?_; clear hK K
  refine lq (v := (.pointer (some ⟨g2, 4, none⟩))) T (rn_fieldAddr (off := 4) rfl (T.ev 10 rfl) (fun _ _ _ => by kernel_rfl)) ?_; clear T ac; intro ac T
  refine l_w rfl ?_; intro K hK
  refine ow_stO M T rfl rfl (T.ev 0 rfl) (T.ev 1 rfl) rfl (.tail (.tail .head)) rfl (by simp) rfl (by kernel_rfl) ?_; clear M T; intro wc ac M T
  refine sh_out hK _ _ ?_; clear hK K
  refine wpList_nil ?_
  replace T := T.pick [7, 8, 9, 10, 11, 12] rfl
  replace M := M.mask [true, false, true, true, true] rfl
  refine nm_blk ?_
  refine nm_then ?_
  refine wp_region_lit ?_
  refine lq T (rn_move rfl (T.ev 5 rfl)) ?_; clear T ac; intro ac T
  refine lq T (rn_sub rfl (T.ev 0 rfl) evc (by omega)) ?_; clear T ac; intro ac T
  refine l_q (v := (.int .i64 (i - 1))) (T.pick [0, 1, 2, 3, 4, 5, 6] rfl) rfl rfl rfl rfl (rn_assign rfl (T.ev 0 rfl)) ?_; clear T ac; intro ac T
  refine wpList_nil ?_
  replace T := T.pick [0, 3, 4, 5, 6, 7] rfl
  refine nm_then ?_
  have e9 : RL.length + 1 = (RL ++ [(ol, A4, c4)]).length := by simp
  have e8 : ((lsC RL) ++ [.slice A4 ol.length c4]) = lsC (RL ++ [(ol, A4, c4)]) := by rw [← lsC_snoc]
  rw [e9, e8] at M
  clear e9 e8
  exact ⟨_, by omega, (i - 1), (RL ++ [(ol, A4, c4)]), _, _, s, (Ie ++ I4), [(ga3, .row 38 1 (RL ++ [(ol, A4, c4)]).length (lsC (RL ++ [(ol, A4, c4)])) cga3)], rfl, (by omega), (by simp only [List.length_append, List.length_cons, List.length_nil]; omega), (fun z hz => by rcases List.mem_append.1 hz with h9 | h9; exact hgo z h9; simp only [List.mem_cons, List.not_mem_nil, or_false] at h9; subst h9; exact ⟨by dsimp only; omega, hg4⟩), (hEl.snoc (hsl4.spV (sc_length _))), hs4, (Sl.row _ _ _ _ _ _), T.pick [1, 2, 3, 4, 5, 0] rfl, (Mem.spin [(g2, .cells [.int .i64 (min lu2.first 14), .int .i64 lu2.step, .int .i64 lu2.span, .int .i64 lu2.press, .slice (some ⟨ga3, 0, none⟩) ((RL ++ [(ol, A4, c4)]).length) cga3]), (g1, .cells [.int .i64 0, .int .i64 0, .int .i64 0, .int .i64 0, .slice none 0 0]), (bp, .cells [.int .u64 s])] [(ga3, .row 38 1 (RL ++ [(ol, A4, c4)]).length (lsC (RL ++ [(ol, A4, c4)])) cga3)] (Ie ++ I4) (M.permT [1, 2, 3, 0] 4 rfl rfl rfl rfl))⟩
 intro h1
 refine wp_exit ?_
 refine ex_then ?_
 refine ex_then ?_
 refine ex_hit ?_
 refine nm_then ?_
 refine wp_seq ?_
 refine wp_region_lit ?_
 refine lq T (rn_rowO (Mem.nth M 0 rfl) rfl (T.ev 5 rfl) rfl) ?_; clear T ac; intro ac T
 refine l_w rfl ?_; intro K hK
 refine ow_stO M T rfl rfl (T.ev 4 rfl) (T.ev 0 rfl) rfl (.tail .head) rfl (by simp) rfl (by kernel_rfl) ?_; clear M T; intro wc ac M T
 refine sh_out hK _ _ ?_; clear hK K
 refine wpList_nil ?_
 replace T := T.pick [4] rfl
 replace M := M.mask [false, true, true] rfl
 refine nm_then ?_
 refine wp_ret ?_
 refine rt_c M T rfl (T.ev 0 rfl) (nthE_mem (i := 0) rfl) rfl ?_
 obtain ⟨b9, o9, h9⟩ := hsl.spV (by rw [lsC_length]; omega)
 refine ⟨⟨min lu2.first 14, lu2.step, lu2.span, lu2.press⟩, RL, A3, c3, _, Ie ++ Io, rfl, scaleMade hlu2 (by omega) (by omega) hgo, hs, ⟨b9, o9, fun w ex => (h9 w ex).mono (List.sublist_append_right _ _)⟩, hEl.mono (List.sublist_append_left _ _), Mem.swapI (I := [(bp, .cells [.int .u64 s])]) (L := Ie ++ Io) (M.mask [false, true] rfl)⟩
end Go.Proofs.Ytlahdenlmmlplaa
end

section
/-
 law05: what the laws about scales use.
-/
namespace Go.Proofs.Ytlahdenlmmlplaa
set_option linter.unusedSimpArgs false
set_option linter.unusedVariables false
open Go.RowKit
def onlyB (l : List Int) (n : Int) : Bool := l.all fun u => decide (u = n)
theorem onlyB_bd {l : List Int} {n x : Int} {k : Nat} (h : l[k]? = some x) (hx : x = n) (H : onlyB (l.take k) n = true) : onlyB (l.take (k + 1)) n = true := by
 unfold onlyB at *
 rw [List.take_add_one, h, List.all_append, H]
 simp [hx]
theorem only_any (A : Option Addr) (m c : Nat) (l : List Int) (v : Int) (w : World) (hr : Rd w w.heap.size 1 A m (ic l)) (hm : m ≤ 1000000) :
   Calls Try.prog 16 #[.slice A m c, .int .i64 v] w fun e w' => e = .returned (.bool (onlyB l v)) ∧ Below w.heap.size w w' := by
 have hml := hr.len1
 obtain ⟨bA, oA, SA⟩ := Sp.old hr
 refine px_enter noEx Try.func16 rfl 18 rfl [.slice A m c, .int .i64 v] rfl rfl (Mem.init w _) ?_
 intro ac wc T M
 refine wp_seq ?_
 refine wp_region_lit ?_
 refine lq T (rn_assign rfl evc) ?_; clear T ac; intro ac T
 refine wpList_nil ?_
 replace T := T.pick [1, 2] rfl
 refine nm_then ?_
 refine wp_seq ?_
 refine wp_seq ?_
 refine wp_region_lit ?_
 refine lq T (rn_assign rfl evc) ?_; clear T ac; intro ac T
 refine wpList_nil ?_
 refine nm_then ?_
 refine wp_block ?_
 refine wp_loop_n (fun mz ac wc => ∃ (k : Nat), mz = m - k ∧ (k ≤ m) ∧ (onlyB (l.take k) v = true) ∧ Tm ac 18 [(0, .slice A m c), (1, .int .i64 v), (5, .int .i64 (k : Int))] ∧ Mem w noEx wc []) ?_ ?_
 ·exact ⟨_, 0, rfl, (Nat.zero_le _), rfl, T.pick [1, 2, 0] rfl, M.mask [] rfl⟩
 clear T M
 rintro mz ac wc ⟨k, hmm1, hk, H, T, M⟩
 refine wp_seq ?_
 refine wp_seq ?_
 refine wp_region_lit ?_
 refine lq T (rn_move rfl (T.ev 2 rfl)) ?_; clear T ac; intro ac T
 refine lq T (rn_move rfl (T.ev 1 rfl)) ?_; clear T ac; intro ac T
 refine lq T (rn_lenS rfl Try.underlying22 (T.ev 0 rfl)) ?_; clear T ac; intro ac T
 refine lq T (rn_lss rfl (T.ev 2 rfl) (T.ev 0 rfl)) ?_; clear T ac; intro ac T
 refine wpList_nil ?_
 replace T := T.pick [0, 4, 5, 6] rfl
 refine nm_then ?_
 refine wp_if (T.ev 0 rfl) ?_ ?_
 ·intro h1
  obtain ⟨x, hkx, -⟩ := ic_next (l := l) (k := k) (by omega)
  refine wp_skip ?_
  refine nm_then ?_
  refine wp_seq ?_
  refine wp_block ?_
  refine wp_seq ?_
  refine wp_region_lit ?_
  refine lq T (rn_move rfl (T.ev 1 rfl)) ?_; clear T ac; intro ac T
  refine lq T (rn_move rfl (T.ev 4 rfl)) ?_; clear T ac; intro ac T
  refine lq T (rn_indexAddr (size := 1) k rfl (T.ev 1 rfl) (T.ev 0 rfl) ⟨_, Try.underlying22, by kernel_rfl⟩ rfl (by omega) (SA.at0 (by omega))) ?_; clear T ac; intro ac T
  refine lq T (rn_cell (Sp.ic0 SA M (List.nil_sublist _) hkx) rfl (T.ev 0 rfl)) ?_; clear T ac; intro ac T
  refine lq T (rn_move rfl (T.ev 6 rfl)) ?_; clear T ac; intro ac T
  refine lq T (rn_neq rfl (T.ev 1 rfl) (T.ev 0 rfl)) ?_; clear T ac; intro ac T
  refine wpList_nil ?_
  replace T := T.pick [0, 7, 8, 9] rfl
  refine nm_then ?_
  refine wp_ifn (T.ev 0 rfl) ?_ ?_
  ·intro h2
   refine wp_seq ?_
   refine wp_region_lit ?_
   refine lq T (rn_assign rfl evc) ?_; clear T ac; intro ac T
   refine wpList_nil ?_
   replace T := T.pick [0] rfl
   refine nm_then ?_
   refine wp_ret ?_
   refine rt_blk ?_
   refine rt_then ?_
   refine rt_then ?_
   refine rt_blk ?_
   refine rt_then ?_
   refine rt_1 T rfl (T.ev 0 rfl) ?_
   refine ⟨ret_bool ?_, M.below⟩
   symm
   unfold onlyB
   rw [List.all_eq_false]
   exact ⟨x, List.mem_of_getElem? hkx, by simp; omega⟩
  intro h2
  refine wp_skip ?_
  refine nm_blk ?_
  refine nm_then ?_
  refine wp_region_lit ?_
  refine lq T (rn_move rfl (T.ev 3 rfl)) ?_; clear T ac; intro ac T
  refine lq T (rn_add rfl (T.ev 0 rfl) evc (by omega)) ?_; clear T ac; intro ac T
  refine l_q (v := (.int .i64 ((k : Int) + 1))) (T.pick [0, 1, 2, 3, 4] rfl) rfl rfl rfl rfl (rn_assign rfl (T.ev 0 rfl)) ?_; clear T ac; intro ac T
  refine wpList_nil ?_
  replace T := T.pick [0, 4, 5] rfl
  refine nm_then ?_
  exact ⟨_, by omega, k + 1, rfl, (by omega), (onlyB_bd hkx (by omega) H), T.pick [1, 2, 0] rfl, M.mask [] rfl⟩
 intro h1
 rw [List.take_of_length_le (by omega)] at H
 refine wp_exit ?_
 refine ex_then ?_
 refine ex_then ?_
 refine ex_hit ?_
 refine nm_then ?_
 refine wp_seq ?_
 refine wp_region_lit ?_
 refine lq T (rn_assign rfl evc) ?_; clear T ac; intro ac T
 refine wpList_nil ?_
 replace T := T.pick [0] rfl
 refine nm_then ?_
 refine wp_ret ?_
 refine rt_1 T rfl (T.ev 0 rfl) ?_
 exact ⟨ret_bool H.symm, M.below⟩
theorem only_true (A : Option Addr) (m c : Nat) (l : List Int) (v : Int) (w : World) (hr : Rd w w.heap.size 1 A m (ic l)) (hm : m ≤ 1000000) (h : ∀ u ∈ l, u = v) :
   Calls Try.prog 16 #[.slice A m c, .int .i64 v] w fun e w' => e = .returned (.bool true) ∧ Below w.heap.size w w' := by
 have h9 := only_any A m c l v w hr hm
 rw [show onlyB l v = true by unfold onlyB; rw [List.all_eq_true]; intro u hu; simpa using h u hu] at h9
 exact h9
end Go.Proofs.Ytlahdenlmmlplaa
end

section
/-
 Plain law: Beat and Keeps are just what all truths say.
-/
namespace Go.Proofs.Ytlahdenlmmlplaa
set_option linter.unusedSimpArgs false
set_option linter.unusedVariables false
open Go.RowKit
abbrev Q4 := Int × Int × Int × Int
def inQ (x y : Snd) (q : Q4) : Prop := (x.t0 ≤ q.1 ∧ q.1 ≤ x.t1) ∧ (x.s0 ≤ q.2.1 ∧ q.2.1 ≤ x.s1) ∧ (y.t0 ≤ q.2.2.1 ∧ q.2.2.1 ≤ y.t1) ∧ (y.s0 ≤ q.2.2.2 ∧ q.2.2.2 ≤ y.s1)
def befQ (t s u r : Int) (q : Q4) : Prop := q.1 < t ∨ (q.1 = t ∧ (q.2.1 < s ∨ (q.2.1 = s ∧ (q.2.2.1 < u ∨ (q.2.2.1 = u ∧ q.2.2.2 < r)))))
def PQ (x y : Snd) (t s u r : Int) (P : List Q4) : Prop := ∀ q, q ∈ P ↔ inQ x y q ∧ befQ t s u r q
theorem PQ.start (x y : Snd) : PQ x y x.t0 x.s0 y.t0 y.s0 [] := fun q => by
 unfold inQ befQ
 simp only [List.not_mem_nil, false_iff]
 omega
theorem PQ.as {x y : Snd} {t s u r t' s' u' r' : Int} {P : List Q4} (h : PQ x y t s u r P) (he : ∀ q : Q4, inQ x y q → (befQ t s u r q ↔ befQ t' s' u' r' q)) : PQ x y t' s' u' r' P := fun q => by
 rw [h q]
 constructor
 · rintro ⟨a, b⟩; exact ⟨a, (he q a).1 b⟩
 · rintro ⟨a, b⟩; exact ⟨a, (he q a).2 b⟩
theorem PQ.next {x y : Snd} {t s u r : Int} {P : List Q4} (h : PQ x y t s u r P) (hq : inQ x y (t, s, u, r)) : PQ x y t s u (r + 1) (P ++ [(t, s, u, r)]) := fun q => by
 obtain ⟨a, b, c, d⟩ := q
 rw [List.mem_append, h, List.mem_singleton]
 unfold inQ befQ at *
 simp only [Prod.mk.injEq]
 dsimp only at *
 omega
theorem PQ.done {x y : Snd} {t : Int} {P : List Q4} (h : PQ x y t x.s0 y.t0 y.s0 P) (ht : x.t1 < t) : ∀ q, q ∈ P ↔ inQ x y q := fun q => by
 rw [h q]
 constructor
 · exact fun a => a.1
 · intro a
   refine ⟨a, ?_⟩
   unfold inQ at a
   unfold befQ
   omega
def kQ (l : Lw) (due : Int) (q : Q4) : Bool := agreeP l due (q.2.2.1 - q.1) (q.2.2.2 - q.2.1)
def bQ (q : Q4) (p : Int) : Int := beatT q.1 q.2.1 q.2.2.1 q.2.2.2 p
structure FQ (l : Lw) (due : Int) (P : List Q4) (kept all : Int) (bl : List (Int × Int)) : Prop where
 n : bl.length = (l.press + 1).toNat
 ka : 0 ≤ kept ∧ kept ≤ all ∧ all = P.length
 kall : kept = all ↔ ∀ q ∈ P, kQ l due q = true
 k0 : kept = 0 ↔ ∀ q ∈ P, kQ l due q = false
 bd : ∀ (k : Nat) (v : Int × Int), bl[k]? = some v → P ≠ [] → (∀ q ∈ P, v.1 ≤ bQ q k ∧ bQ q k ≤ v.2) ∧ (∃ q ∈ P, bQ q k = v.1) ∧ ∃ q ∈ P, bQ q k = v.2
theorem FQ.start {l : Lw} {due : Int} {bl : List (Int × Int)} (h : bl.length = (l.press + 1).toNat) : FQ l due [] 0 0 bl :=
 ⟨h, by simp, by simp, by simp, fun k v _ h => absurd rfl h⟩
def newV (all : Int) (v : Int × Int) (n : Int) : Int × Int := (min (if all = 0 then n else v.1) n, max (if all = 0 then n else v.2) n)
theorem FQ.step {l : Lw} {due : Int} {P : List Q4} {kept all kept' : Int} {bl bl' : List (Int × Int)} (h : FQ l due P kept all bl) (q : Q4) (hk : kept' = kept + if kQ l due q = true then 1 else 0) (hn : bl'.length = bl.length)
   (hb : ∀ (k : Nat) (v : Int × Int), bl[k]? = some v → bl'[k]? = some (newV all v (bQ q k))) : FQ l due (P ++ [q]) kept' (all + 1) bl' := by
 obtain ⟨h1, ⟨h2, h3, h4⟩, h5, h6, h7⟩ := h
 refine ⟨by rw [hn, h1], ⟨by split at hk <;> omega, by split at hk <;> omega, by rw [List.length_append]; simp; omega⟩, ?_, ?_, ?_⟩
 · simp only [List.mem_append, List.mem_singleton]
   constructor
   · intro e z hz
     split at hk
     · rename_i hq
       rcases hz with hz | rfl
       · exact h5.1 (by omega) z hz
       · exact hq
     · omega
   · intro e
     rw [hk, if_pos (e q (.inr rfl)), h5.2 fun z hz => e z (.inl hz)]
 · simp only [List.mem_append, List.mem_singleton]
   constructor
   · intro e z hz
     split at hk
     · omega
     · rename_i hq
       rcases hz with hz | rfl
       · exact h6.1 (by omega) z hz
       · simpa using hq
   · intro e
     rw [hk, if_neg (by rw [e q (.inr rfl)]; simp), h6.2 fun z hz => e z (.inl hz)]
     rfl
 · intro k v' hv' _
   obtain ⟨v, hv⟩ : ∃ v, bl[k]? = some v := ⟨_, List.getElem?_eq_getElem (by have := (List.getElem?_eq_some_iff.1 hv').1; omega)⟩
   have e := hb k v hv
   rw [hv'] at e
   injection e with e
   subst e
   simp only [List.mem_append, List.mem_singleton]
   by_cases hP : P = []
   · subst hP
     have h0 : all = 0 := by simpa using h4
     unfold newV
     rw [if_pos h0, if_pos h0]
     refine ⟨fun z hz => ?_, ⟨q, .inr rfl, by dsimp only; omega⟩, ⟨q, .inr rfl, by dsimp only; omega⟩⟩
     rcases hz with hz | rfl
     · cases hz
     · dsimp only; omega
   · have h0 : all ≠ 0 := by
       have := List.length_pos_iff.2 hP
       omega
     obtain ⟨g1, ⟨qa, qa1, qa2⟩, qb, qb1, qb2⟩ := h7 k v hv hP
     unfold newV
     rw [if_neg h0, if_neg h0]
     refine ⟨fun z hz => ?_, ?_, ?_⟩
     · rcases hz with hz | rfl
       · have := g1 z hz
         dsimp only
         omega
       · dsimp only
         omega
     · dsimp only
       by_cases hm : v.1 ≤ bQ q k
       · exact ⟨qa, .inl qa1, by omega⟩
       · exact ⟨q, .inr rfl, by omega⟩
     · dsimp only
       by_cases hm : bQ q k ≤ v.2
       · exact ⟨qb, .inl qb1, by omega⟩
       · exact ⟨q, .inr rfl, by omega⟩
structure NB (all : Int) (q : Q4) (bl b : List (Int × Int)) (k : Nat) : Prop where
 n : b.length = bl.length
 a : ∀ (i : Nat) (v : Int × Int), i < k → bl[i]? = some v → b[i]? = some (newV all v (bQ q i))
 b : ∀ i : Nat, k ≤ i → b[i]? = bl[i]?
theorem NB.start (all : Int) (q : Q4) (bl : List (Int × Int)) : NB all q bl bl 0 := ⟨rfl, fun _ _ h => absurd h (Nat.not_lt_zero _), fun _ _ => rfl⟩
theorem NB.step {all : Int} {q : Q4} {bl b b' : List (Int × Int)} {k : Nat} {v v' : Int × Int} (h : NB all q bl b k) (hk : k < b.length) (hv : b[k]? = some v) (hb : b' = b.set k v') (he : v' = newV all v (bQ q k)) : NB all q bl b' (k + 1) := by
 subst hb he
 refine ⟨by rw [List.length_set, h.n], fun i u hi hu => ?_, fun i hi => ?_⟩
 · rcases Nat.lt_or_ge i k with h1 | h1
   · rw [List.getElem?_set_ne (by omega)]
     exact h.a i u h1 hu
   · obtain rfl : i = k := by omega
     rw [List.getElem?_set_self hk]
     rw [h.b i (Nat.le_refl _), hu] at hv
     injection hv with hv
     rw [hv]
 · rw [List.getElem?_set_ne (by omega)]
   exact h.b i (by omega)
theorem NB.done {all : Int} {q : Q4} {bl b : List (Int × Int)} {k : Nat} (h : NB all q bl b k) (hk : bl.length ≤ k) : ∀ (i : Nat) (v : Int × Int), bl[i]? = some v → b[i]? = some (newV all v (bQ q i)) := fun i v hv =>
 h.a i v (by have := (List.getElem?_eq_some_iff.1 hv).1; omega) hv
theorem bQ_in {x y : Snd} {q : Q4} (h : inQ x y q) {p : Int} (hp : 0 ≤ p) : (beatP x y p).1 ≤ bQ q p ∧ bQ q p ≤ (beatP x y p).2 := by
 obtain ⟨⟨a1, a2⟩, ⟨b1, b2⟩, ⟨c1, c2⟩, d1, d2⟩ := h
 have m1 : x.s0 * p ≤ q.2.1 * p := Int.mul_le_mul_of_nonneg_right b1 hp
 have m2 : q.2.1 * p ≤ x.s1 * p := Int.mul_le_mul_of_nonneg_right b2 hp
 have m3 : y.s0 * p ≤ q.2.2.2 * p := Int.mul_le_mul_of_nonneg_right d1 hp
 have m4 : q.2.2.2 * p ≤ y.s1 * p := Int.mul_le_mul_of_nonneg_right d2 hp
 unfold beatP riseP bQ beatT
 rw [Int.mul_comm p y.s0, Int.mul_comm p y.s1, Int.mul_comm p x.s0, Int.mul_comm p x.s1]
 dsimp only
 omega
theorem bQ_lo (x y : Snd) (p : Int) : bQ (x.t1, x.s1, y.t0, y.s0) p = (beatP x y p).1 := by
 unfold beatP riseP bQ beatT
 rw [Int.mul_comm p y.s0, Int.mul_comm p x.s1]
 dsimp only
 omega
theorem bQ_hi (x y : Snd) (p : Int) : bQ (x.t0, x.s0, y.t1, y.s1) p = (beatP x y p).2 := by
 unfold beatP riseP bQ beatT
 rw [Int.mul_comm p y.s1, Int.mul_comm p x.s0]
 dsimp only
 omega
theorem kQ_iff {l : Lw} {due : Int} {q : Q4} : kQ l due q = true ↔ ∀ p : Int, 0 ≤ p → p ≤ l.press → -l.span ≤ bQ q p - due ∧ bQ q p - due ≤ l.span := by
 unfold kQ agreeP
 rw [List.all_eq_true]
 constructor
 · intro h p h1 h2
   have h3 := h p.toNat (List.mem_range.2 (by omega))
   rw [show ((p.toNat : Nat) : Int) = p by omega, ← beatT_eq] at h3
   simpa [withinB, bQ] using h3
 · intro h k hk
   have h3 := h k (by omega) (by have := List.mem_range.1 hk; omega)
   rw [← beatT_eq]
   simpa [withinB, bQ] using h3
theorem offL_le (due b : Int) : ∀ (l : List (Int × Int)) (n : Int), offL due l n ≤ b ↔ n ≤ b ∧ ∀ x ∈ l, due - x.1 ≤ b ∧ x.2 - due ≤ b
 | [], n => by simp [offL]
 | x :: r, n => by
   unfold offL
   rw [offL_le due b r]
   constructor
   · rintro ⟨h1, h2⟩
     refine ⟨by omega, fun z hz => ?_⟩
     rcases List.mem_cons.1 hz with rfl | hz
     · omega
     · exact h2 z hz
   · rintro ⟨h1, h2⟩
     have := h2 x List.mem_cons_self
     exact ⟨by omega, fun z hz => h2 z (List.mem_cons_of_mem _ hz)⟩
theorem offP_le {l : Lw} {due b : Int} {x y : Snd} (hb : 0 ≤ b) : offP l due x y ≤ b ↔ ∀ p : Int, 0 ≤ p → p ≤ l.press → due - (beatP x y p).1 ≤ b ∧ (beatP x y p).2 - due ≤ b := by
 unfold offP
 rw [offL_le]
 constructor
 · rintro ⟨_, h⟩ p h1 h2
   exact h _ (beatsL_mem.2 ⟨p, h1, h2, rfl⟩)
 · intro h
   refine ⟨hb, fun z hz => ?_⟩
   obtain ⟨p, h1, h2, rfl⟩ := beatsL_mem.1 hz
   exact h p h1 h2
theorem inQ_lo {x y : Snd} (gx : x.good) (gy : y.good) : inQ x y (x.t1, x.s1, y.t0, y.s0) ∧ inQ x y (x.t0, x.s0, y.t1, y.s1) := by
 obtain ⟨a1, a2⟩ := gx
 obtain ⟨b1, b2⟩ := gy
 unfold inQ
 dsimp only
 omega
theorem sure_iff {l : Lw} {due : Int} {x y : Snd} (gx : x.good) (gy : y.good) (hs : 0 ≤ l.span) : offP l due x y ≤ l.span ↔ ∀ q, inQ x y q → kQ l due q = true := by
 rw [offP_le hs]
 constructor
 · intro h q hq
   rw [kQ_iff]
   intro p h1 h2
   have h3 := h p h1 h2
   have h4 := bQ_in hq h1
   omega
 · intro h p h1 h2
   obtain ⟨e1, e2⟩ := inQ_lo gx gy
   have h3 := kQ_iff.1 (h _ e1) p h1 h2
   have h4 := kQ_iff.1 (h _ e2) p h1 h2
   rw [bQ_lo] at h3
   rw [bQ_hi] at h4
   omega
theorem mem_allOf {x : Snd} {v : Int × Int} : v ∈ allOf x ↔ (x.t0 ≤ v.1 ∧ v.1 ≤ x.t1) ∧ x.s0 ≤ v.2 ∧ v.2 ≤ x.s1 := mem_allL
theorem never_iff {l : Lw} {due : Int} {x y : Snd} : (nowL l due [x, y]).isEmpty = true ↔ ∀ q, inQ x y q → kQ l due q = false := by
 show ((allOf y).filter fun v => (allOf x).any fun z => agreeP l due (v.1 - z.1) (v.2 - z.2)).isEmpty = true ↔ _
 rw [List.isEmpty_iff, List.filter_eq_nil_iff]
 constructor
 · intro h q hq
   obtain ⟨t, s, u, r⟩ := q
   unfold inQ at hq
   dsimp only at hq
   have h1 := h (u, r) (mem_allOf.2 ⟨hq.2.2.1, hq.2.2.2⟩)
   unfold kQ
   dsimp only
   rcases Bool.eq_false_or_eq_true (agreeP l due (u - t) (r - s)) with h2 | h2
   · exact absurd (List.any_eq_true.2 ⟨(t, s), mem_allOf.2 ⟨hq.1, hq.2.1⟩, h2⟩) h1
   · exact h2
 · intro h v hv hn
   obtain ⟨z, hz, ha⟩ := List.any_eq_true.1 hn
   have h1 := h (z.1, z.2, v.1, v.2) ⟨(mem_allOf.1 hz).1, (mem_allOf.1 hz).2, (mem_allOf.1 hv).1, (mem_allOf.1 hv).2⟩
   unfold kQ at h1
   dsimp only at h1
   rw [h1] at ha
   cases ha
theorem surelyL_two (l : Lw) (due : Int) (x y : Snd) : surelyL l due [x, y] = decide (offP l due x y ≤ l.span) := by simp [surelyL]
theorem keeps_always {l : Lw} {due : Int} {x y : Snd} (gx : x.good) (gy : y.good) (hs : 0 ≤ l.span) : keepsP l due [x, y] = 1 ↔ ∀ q, inQ x y q → kQ l due q = true := by
 rw [← sure_iff gx gy hs]
 unfold keepsP
 rw [surelyL_two]
 constructor
 · intro h
   split at h
   · rename_i h1; simpa using h1
   · split at h <;> omega
 · intro h
   rw [if_pos (by simpa using h)]
theorem keeps_never {l : Lw} {due : Int} {x y : Snd} (gx : x.good) (gy : y.good) (hs : 0 ≤ l.span) : keepsP l due [x, y] = 2 ↔ ∀ q, inQ x y q → kQ l due q = false := by
 have h0 := sure_iff (l := l) (due := due) gx gy hs
 rw [← never_iff]
 unfold keepsP
 rw [surelyL_two]
 constructor
 · intro h
   split at h
   · omega
   · split at h
     · rename_i h1; exact h1
     · omega
 · intro h
   rw [if_neg, if_pos h]
   simp only [decide_eq_true_eq]
   intro h1
   have h2 := h0.1 h1 _ (inQ_lo gx gy).1
   rw [never_iff.1 h _ (inQ_lo gx gy).1] at h2
   cases h2
theorem FQ.keeps {l : Lw} {due : Int} {x y : Snd} {P : List Q4} {kept all : Int} {bl : List (Int × Int)} (h : FQ l due P kept all bl) (hP : ∀ q, q ∈ P ↔ inQ x y q) (gx : x.good) (gy : y.good) (hs : 0 ≤ l.span) :
   (keepsP l due [x, y] = 1 ↔ kept = all) ∧ (keepsP l due [x, y] = 2 ↔ kept = 0) := by
 rw [keeps_always gx gy hs, keeps_never gx gy hs, h.kall, h.k0]
 simp only [hP]
 constructor <;> first | exact Iff.rfl | trivial
theorem FQ.beats {l : Lw} {due : Int} {x y : Snd} {P : List Q4} {kept all : Int} {bl : List (Int × Int)} (h : FQ l due P kept all bl) (hP : ∀ q, q ∈ P ↔ inQ x y q) (gx : x.good) (gy : y.good) : bl = beatsL l x y := by
 apply List.ext_getElem?
 intro k
 rcases Nat.lt_or_ge k (l.press + 1).toNat with hk | hk
 · obtain ⟨v, hv⟩ : ∃ v, bl[k]? = some v := ⟨_, List.getElem?_eq_getElem (by rw [h.n]; exact hk)⟩
   have e : (beatsL l x y)[k]? = some (beatP x y (k : Int)) := by
     unfold beatsL
     rw [List.getElem?_map, List.getElem?_range hk]
     rfl
   rw [hv, e]
   obtain ⟨e1, e2⟩ := inQ_lo gx gy
   have m1 := (hP _).2 e1
   have m2 := (hP _).2 e2
   obtain ⟨g1, ⟨qa, qa1, qa2⟩, qb, qb1, qb2⟩ := h.bd k v hv (List.ne_nil_of_mem m1)
   have b1 := (g1 _ m1).1
   have b2 := (g1 _ m2).2
   rw [bQ_lo] at b1
   rw [bQ_hi] at b2
   have b3 := bQ_in ((hP _).1 qa1) (p := (k : Int)) (by omega)
   have b4 := bQ_in ((hP _).1 qb1) (p := (k : Int)) (by omega)
   congr 1
   apply Prod.ext
   · show v.1 = (beatP x y k).1
     omega
   · show v.2 = (beatP x y k).2
     omega
 · rw [List.getElem?_eq_none (by rw [h.n]; exact hk), List.getElem?_eq_none (by rw [beatsL_length]; exact hk)]
end Go.Proofs.Ytlahdenlmmlplaa
end

section
/-
 law05: VoiceAll, walked.
-/
namespace Go.Proofs.Ytlahdenlmmlplaa
set_option linter.unusedSimpArgs false
set_option linter.unusedVariables false
open Go.RowKit
section
variable {P : Program} {op : Oper} {a : Act} {K : Act → World → Prop} {Q : Exit → Act → World → Prop} {w0 w : World} {ex : Nat → Prop} {L : List (Nat × BA)} {E : List (Nat × Value)} {df : List Deferred} {t n : Nat}
end
def allB (b : Bx) (x y : Snd) : Bx := { b with lows := [x], highs := [y] }
end Go.Proofs.Ytlahdenlmmlplaa
end

section
/-
 Plain law: whatever the tongues truly are, the verdicts are right.
-/
namespace Go.Proofs.Ytlahdenlmmlplaa
set_option linter.unusedSimpArgs false
set_option linter.unusedVariables false
open Go.RowKit
def rightB (v : Int) (is : Bool) : Bool := (decide (v = 3) || (decide (v = 1) && is)) || (decide (v = 2) && !is)
theorem keepsP_or (l : Lw) (due : Int) (ts : List Snd) : keepsP l due ts = 1 ∨ keepsP l due ts = 2 ∨ keepsP l due ts = 3 := by
 unfold keepsP
 split
 · exact .inl rfl
 · split
   · exact .inr (.inl rfl)
   · exact .inr (.inr rfl)
theorem rightB_of {l : Lw} {due : Int} {ts : List Snd} {is : Bool} (h1 : keepsP l due ts = 1 → is = true) (h2 : keepsP l due ts = 2 → is = false) : rightB (keepsP l due ts) is = true := by
 unfold rightB
 rcases keepsP_or l due ts with h | h | h
 · rw [h1 h, h]; rfl
 · rw [h2 h, h]; rfl
 · rw [h]; rfl
structure ChQ (l : Lw) (due : Int) (ts : List Snd) (i : Nat) (v : Int × Int) (is : Bool) : Prop where
 a : surelyL l due ts = true → is = true
 b : is = true → i = 0 ∨ v ∈ nowL l due (ts.take i)
 c : i = 0 ∨ ∃ y, ts[i - 1]? = some y ∧ v ∈ allOf y
theorem ChQ.start (l : Lw) (due : Int) (ts : List Snd) (v : Int × Int) : ChQ l due ts 0 v true := ⟨fun _ => rfl, fun _ => .inl rfl, .inl rfl⟩
theorem ChQ.step {l : Lw} {due : Int} {ts : List Snd} {i : Nat} {v v' : Int × Int} {is : Bool} {y : Snd} (h : ChQ l due ts i v is) (hy : ts[i]? = some y) (gs : ∀ z ∈ ts, z.good) (hs : 0 ≤ l.span) (hv : v' ∈ allOf y) :
   ChQ l due ts (i + 1) v' (is && (decide ((i : Int) = 0) || agreeP l due (v'.1 - v.1) (v'.2 - v.2))) := by
 obtain ⟨h1, h2, h3⟩ := h
 refine ⟨fun hsu => ?_, fun hi => ?_, .inr ⟨y, by simpa using hy, hv⟩⟩
 · rw [h1 hsu, Bool.true_and, Bool.or_eq_true, decide_eq_true_eq]
   rcases Nat.eq_zero_or_pos i with hi | hi
   · exact .inl (by omega)
   · right
     rcases h3 with h3 | ⟨x, hx, hvx⟩
     · omega
     · have hof := surelyL_iff.1 hsu (i - 1) x y hx (by rw [show i - 1 + 1 = i by omega]; exact hy)
       have gx := gs x (List.mem_of_getElem? hx)
       have gy := gs y (List.mem_of_getElem? hy)
       have hk := (sure_iff gx gy hs).1 hof (v.1, v.2, v'.1, v'.2) ⟨(mem_allOf.1 hvx).1, (mem_allOf.1 hvx).2, (mem_allOf.1 hv).1, (mem_allOf.1 hv).2⟩
       exact hk
 · right
   rw [Bool.and_eq_true, Bool.or_eq_true, decide_eq_true_eq] at hi
   obtain ⟨hi1, hi2⟩ := hi
   cases i with
   | zero =>
     cases ts with
     | nil => simp at hy
     | cons a r =>
       simp at hy
       subst hy
       simpa [nowL] using hv
   | succ k =>
     rw [nowL_take hy]
     rcases hi2 with hi2 | hi2
     · omega
     · rcases h2 hi1 with h5 | h5
       · omega
       · unfold stepN
         rw [List.mem_filter]
         exact ⟨hv, List.any_eq_true.2 ⟨v, h5, hi2⟩⟩
theorem ChQ.right {l : Lw} {due : Int} {ts : List Snd} {i : Nat} {v : Int × Int} {is : Bool} (h : ChQ l due ts i v is) (hi : ts.length ≤ i) : rightB (keepsP l due ts) is = true := by
 refine rightB_of (fun h1 => h.a (keepsP_one.1 h1)) fun h2 => ?_
 rcases Bool.eq_false_or_eq_true is with h3 | h3
 · obtain ⟨h4, h5⟩ := keepsP_two.1 h2
   rcases h.b h3 with h6 | h6
   · subst h6
     have : ts = [] := List.eq_nil_of_length_eq_zero (by omega)
     subst this
     simp [surelyL] at h4
   · rw [List.take_of_length_le hi, h5] at h6
     cases h6
 · exact h3
end Go.Proofs.Ytlahdenlmmlplaa
end

section
/-
 law05: what the laws about boxes use.
-/
namespace Go.Proofs.Ytlahdenlmmlplaa
set_option linter.unusedSimpArgs false
set_option linter.unusedVariables false
open Go.RowKit
def placeF (v : Int) : List Int → Nat → Int
 | [], _ => -1
 | x :: r, k => if x = v then (k : Int) else placeF v r (k + 1)
def placeP (l : List Int) (v : Int) : Int := placeF v l 0
theorem place_any (A : Option Addr) (m c : Nat) (l : List Int) (v : Int) (w : World) (hr : Rd w w.heap.size 1 A m (ic l)) (hm : m ≤ 1000000) :
   Calls Try.prog 30 #[.slice A m c, .int .i64 v] w fun e w' => e = .returned (.int .i64 (placeP l v)) ∧ Below w.heap.size w w' := by
 have hml := hr.len1
 obtain ⟨bA, oA, SA⟩ := Sp.old hr
 refine px_enter noEx Try.func30 rfl 19 rfl [.slice A m c, .int .i64 v] rfl rfl (Mem.init w _) ?_
 intro ac wc T M
 refine wp_seq ?_
 refine wp_region_lit ?_
 refine lq T (rn_assign rfl evc) ?_; clear T ac; intro ac T
 refine wpList_nil ?_
 replace T := T.pick [1, 2] rfl
 refine nm_then ?_
 refine wp_seq ?_
 refine wp_seq ?_
 refine wp_region_lit ?_
 refine lq T (rn_assign rfl evc) ?_; clear T ac; intro ac T
 refine wpList_nil ?_
 refine nm_then ?_
 refine wp_block ?_
 refine wp_loop_n (fun mz ac wc => ∃ (k : Nat), mz = m - k ∧ (k ≤ m) ∧ (placeP l v = placeF v (l.drop k) k) ∧ Tm ac 19 [(0, .slice A m c), (1, .int .i64 v), (5, .int .i64 (k : Int))] ∧ Mem w noEx wc []) ?_ ?_
 ·exact ⟨_, 0, rfl, (Nat.zero_le _), rfl, T.pick [1, 2, 0] rfl, M.mask [] rfl⟩
 clear T M
 rintro mz ac wc ⟨k, hmm1, hk, H, T, M⟩
 refine wp_seq ?_
 refine wp_seq ?_
 refine wp_region_lit ?_
 refine lq T (rn_move rfl (T.ev 2 rfl)) ?_; clear T ac; intro ac T
 refine lq T (rn_move rfl (T.ev 1 rfl)) ?_; clear T ac; intro ac T
 refine lq T (rn_lenS rfl Try.underlying22 (T.ev 0 rfl)) ?_; clear T ac; intro ac T
 refine lq T (rn_lss rfl (T.ev 2 rfl) (T.ev 0 rfl)) ?_; clear T ac; intro ac T
 refine wpList_nil ?_
 replace T := T.pick [0, 4, 5, 6] rfl
 refine nm_then ?_
 refine wp_if (T.ev 0 rfl) ?_ ?_
 ·intro h1
  obtain ⟨x, hkx, hdx⟩ := ic_next (l := l) (k := k) (by omega)
  rw [hdx, placeF] at H
  refine wp_skip ?_
  refine nm_then ?_
  refine wp_seq ?_
  refine wp_block ?_
  refine wp_seq ?_
  refine wp_region_lit ?_
  refine lq T (rn_move rfl (T.ev 1 rfl)) ?_; clear T ac; intro ac T
  refine lq T (rn_move rfl (T.ev 4 rfl)) ?_; clear T ac; intro ac T
  refine lq T (rn_indexAddr (size := 1) k rfl (T.ev 1 rfl) (T.ev 0 rfl) ⟨_, Try.underlying22, by kernel_rfl⟩ rfl (by omega) (SA.at0 (by omega))) ?_; clear T ac; intro ac T
  refine lq T (rn_cell (Sp.ic0 SA M (List.nil_sublist _) hkx) rfl (T.ev 0 rfl)) ?_; clear T ac; intro ac T
  refine lq T (rn_move rfl (T.ev 6 rfl)) ?_; clear T ac; intro ac T
  refine lq T (rn_eql rfl (T.ev 1 rfl) (T.ev 0 rfl)) ?_; clear T ac; intro ac T
  refine wpList_nil ?_
  replace T := T.pick [0, 7, 8, 9] rfl
  refine nm_then ?_
  refine wp_if (T.ev 0 rfl) ?_ ?_
  ·intro h2
   refine wp_seq ?_
   refine wp_region_lit ?_
   refine lq T (rn_move rfl (T.ev 3 rfl)) ?_; clear T ac; intro ac T
   refine lq T (rn_assign rfl (T.ev 0 rfl)) ?_; clear T ac; intro ac T
   refine wpList_nil ?_
   replace T := T.pick [0] rfl
   refine nm_then ?_
   refine wp_ret ?_
   refine rt_blk ?_
   refine rt_then ?_
   refine rt_then ?_
   refine rt_blk ?_
   refine rt_then ?_
   refine rt_1 T rfl (T.ev 0 rfl) ?_
   rw [if_pos (by omega)] at H
   exact ⟨ret_int H.symm, M.below⟩
  intro h2
  refine wp_skip ?_
  refine nm_blk ?_
  refine nm_then ?_
  refine wp_region_lit ?_
  refine lq T (rn_move rfl (T.ev 3 rfl)) ?_; clear T ac; intro ac T
  refine lq T (rn_add rfl (T.ev 0 rfl) evc (by omega)) ?_; clear T ac; intro ac T
  refine l_q (v := (.int .i64 ((k : Int) + 1))) (T.pick [0, 1, 2, 3, 4] rfl) rfl rfl rfl rfl (rn_assign rfl (T.ev 0 rfl)) ?_; clear T ac; intro ac T
  refine wpList_nil ?_
  replace T := T.pick [0, 4, 5] rfl
  refine nm_then ?_
  exact ⟨_, by omega, k + 1, rfl, (by omega), (by rw [if_neg (by omega)] at H; exact H), T.pick [1, 2, 0] rfl, M.mask [] rfl⟩
 intro h1
 rw [List.drop_of_length_le (by omega), placeF] at H
 refine wp_exit ?_
 refine ex_then ?_
 refine ex_then ?_
 refine ex_hit ?_
 refine nm_then ?_
 refine wp_seq ?_
 refine wp_region_lit ?_
 refine lq T (rn_assign rfl evc) ?_; clear T ac; intro ac T
 refine wpList_nil ?_
 replace T := T.pick [0] rfl
 refine nm_then ?_
 refine wp_ret ?_
 refine rt_1 T rfl (T.ev 0 rfl) ?_
 exact ⟨ret_int H.symm, M.below⟩
def PairsPost (b : Bx) (w : World) (e : Ending) (w' : World) : Prop := ∃ (A : Option Addr) (c : Nat) (LL : List LE) (I : List (Nat × BA)), e = .returned (.tuple #[.slice A LL.length c, .int .i64 0]) ∧ LL.map (·.1) = tableP b ∧ (∃ b o, ∀ (w : World) (ex : Nat → Prop), Sp w ex I A LL.length 1 b o (lc LL)) ∧ Els LL I ∧ Mem w noEx w' I
end Go.Proofs.Ytlahdenlmmlplaa
end

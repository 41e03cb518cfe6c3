/-
  law05: VoiceRaised, walked.
-/
import Derived.Test.YtlahdenlmmlplaaMVoiceRaised1
import Derived.Test.YtlahdenlmmlplaaMVoiceRaised2
import Derived.Test.YtlahdenlmmlplaaMVoiceRaised3
import Derived.Test.YtlahdenlmmlplaaMVoiceRaised4
import Derived.Test.YtlahdenlmmlplaaMVoiceRaised5
namespace Go.Proofs.Ytlahdenlmmlplaa
set_option linter.unusedSimpArgs false
set_option linter.unusedVariables false
open Go.RowKit
abbrev bxM (b : Bx) (s1 s2 : Value) : List Value := [.int .i64 b.first, .int .i64 b.step, .int .i64 b.span, .int .i64 b.press, .int .i64 b.note, s1, s2, .int .i64 b.t0, .int .i64 b.t1, .int .i64 b.r0, .int .i64 b.r1, .int .i64 b.u0, .int .i64 b.u1, .int .i64 b.d0, .int .i64 b.d1, .int .i64 b.a0, .int .i64 b.a1, .int .i64 b.b0, .int .i64 b.b1, .int .i64 b.le, .int .i64 b.me]
section
variable {df : List Deferred} {P : Program} {ops : Array Oper} {oi : Oper} {a : Act} {Q : Exit → Act → World → Prop} {w : World} {n t fuel : Nat} {E : List (Nat × Value)} {v : Value} {S : Array Bool → World → Prop}
theorem gp (T : TmD df a n E) (i b' : Nat) {m b : Nat} (hi : ops[i]? = some oi) (hw : Region.wanted oi (yielded ops a.tmps) = false) (h : ∀ a', TmD df a' n ((t, undef) :: E) → wpG P ops Q S fuel (pbits m b') a' w)
   (hs : (Region.noSelect ops && Region.free .any ops (pbits m b) i && (Region.ready .any ops (pbits m b)).contains i) = true := by kernel_rfl) (hl : (pbits m b).setIfInBounds i true = pbits m b' := by kernel_rfl)
   (hSi : ∀ L w, S (L.setIfInBounds i true) w ↔ S L w := by repeat' (first | exact si_U | exact si_G rfl | refine si_and ?_ ?_)) (hQ : ∀ c a w, Q (.panic c) (a.put oi.dst undef) w → Q (.panic c) a w := by exact fun _ _ _ h => h)
   (hd : oi.dst = some t := by rfl) (hf : freshE E t = true := by rfl) (hn : Nat.blt t n = true := by rfl) : wpG P ops Q S (fuel + 1) (pbits m b) a w := g_pass T hi hs hl hSi hQ hw hd hf hn h
theorem gqw (T : TmD df a n E) (i b' : Nat) {m b : Nat} (hi : ops[i]? = some oi) (hw : Region.wanted oi (yielded ops a.tmps) = true) (hr : ∀ L w', DC ops L → L.getD i true = false → S L w' → Runs P oi a v w') (h : ∀ a', TmD df a' n ((t, v) :: E) → wpG P ops Q S fuel (pbits m b') a' w)
   (hs : (Region.noSelect ops && Region.free .any ops (pbits m b) i && (Region.ready .any ops (pbits m b)).contains i) = true := by kernel_rfl) (hl : (pbits m b).setIfInBounds i true = pbits m b' := by kernel_rfl)
   (hSi : ∀ L w, S (L.setIfInBounds i true) w ↔ S L w := by repeat' (first | exact si_U | exact si_G rfl | refine si_and ?_ ?_)) (hQ : ∀ c a w, Q (.panic c) (a.put oi.dst v) w → Q (.panic c) a w := by exact fun _ _ _ h => h)
   (hd : oi.dst = some t := by rfl) (hf : freshE E t = true := by rfl) (hn : Nat.blt t n = true := by rfl) : wpG P ops Q S (fuel + 1) (pbits m b) a w := g_q T hi hs hl hSi hQ hw hd hf hn hr h
end
theorem fits_take {l : List Snd} {k : Nat} {x : Snd} (hx : l[k]? = some x) : fitsL (l.take (k + 1)) = (fitsL (l.take k) && hasB (-30) 30 x.t0 x.t1) := by
 unfold fitsL
 rw [List.take_add_one, hx]
 simp
theorem fits_no {l : List Snd} {k : Nat} {x : Snd} (hx : l[k]? = some x) (h : hasB (-30) 30 x.t0 x.t1 = false) : fitsL l = false := by
 unfold fitsL
 rw [List.all_eq_false]
 exact ⟨x, List.mem_of_getElem? hx, by rw [h]; simp⟩
theorem Beat_gen (b : Bx) (A : Option Addr) (c : Nat) (B : Option Addr) (d : Nat) (i k : Int) (w : World) (hA : Rd w w.heap.size 4 A b.lows.length (sc b.lows)) (hB : Rd w w.heap.size 4 B b.highs.length (sc b.highs)) (nA : b.lows.length ≤ 1000000) (nB : b.highs.length ≤ 1000000) :
   Calls Try.prog 21 #[bxV b A c B d, .int .i64 i, .int .i64 k] w fun e w' => ∃ A' c' I, e = .returned (.tuple #[.slice A' (beatE b i k).length c', .int .i64 (checkPB b i k)]) ∧ (∃ b1 o1, ∀ (w : World) (ex : Nat → Prop), Sp w ex I A' (beatE b i k).length 2 b1 o1 (rc (beatE b i k))) ∧ Mem w noEx w' I := by
 refine Calls.mono (Beat_any b A c B d i k w hA hB nA nB) fun e w' h => ?_
 obtain ⟨A', c', I, rfl, h2, h3⟩ := h
 exact ⟨A', c', I, rfl, h2.spV (rc_length _), h3⟩
theorem Match_gen (b : Bx) (A : Option Addr) (c : Nat) (B : Option Addr) (d : Nat) (w : World) (hA : Rd w w.heap.size 4 A b.lows.length (sc b.lows)) (hB : Rd w w.heap.size 4 B b.highs.length (sc b.highs)) (nA : b.lows.length ≤ 1000000) (nB : b.highs.length ≤ 1000000) :
   Calls Try.prog 27 #[bxV b A c B d] w fun e w' => ∃ A' c' I, e = .returned (.tuple #[.slice A' (matchE b).1.length c', .int .i64 (matchE b).2]) ∧ (∃ b1 o1, ∀ (w : World) (ex : Nat → Prop), Sp w ex I A' (matchE b).1.length 1 b1 o1 (ic (matchE b).1)) ∧ Mem w noEx w' I := by
 refine Calls.mono (Match_any b A c B d w hA hB nA nB) fun e w' h => ?_
 obtain ⟨A', c', I, rfl, _, h2, h3⟩ := h
 exact ⟨A', c', I, rfl, h2, h3⟩
theorem raised_beat {b : Bx} {by_ : Int} {i k : Nat} {x y : Snd} (hR : Raised b by_) (hx : b.lows[i]? = some x) (hy : b.highs[k]? = some y) : checkPB (chB b (b.lows.map (raiseS by_)) (b.highs.map (raiseS by_))) i k = 0 ∧ beatE (chB b (b.lows.map (raiseS by_)) (b.highs.map (raiseS by_))) i k = beatsL b.law x y := by
 obtain ⟨h1, h2, h3⟩ := pair_at (b := chB b (b.lows.map (raiseS by_)) (b.highs.map (raiseS by_))) (i := i) (k := k) (x := raiseS by_ x) (y := raiseS by_ y) hR.good (by show (b.lows.map (raiseS by_))[i]? = _; rw [List.getElem?_map, hx]; rfl) (by show (b.highs.map (raiseS by_))[k]? = _; rw [List.getElem?_map, hy]; rfl)
 refine ⟨h1, ?_⟩
 unfold beatE
 rw [if_pos h1, h2, h3]
 exact beats_raised _ _ _ _
theorem turned_pair {b : Bx} {due : Int} {i k : Nat} {x y : Snd} (hR : TurnedB b due) (hx : b.lows[i]? = some x) (hy : b.highs[k]? = some y) : checkPB (chB b (b.lows.map turnL) (b.highs.map (turnH due))) i k = 0 ∧ beatE (chB b (b.lows.map turnL) (b.highs.map (turnH due))) i k = beatsL b.law (turnL x) (turnH due y) ∧ keepsE (chB b (b.lows.map turnL) (b.highs.map (turnH due))) i k = keepsP b.law b.due [x, y] := by
 obtain ⟨h1, h2, h3⟩ := pair_at (b := chB b (b.lows.map turnL) (b.highs.map (turnH due))) (i := i) (k := k) (x := turnL x) (y := turnH due y) hR.good (by show (b.lows.map turnL)[i]? = _; rw [List.getElem?_map, hx]; rfl) (by show (b.highs.map (turnH due))[k]? = _; rw [List.getElem?_map, hy]; rfl)
 refine ⟨h1, ?_, ?_⟩
 · unfold beatE
   rw [if_pos h1, h2, h3]
 · unfold keepsE
   rw [if_pos h1, h2, h3]
   exact hR.keeps x (List.mem_of_getElem? hx) y (List.mem_of_getElem? hy)
theorem headD_at {α : Type} {l : List α} {d v : α} (h : l[0]? = some v) : l.headD d = v := by
 cases l with
 | nil => cases h
 | cons a r => injection h
theorem beats_zero {l : Lw} {x y : Snd} {v : Int × Int} (h : (beatsL l x y)[0]? = some v) : v = beatP x y 0 := by
 unfold beatsL at h
 rw [List.getElem?_map] at h
 cases hr : (List.range (l.press + 1).toNat)[0]? with
 | none => rw [hr] at h; cases h
 | some q =>
   rw [hr] at h
   injection h with h
   have hq := (List.getElem?_eq_some_iff.1 hr).1
   rw [List.length_range] at hq
   rw [List.getElem?_range hq] at hr
   injection hr with hr
   rw [← h, ← hr]
   rfl
set_option maxRecDepth 100000 in
set_option maxHeartbeats 1000000 in
theorem fits_any (b : Bx) (A : Option Addr) (c : Nat) (B : Option Addr) (d : Nat) (w : World) (hA : Rd w w.heap.size 4 A b.lows.length (sc b.lows)) (hB : Rd w w.heap.size 4 B b.highs.length (sc b.highs)) (nA : b.lows.length ≤ 1000000) (nB : b.highs.length ≤ 1000000)  :
   Calls Try.prog 40 #[bxV b A c B d] w fun e w' => e = .returned (.bool (fitsL b.lows && fitsL b.highs)) ∧ Below w.heap.size w w' := by
 have hlA := hA.len4
 have hlB := hB.len4
 obtain ⟨bA, oA, SA⟩ := Sp.old hA
 obtain ⟨bB, oB, SB⟩ := Sp.old hB
 refine px_enter noEx Try.func40 rfl 37 rfl [.agg #[.int .i64 b.first, .int .i64 b.step, .int .i64 b.span, .int .i64 b.press, .int .i64 b.note, .slice A b.lows.length c, .slice B b.highs.length d, .int .i64 b.t0, .int .i64 b.t1, .int .i64 b.r0, .int .i64 b.r1, .int .i64 b.u0, .int .i64 b.u1, .int .i64 b.d0, .int .i64 b.d1, .int .i64 b.a0, .int .i64 b.a1, .int .i64 b.b0, .int .i64 b.b1, .int .i64 b.le, .int .i64 b.me]] rfl rfl (Mem.init w _) ?_
 intro ac wc T M
 refine wp_seq ?_
 refine wp_region_lit ?_
 refine l_w rfl ?_; intro K hK
 refine ow_bx M T rfl rfl rfl rfl (T.ev 0 rfl) rfl ?_; clear M T; intro g1 wc ac M T
 refine sh_out hK _ _ ?_; clear hK K
 refine lq T (rn_assign rfl evc) ?_; clear T ac; intro ac T
 refine wpList_nil ?_
 replace T := T.pick [1] rfl
 refine nm_then ?_
 refine wp_seq ?_
 refine wp_seq ?_
 refine wp_region_lit ?_
 refine lq T (rn_assign rfl evc) ?_; clear T ac; intro ac T
 refine wpList_nil ?_
 refine nm_then ?_
 refine wp_block ?_
 refine wp_loop_n (fun mz ac wc => ∃ (k : Nat), mz = b.lows.length - k ∧ (k ≤ b.lows.length) ∧ (fitsL (b.lows.take k) = true) ∧ Tm ac 37 [(1, .pointer (some ⟨g1, 0, none⟩)), (3, .int .i64 (k : Int))] ∧ Mem w noEx wc [(g1, .cells (bxM b (.slice A b.lows.length c) (.slice B b.highs.length d)))]) ?_ ?_
 ·exact ⟨_, 0, rfl, (Nat.zero_le _), rfl, T.pick [1, 0] rfl, M.mask [true] rfl⟩
 clear T M
 rintro mz ac wc ⟨k, hmm1, hk, H, T, M⟩
 refine wp_seq ?_
 refine wp_seq ?_
 refine wp_region_lit ?_
 refine lq T (rn_move rfl (T.ev 1 rfl)) ?_; clear T ac; intro ac T
 refine lq (v := (.pointer (some ⟨g1, 5, none⟩))) T (rn_fieldAddr (off := 5) rfl (T.ev 1 rfl) (fun _ _ _ => by kernel_rfl)) ?_; clear T ac; intro ac T
 refine lq T (rn_one (Mem.nth M 0 rfl) rfl (T.ev 0 rfl) rfl) ?_; clear T ac; intro ac T
 refine lq T (rn_lenS rfl Try.underlying38 (T.ev 0 rfl)) ?_; clear T ac; intro ac T
 refine lq T (rn_lss rfl (T.ev 3 rfl) (T.ev 0 rfl)) ?_; clear T ac; intro ac T
 refine wpList_nil ?_
 replace T := T.pick [0, 5, 6] rfl
 refine nm_then ?_
 refine wp_if (T.ev 0 rfl) ?_ ?_
 ·intro h1
  obtain ⟨x, hkx, -⟩ := sc_next (l := b.lows) (k := k) (by omega)
  refine wp_skip ?_
  refine nm_then ?_
  refine wp_seq ?_
  refine wp_block ?_
  refine wp_seq ?_
  refine g_start2 M (M.mask [true] rfl) 9 (by kernel_rfl) rfl (by kernel_rfl) ?_
  clear M; intro wc M
  refine gq (v := (.pointer (some ⟨g1, 5, none⟩))) T 1 2 rfl (fun _ _ _ _ _ => (rn_fieldAddr (off := 5) rfl (T.ev 1 rfl) (fun _ _ _ => by kernel_rfl))) ?_; clear T ac; intro ac T
  refine gq T 2 6 rfl (fun B w' hD hl hS => (rn_one (Mem.nth (show Mem w noEx w' _ from hS) 0 rfl) rfl (T.ev 0 rfl) rfl)) ?_; clear T ac; intro ac T
  refine gq T 3 14 rfl (fun _ _ _ _ _ => (rn_move rfl (T.ev 4 rfl))) ?_; clear T ac; intro ac T
  refine gq T 4 30 rfl (fun _ _ _ _ _ => (rn_indexAddr (size := 4) k rfl (T.ev 1 rfl) (T.ev 0 rfl) ⟨_, Try.underlying38, by kernel_rfl⟩ rfl (by omega) (SA.at0 (by omega)))) ?_; clear T ac; intro ac T
  refine gq T 5 62 rfl (fun _ _ _ _ _ => (rn_fieldAddr (off := 0) rfl (T.ev 0 rfl) (fun _ _ _ => by kernel_rfl))) ?_; clear T ac; intro ac T
  refine gq (v := (.agg #[.int .i64 x.t0, .int .i64 x.t1])) T 6 126 rfl (fun B w' hD hl hS => (rn_rowat (Sp.scR02 SA (show Mem w noEx w' _ from hS) (List.nil_sublist _) hkx) rfl (T.ev 0 rfl) rfl)) ?_; clear T ac; intro ac T
  refine gw 0 127 ?_; intro K hK
  refine ow_call (first := []) (cap := []) T rfl rfl rfl rfl evf (.cons evc (.cons evc .nil)) Try.func24 rfl rfl ?_
  refine Calls.mono (to5_any (-30) 30 _) ?_
  clear T
  rintro e wc ⟨rfl, hb⟩
  intro ac T
  replace M := M.call hb; clear hb
  refine sh_out hK _ _ (M.mask [true] rfl) ?_; clear hK K
  refine gw 7 255 ?_; intro K hK
  refine ow_call (first := []) (cap := []) T rfl rfl rfl rfl evf (.cons (T.ev 0 rfl) (.cons (T.ev 1 rfl) .nil)) Try.func78 rfl rfl ?_
  refine Calls.mono (wider_any (-30) 30 x.t0 x.t1 _) ?_
  clear T
  rintro e wc ⟨rfl, hb⟩
  intro ac T
  replace M := M.call hb; clear hb
  refine sh_out hK _ _ (M.mask [true] rfl) ?_; clear hK K
  refine gq T 8 511 rfl (fun _ _ _ _ _ => (rn_not rfl (T.ev 0 rfl))) ?_; clear T ac; intro ac T
  refine g_done (by kernel_rfl) ?_
  replace T := T.pick [0, 10, 11] rfl
  refine nm_then ?_
  refine wp_cond_split (T.ev 0 rfl) ?_ ?_
  ·intro h2
   (try have h2' := h2; try simp only [Bool.and_eq_true, Bool.or_eq_true, Bool.not_eq_true', Bool.and_eq_false_imp, Bool.or_eq_false_iff, decide_eq_true_eq, decide_eq_false_iff_not] at h2')
   refine wp_seq ?_
   refine wp_region_lit ?_
   refine lq T (rn_assign rfl evc) ?_; clear T ac; intro ac T
   refine wpList_nil ?_
   replace T := T.pick [0] rfl
   replace M := M.mask [false] rfl
   refine nm_then ?_
   refine wp_ret ?_
   refine rt_blk ?_
   refine rt_then ?_
   refine rt_then ?_
   refine rt_blk ?_
   refine rt_then ?_
   refine rt_1 T rfl (T.ev 0 rfl) ?_
   have h9 := fits_no hkx (by simpa using h2)
   exact ⟨ret_bool (by rw [h9, Bool.false_and]), M.below⟩
  intro h2
  (try have h2' := h2; try simp only [Bool.and_eq_true, Bool.or_eq_true, Bool.not_eq_true', Bool.and_eq_false_imp, Bool.or_eq_false_iff, decide_eq_true_eq, decide_eq_false_iff_not] at h2')
  refine wp_skip ?_
  refine nm_blk ?_
  refine nm_then ?_
  refine wp_region_lit ?_
  refine lq T (rn_move rfl (T.ev 2 rfl)) ?_; clear T ac; intro ac T
  refine lq T (rn_add rfl (T.ev 0 rfl) evc (by omega)) ?_; clear T ac; intro ac T
  refine l_q (v := (.int .i64 ((k : Int) + 1))) (T.pick [0, 1, 2, 3] rfl) rfl rfl rfl rfl (rn_assign rfl (T.ev 0 rfl)) ?_; clear T ac; intro ac T
  refine wpList_nil ?_
  replace T := T.pick [0, 4] rfl
  refine nm_then ?_
  exact ⟨_, by omega, k + 1, rfl, (by omega), (by rw [fits_take hkx, H, Bool.true_and]; simpa using h2), T.pick [1, 0] rfl, M.mask [true] rfl⟩
 intro h1
 rw [List.take_of_length_le (by omega)] at H
 have H1 := H
 clear H
 refine wp_exit ?_
 refine ex_then ?_
 refine ex_then ?_
 refine ex_hit ?_
 refine nm_then ?_
 refine wp_seq ?_
 refine wp_seq ?_
 refine wp_region_lit ?_
 refine lq T (rn_assign rfl evc) ?_; clear T ac; intro ac T
 refine wpList_nil ?_
 replace T := T.pick [0, 2] rfl
 refine nm_then ?_
 refine wp_block ?_
 refine wp_loop_n (fun mz ac wc => ∃ (k : Nat), mz = b.highs.length - k ∧ (k ≤ b.highs.length) ∧ (fitsL (b.highs.take k) = true) ∧ Tm ac 37 [(1, .pointer (some ⟨g1, 0, none⟩)), (4, .int .i64 (k : Int))] ∧ Mem w noEx wc [(g1, .cells (bxM b (.slice A b.lows.length c) (.slice B b.highs.length d)))]) ?_ ?_
 ·exact ⟨_, 0, rfl, (Nat.zero_le _), rfl, T.pick [1, 0] rfl, M.mask [true] rfl⟩
 clear T M
 rintro mz ac wc ⟨k, hmm2, hk, H, T, M⟩
 refine wp_seq ?_
 refine wp_seq ?_
 refine wp_region_lit ?_
 refine lq T (rn_move rfl (T.ev 1 rfl)) ?_; clear T ac; intro ac T
 refine lq (v := (.pointer (some ⟨g1, 6, none⟩))) T (rn_fieldAddr (off := 6) rfl (T.ev 1 rfl) (fun _ _ _ => by kernel_rfl)) ?_; clear T ac; intro ac T
 refine lq T (rn_one (Mem.nth M 0 rfl) rfl (T.ev 0 rfl) rfl) ?_; clear T ac; intro ac T
 refine lq T (rn_lenS rfl Try.underlying38 (T.ev 0 rfl)) ?_; clear T ac; intro ac T
 refine lq T (rn_lss rfl (T.ev 3 rfl) (T.ev 0 rfl)) ?_; clear T ac; intro ac T
 refine wpList_nil ?_
 replace T := T.pick [0, 5, 6] rfl
 refine nm_then ?_
 refine wp_if (T.ev 0 rfl) ?_ ?_
 ·intro h3
  obtain ⟨x, hkx, -⟩ := sc_next (l := b.highs) (k := k) (by omega)
  refine wp_skip ?_
  refine nm_then ?_
  refine wp_seq ?_
  refine wp_block ?_
  refine wp_seq ?_
  refine g_start2 M (M.mask [true] rfl) 9 (by kernel_rfl) rfl (by kernel_rfl) ?_
  clear M; intro wc M
  refine gq (v := (.pointer (some ⟨g1, 6, none⟩))) T 1 2 rfl (fun _ _ _ _ _ => (rn_fieldAddr (off := 6) rfl (T.ev 1 rfl) (fun _ _ _ => by kernel_rfl))) ?_; clear T ac; intro ac T
  refine gq T 2 6 rfl (fun B w' hD hl hS => (rn_one (Mem.nth (show Mem w noEx w' _ from hS) 0 rfl) rfl (T.ev 0 rfl) rfl)) ?_; clear T ac; intro ac T
  refine gq T 3 14 rfl (fun _ _ _ _ _ => (rn_move rfl (T.ev 4 rfl))) ?_; clear T ac; intro ac T
  refine gq T 4 30 rfl (fun _ _ _ _ _ => (rn_indexAddr (size := 4) k rfl (T.ev 1 rfl) (T.ev 0 rfl) ⟨_, Try.underlying38, by kernel_rfl⟩ rfl (by omega) (SB.at0 (by omega)))) ?_; clear T ac; intro ac T
  refine gq T 5 62 rfl (fun _ _ _ _ _ => (rn_fieldAddr (off := 0) rfl (T.ev 0 rfl) (fun _ _ _ => by kernel_rfl))) ?_; clear T ac; intro ac T
  refine gq (v := (.agg #[.int .i64 x.t0, .int .i64 x.t1])) T 6 126 rfl (fun B w' hD hl hS => (rn_rowat (Sp.scR02 SB (show Mem w noEx w' _ from hS) (List.nil_sublist _) hkx) rfl (T.ev 0 rfl) rfl)) ?_; clear T ac; intro ac T
  refine gw 0 127 ?_; intro K hK
  refine ow_call (first := []) (cap := []) T rfl rfl rfl rfl evf (.cons evc (.cons evc .nil)) Try.func24 rfl rfl ?_
  refine Calls.mono (to5_any (-30) 30 _) ?_
  clear T
  rintro e wc ⟨rfl, hb⟩
  intro ac T
  replace M := M.call hb; clear hb
  refine sh_out hK _ _ (M.mask [true] rfl) ?_; clear hK K
  refine gw 7 255 ?_; intro K hK
  refine ow_call (first := []) (cap := []) T rfl rfl rfl rfl evf (.cons (T.ev 0 rfl) (.cons (T.ev 1 rfl) .nil)) Try.func78 rfl rfl ?_
  refine Calls.mono (wider_any (-30) 30 x.t0 x.t1 _) ?_
  clear T
  rintro e wc ⟨rfl, hb⟩
  intro ac T
  replace M := M.call hb; clear hb
  refine sh_out hK _ _ (M.mask [true] rfl) ?_; clear hK K
  refine gq T 8 511 rfl (fun _ _ _ _ _ => (rn_not rfl (T.ev 0 rfl))) ?_; clear T ac; intro ac T
  refine g_done (by kernel_rfl) ?_
  replace T := T.pick [0, 10, 11] rfl
  refine nm_then ?_
  refine wp_cond_split (T.ev 0 rfl) ?_ ?_
  ·intro h4
   (try have h4' := h4; try simp only [Bool.and_eq_true, Bool.or_eq_true, Bool.not_eq_true', Bool.and_eq_false_imp, Bool.or_eq_false_iff, decide_eq_true_eq, decide_eq_false_iff_not] at h4')
   refine wp_seq ?_
   refine wp_region_lit ?_
   refine lq T (rn_assign rfl evc) ?_; clear T ac; intro ac T
   refine wpList_nil ?_
   replace T := T.pick [0] rfl
   replace M := M.mask [false] rfl
   refine nm_then ?_
   refine wp_ret ?_
   refine rt_blk ?_
   refine rt_then ?_
   refine rt_then ?_
   refine rt_blk ?_
   refine rt_then ?_
   refine rt_1 T rfl (T.ev 0 rfl) ?_
   have h9 := fits_no hkx (by simpa using h4)
   exact ⟨ret_bool (by rw [h9, Bool.and_false]), M.below⟩
  intro h4
  (try have h4' := h4; try simp only [Bool.and_eq_true, Bool.or_eq_true, Bool.not_eq_true', Bool.and_eq_false_imp, Bool.or_eq_false_iff, decide_eq_true_eq, decide_eq_false_iff_not] at h4')
  refine wp_skip ?_
  refine nm_blk ?_
  refine nm_then ?_
  refine wp_region_lit ?_
  refine lq T (rn_move rfl (T.ev 2 rfl)) ?_; clear T ac; intro ac T
  refine lq T (rn_add rfl (T.ev 0 rfl) evc (by omega)) ?_; clear T ac; intro ac T
  refine l_q (v := (.int .i64 ((k : Int) + 1))) (T.pick [0, 1, 2, 3] rfl) rfl rfl rfl rfl (rn_assign rfl (T.ev 0 rfl)) ?_; clear T ac; intro ac T
  refine wpList_nil ?_
  replace T := T.pick [0, 4] rfl
  refine nm_then ?_
  exact ⟨_, by omega, k + 1, rfl, (by omega), (by rw [fits_take hkx, H, Bool.true_and]; simpa using h4), T.pick [1, 0] rfl, M.mask [true] rfl⟩
 intro h3
 rw [List.take_of_length_le (by omega)] at H
 refine wp_exit ?_
 refine ex_then ?_
 refine ex_then ?_
 refine ex_hit ?_
 refine nm_then ?_
 refine wp_seq ?_
 refine wp_region_lit ?_
 refine lq T (rn_assign rfl evc) ?_; clear T ac; intro ac T
 refine wpList_nil ?_
 replace T := T.pick [0] rfl
 replace M := M.mask [false] rfl
 refine nm_then ?_
 refine wp_ret ?_
 refine rt_1 T rfl (T.ev 0 rfl) ?_
 exact ⟨ret_bool (by rw [H1, H]; rfl), M.below⟩
set_option maxRecDepth 100000 in
set_option maxHeartbeats 4000000 in
theorem VoiceRaised_any (D : Option Addr) (n d : Nat) (l : List Int) (w : World) (hl : Rd w w.heap.size 1 D n (ic l)) (hm : n ≤ 9223372036854775807) :
   Calls Try.prog 8 #[.slice D n d] w fun e w' => e = .returned (.bool true) ∧ Below w.heap.size w w' := by
 have hll := hl.len1
 obtain ⟨bI, oI, SI⟩ := Sp.old hl
 refine px_enter noEx Try.func8 rfl 337 rfl [.slice D n d] rfl rfl (Mem.init w _) ?_
 intro ac wc T M
 refine wp_seq ?_
 refine wp_region_lit ?_
 refine lq T (rn_assign rfl evc) ?_; clear T ac; intro ac T
 refine wpList_nil ?_
 replace T := T.pick [1] rfl
 refine nm_then ?_
 refine wp_seq ?_
 refine wp_region_lit ?_
 refine lq T (rn_move rfl (T.ev 0 rfl)) ?_; clear T ac; intro ac T
 refine l_w rfl ?_; intro K hK
 refine ow_call (first := []) (cap := []) T rfl rfl rfl rfl evf (.cons (T.ev 0 rfl) .nil) Try.func12 rfl rfl ?_
 refine Calls.mono (newPot_any _ _ _ l _ (SI.rd M (List.nil_sublist _)) (by omega)) ?_
 clear T
 rintro e wc ⟨bpu1, su1, hsu1, rfl, N⟩
 intro ac T
 replace M := M.join N; clear N
 replace M := M.mask [true] rfl
 refine sh_out hK _ _ ?_; clear hK K
 refine lq T (rn_assign rfl (T.ev 0 rfl)) ?_; clear T ac; intro ac T
 refine wpList_nil ?_
 replace T := T.pick [0] rfl
 refine nm_then ?_
 refine wp_seq ?_
 refine wp_region_lit ?_
 refine lq T (rn_move rfl (T.ev 0 rfl)) ?_; clear T ac; intro ac T
 refine l_w rfl ?_; intro K hK
 refine ow_call (first := []) (cap := []) T rfl rfl rfl rfl evf (.cons (T.ev 0 rfl) (.cons evc (.cons evc (.cons evc .nil)))) Try.func18 rfl rfl ?_
 refine Calls.mono (boxOf_any _ bpu1 3 3 2 _ (by omega) (by omega) (by omega) (M.nth 0 rfl) hsu1) ?_
 clear T
 rintro e wc ⟨bu2, Au2, cu2, Bu2, du2, su2, Iu2, rfl, hmu2, hsu2, SAu2, SBu2, N⟩
 intro ac T
 obtain ⟨b1u2, o1u2, SAu2⟩ := SAu2
 replace SAu2 := SAu2 w noEx
 obtain ⟨b2u2, o2u2, SBu2⟩ := SBu2
 replace SBu2 := SBu2 w noEx
 replace M := (M.joinW .head N).swapI
 clear N
 replace M : Mem w noEx wc ((bpu1, .cells [.int .u64 su2]) :: Iu2) := M
 have hgu2 := hmu2.good
 have nlu2 := hgu2.lows.1
 have nhu2 := hgu2.highs.1
 have hstu2 := step_bd (notes := 3) hmu2.law.step hmu2.note
 have hnou2 := hmu2.note
 have ⟨hfu2, hzu2, hpu2, hqu2⟩ := hmu2.law
 dsimp only at hstu2 hfu2 hpu2 hqu2
 refine sh_out hK _ _ ?_; clear hK K
 refine l_w rfl ?_; intro K hK
 refine ow_al M T rfl rfl rfl rfl ?_; clear M T; intro g1 wc ac M T
 refine sh_out hK _ _ ?_; clear hK K
 refine l_w rfl ?_; intro K hK
 refine ow_stO M T rfl rfl (T.ev 0 rfl) (T.ev 1 rfl) rfl .head rfl (by simp) rfl (by kernel_rfl) ?_; clear M T; intro wc ac M T
 refine sh_out hK _ _ ?_; clear hK K
 refine wpList_nil ?_
 replace T := T.pick [0, 3] rfl
 refine nm_then ?_
 refine wp_seq ?_
 refine wp_region_lit ?_
 refine lq T (rn_move rfl (T.ev 1 rfl)) ?_; clear T ac; intro ac T
 refine l_w rfl ?_; intro K hK
 refine ow_call (first := []) (cap := []) T rfl rfl rfl rfl evf (.cons (T.ev 0 rfl) (.cons evc (.cons evc .nil))) Try.func19 rfl rfl ?_
 refine Calls.mono (within_pot _ bpu1 (-8) 8 _ (by omega) (by omega) (by omega) (M.nth 1 rfl) hsu2) ?_
 clear T
 rintro e wc ⟨xu3, su3, hxu3, hsu3, rfl, hgr, hbk⟩
 intro ac T
 replace M := M.callC (cs' := [.int .u64 su3]) (.tail .head) hgr hbk
 clear hgr hbk
 refine sh_out hK _ _ ?_; clear hK K
 refine lq T (rn_assign rfl (T.ev 0 rfl)) ?_; clear T ac; intro ac T
 refine wpList_nil ?_
 replace T := T.pick [0, 3] rfl
 replace M := M.mask [true, false] rfl
 refine nm_then ?_
 refine wp_seq ?_
 refine wp_region_lit ?_
 refine lq (v := (.pointer (some ⟨g1, 0, none⟩))) T (rn_fieldAddr (off := 0) rfl (T.ev 1 rfl) (fun _ _ _ => by kernel_rfl)) ?_; clear T ac; intro ac T
 refine lq (v := (.pointer (some ⟨g1, 0, none⟩))) T (rn_fieldAddr (off := 0) rfl (T.ev 0 rfl) (fun _ _ _ => by kernel_rfl)) ?_; clear T ac; intro ac T
 refine lq T (rn_one (Mem.nth M 0 rfl) rfl (T.ev 0 rfl) rfl) ?_; clear T ac; intro ac T
 refine lq (v := (.pointer (some ⟨g1, 0, none⟩))) T (rn_fieldAddr (off := 0) rfl (T.ev 4 rfl) (fun _ _ _ => by kernel_rfl)) ?_; clear T ac; intro ac T
 refine lq (v := (.pointer (some ⟨g1, 1, none⟩))) T (rn_fieldAddr (off := 1) rfl (T.ev 0 rfl) (fun _ _ _ => by kernel_rfl)) ?_; clear T ac; intro ac T
 refine lq T (rn_one (Mem.nth M 0 rfl) rfl (T.ev 0 rfl) rfl) ?_; clear T ac; intro ac T
 refine lq (v := (.pointer (some ⟨g1, 4, none⟩))) T (rn_fieldAddr (off := 4) rfl (T.ev 7 rfl) (fun _ _ _ => by kernel_rfl)) ?_; clear T ac; intro ac T
 refine lq T (rn_one (Mem.nth M 0 rfl) rfl (T.ev 0 rfl) rfl) ?_; clear T ac; intro ac T
 refine lq T (rn_mul rfl (T.ev 2 rfl) (T.ev 0 rfl) (by omega)) ?_; clear T ac; intro ac T
 refine lq T (rn_add rfl (T.ev 6 rfl) (T.ev 0 rfl) (by omega)) ?_; clear T ac; intro ac T
 refine lq T (rn_assign rfl (T.ev 0 rfl)) ?_; clear T ac; intro ac T
 refine wpList_nil ?_
 replace T := T.pick [0, 11, 12] rfl
 refine nm_then ?_
 refine wp_seq ?_
 refine g_start2 M (M.mask [true] rfl) 8 (by kernel_rfl) rfl (by kernel_rfl) ?_
 clear M; intro wc M
 refine g_have (fun ac wc => ∃ (c1ur5_1 : Nat), ∃ (y1ur5_1 : List Value), ∃ (c2ur5_1 : Nat), ∃ (y2ur5_1 : List Value), ∃ (c1ur5_3 : Nat), ∃ (y1ur5_3 : List Value), ∃ (c2ur5_3 : Nat), ∃ (y2ur5_3 : List Value), ∃ (g1ur5_3 g2ur5_3 gr5_4 gr5_5 g1ur5_1 g2ur5_1 : Nat), Tm ac 337 [(54, .agg #[.int .i64 bu2.first, .int .i64 bu2.step, .int .i64 bu2.span, .int .i64 bu2.press, .int .i64 bu2.note, .slice (some ⟨g1ur5_3, 0, none⟩) bu2.lows.length c1ur5_3, .slice (some ⟨g2ur5_3, 0, none⟩) bu2.highs.length c2ur5_3, .int .i64 bu2.t0, .int .i64 bu2.t1, .int .i64 bu2.r0, .int .i64 bu2.r1, .int .i64 bu2.u0, .int .i64 bu2.u1, .int .i64 bu2.d0, .int .i64 bu2.d1, .int .i64 bu2.a0, .int .i64 bu2.a1, .int .i64 bu2.b0, .int .i64 bu2.b1, .int .i64 bu2.le, .int .i64 bu2.me]), (7, .pointer (some ⟨gr5_4, 0, none⟩)), (8, .pointer (some ⟨gr5_5, 0, none⟩)), (52, .agg #[.int .i64 bu2.first, .int .i64 bu2.step, .int .i64 bu2.span, .int .i64 bu2.press, .int .i64 bu2.note, .slice (some ⟨g1ur5_1, 0, none⟩) bu2.lows.length c1ur5_1, .slice (some ⟨g2ur5_1, 0, none⟩) bu2.highs.length c2ur5_1, .int .i64 bu2.t0, .int .i64 bu2.t1, .int .i64 bu2.r0, .int .i64 bu2.r1, .int .i64 bu2.u0, .int .i64 bu2.u1, .int .i64 bu2.d0, .int .i64 bu2.d1, .int .i64 bu2.a0, .int .i64 bu2.a1, .int .i64 bu2.b0, .int .i64 bu2.b1, .int .i64 bu2.le, .int .i64 bu2.me]), (53, .agg #[.int .i64 bu2.first, .int .i64 bu2.step, .int .i64 bu2.span, .int .i64 bu2.press, .int .i64 bu2.note, .slice Au2 bu2.lows.length cu2, .slice Bu2 bu2.highs.length du2, .int .i64 bu2.t0, .int .i64 bu2.t1, .int .i64 bu2.r0, .int .i64 bu2.r1, .int .i64 bu2.u0, .int .i64 bu2.u1, .int .i64 bu2.d0, .int .i64 bu2.d1, .int .i64 bu2.a0, .int .i64 bu2.a1, .int .i64 bu2.b0, .int .i64 bu2.b1, .int .i64 bu2.le, .int .i64 bu2.me]), (51, .agg #[.int .i64 bu2.first, .int .i64 bu2.step, .int .i64 bu2.span, .int .i64 bu2.press, .int .i64 bu2.note, .slice Au2 bu2.lows.length cu2, .slice Bu2 bu2.highs.length du2, .int .i64 bu2.t0, .int .i64 bu2.t1, .int .i64 bu2.r0, .int .i64 bu2.r1, .int .i64 bu2.u0, .int .i64 bu2.u1, .int .i64 bu2.d0, .int .i64 bu2.d1, .int .i64 bu2.a0, .int .i64 bu2.a1, .int .i64 bu2.b0, .int .i64 bu2.b1, .int .i64 bu2.le, .int .i64 bu2.me]), (6, .int .i64 (bu2.first + (bu2.step * bu2.note))), (5, .int .i64 xu3), (4, .pointer (some ⟨g1, 0, none⟩))] ∧ Mem w noEx wc ((g1ur5_3, .cells (sc bu2.lows ++ y1ur5_3)) :: (g2ur5_3, .cells (sc bu2.highs ++ y2ur5_3)) :: (gr5_4, .cells [.int .i64 0, .int .i64 0, .int .i64 0, .int .i64 0, .int .i64 0, .slice none 0 0, .slice none 0 0, .int .i64 0, .int .i64 0, .int .i64 0, .int .i64 0, .int .i64 0, .int .i64 0, .int .i64 0, .int .i64 0, .int .i64 0, .int .i64 0, .int .i64 0, .int .i64 0, .int .i64 0, .int .i64 0]) :: (gr5_5, .cells [.int .i64 0, .int .i64 0, .int .i64 0, .int .i64 0, .int .i64 0, .slice none 0 0, .slice none 0 0, .int .i64 0, .int .i64 0, .int .i64 0, .int .i64 0, .int .i64 0, .int .i64 0, .int .i64 0, .int .i64 0, .int .i64 0, .int .i64 0, .int .i64 0, .int .i64 0, .int .i64 0, .int .i64 0]) :: (g1ur5_1, .cells (sc bu2.lows ++ y1ur5_1)) :: (g2ur5_1, .cells (sc bu2.highs ++ y2ur5_1)) :: (g1, .cells (bxM bu2 (.slice Au2 bu2.lows.length cu2) (.slice Bu2 bu2.highs.length du2))) :: Iu2)) (pbits 8 63) 2 ?_ ?_
 ·clear T M
  rintro ac wc ⟨c1ur5_1, y1ur5_1, c2ur5_1, y2ur5_1, c1ur5_3, y1ur5_3, c2ur5_3, y2ur5_3, g1ur5_3, g2ur5_3, gr5_4, gr5_5, g1ur5_1, g2ur5_1, T, M⟩
  refine gw 6 127 ?_; intro K hK
  refine ow_stO M T rfl rfl (T.ev 1 rfl) (T.ev 3 rfl) rfl (.tail (.tail .head)) rfl (by simp) rfl (by kernel_rfl) ?_; clear M T; intro wc ac M T
  refine sh_out hK _ _ (M.mask [false, false, false, false, false, false, true] rfl) ?_; clear hK K
  refine gw 7 255 ?_; intro K hK
  refine ow_stO M T rfl rfl (T.ev 2 rfl) (T.ev 0 rfl) rfl (.tail (.tail (.tail .head))) rfl (by simp) rfl (by kernel_rfl) ?_; clear M T; intro wc ac M T
  refine sh_out hK _ _ (M.mask [false, false, false, false, false, false, true] rfl) ?_; clear hK K
  refine g_done (by kernel_rfl) ?_
  replace T := T.pick [1, 2, 6, 7, 8] rfl
  refine nm_then ?_
  refine wp_seq ?_
  refine wp_seq ?_
  refine wp_region_lit ?_
  refine lq T (rn_assign rfl evc) ?_; clear T ac; intro ac T
  refine wpList_nil ?_
  refine nm_then ?_
  refine wp_block ?_
  refine wp_loop_n (fun mz ac wc => ∃ (k : Nat) (lx ly : List Snd), mz = bu2.lows.length - k ∧ (k ≤ bu2.lows.length) ∧ (MapK (raiseS xu3) bu2.lows lx k) ∧ (MapK turnL bu2.lows ly k) ∧ Tm ac 337 [(4, .pointer (some ⟨g1, 0, none⟩)), (5, .int .i64 xu3), (6, .int .i64 (bu2.first + (bu2.step * bu2.note))), (7, .pointer (some ⟨gr5_4, 0, none⟩)), (8, .pointer (some ⟨gr5_5, 0, none⟩)), (9, .int .i64 (k : Int))] ∧ Mem w noEx wc ((g1ur5_3, .cells (sc ly ++ y1ur5_3)) :: (g2ur5_3, .cells (sc bu2.highs ++ y2ur5_3)) :: (gr5_4, .cells (bxM bu2 (.slice (some ⟨g1ur5_1, 0, none⟩) lx.length c1ur5_1) (.slice (some ⟨g2ur5_1, 0, none⟩) bu2.highs.length c2ur5_1))) :: (gr5_5, .cells (bxM bu2 (.slice (some ⟨g1ur5_3, 0, none⟩) ly.length c1ur5_3) (.slice (some ⟨g2ur5_3, 0, none⟩) bu2.highs.length c2ur5_3))) :: (g1ur5_1, .cells (sc lx ++ y1ur5_1)) :: (g2ur5_1, .cells (sc bu2.highs ++ y2ur5_1)) :: (g1, .cells (bxM bu2 (.slice Au2 bu2.lows.length cu2) (.slice Bu2 bu2.highs.length du2))) :: Iu2)) ?_ ?_
  ·exact ⟨_, 0, bu2.lows, bu2.lows, rfl, (Nat.zero_le _), (MapK.start _ _), (MapK.start _ _), T.pick [5, 4, 3, 1, 2, 0] rfl, M.mask [true, true, true, true, true, true, true] rfl⟩
  clear T M
  rintro mz ac wc ⟨k, lx, ly, hmm1, hkk, hMlx, hMly, T, M⟩
  have hKnlx := hMlx.n
  have hKnly := hMly.n
  refine wp_seq ?_
  refine wp_seq ?_
  refine wp_region_lit ?_
  refine lq T (rn_move rfl (T.ev 5 rfl)) ?_; clear T ac; intro ac T
  refine lq (v := (.pointer (some ⟨g1, 5, none⟩))) T (rn_fieldAddr (off := 5) rfl (T.ev 1 rfl) (fun _ _ _ => by kernel_rfl)) ?_; clear T ac; intro ac T
  refine lq T (rn_one (Mem.nth M 6 rfl) rfl (T.ev 0 rfl) rfl) ?_; clear T ac; intro ac T
  refine lq T (rn_lenS rfl Try.underlying38 (T.ev 0 rfl)) ?_; clear T ac; intro ac T
  refine lq T (rn_lss rfl (T.ev 3 rfl) (T.ev 0 rfl)) ?_; clear T ac; intro ac T
  refine wpList_nil ?_
  replace T := T.pick [0, 5, 6, 7, 8, 9, 10] rfl
  refine nm_then ?_
  refine wp_if (T.ev 0 rfl) ?_ ?_
  ·intro h1
   obtain ⟨x, hkx, -⟩ := sc_next (l := bu2.lows) (k := k) (by omega)
   have ⟨gx1, gx2⟩ := hgu2.lows.2 x (List.mem_of_getElem? hkx)
   have hqx := (hMlx.b k (Nat.le_refl _)).trans hkx
   have hrx := (hMly.b k (Nat.le_refl _)).trans hkx
   have Slx := Sp.pre (w := w) (ex := noEx) (size := 4) (n := lx.length) (g := g1ur5_1) (xs := sc lx) (ys := y1ur5_1) (by simp [sc_length])
   have Sly := Sp.pre (w := w) (ex := noEx) (size := 4) (n := ly.length) (g := g1ur5_3) (xs := sc ly) (ys := y1ur5_3) (by simp [sc_length])
   refine wp_skip ?_
   refine nm_then ?_
   refine wp_seq ?_
   refine wp_block ?_
   refine wp_seq ?_
   refine wp_region_lit ?_
   refine lq (v := (.pointer (some ⟨g1, 5, none⟩))) T (rn_fieldAddr (off := 5) rfl (T.ev 1 rfl) (fun _ _ _ => by kernel_rfl)) ?_; clear T ac; intro ac T
   refine lq T (rn_one (Mem.nth M 6 rfl) rfl (T.ev 0 rfl) rfl) ?_; clear T ac; intro ac T
   refine lq T (rn_move rfl (T.ev 8 rfl)) ?_; clear T ac; intro ac T
   refine lq T (rn_indexAddr (size := 4) k rfl (T.ev 1 rfl) (T.ev 0 rfl) ⟨_, Try.underlying38, by kernel_rfl⟩ rfl (by omega) (SAu2.at0 (by omega))) ?_; clear T ac; intro ac T
   refine lq (v := (.agg #[.int .i64 x.t0, .int .i64 x.t1, .int .i64 x.s0, .int .i64 x.s1])) T (rn_rowat (Sp.scR4 SAu2 M (.cons _ (.cons _ (.cons _ (.cons _ (.cons _ (.cons _ (.cons _ (List.Sublist.refl _)))))))) hkx) rfl (T.ev 0 rfl) rfl) ?_; clear T ac; intro ac T
   refine l_w rfl ?_; intro K hK
   refine ow_al M T rfl rfl rfl rfl ?_; clear M T; intro g2 wc ac M T
   refine sh_out hK _ _ ?_; clear hK K
   refine l_w rfl ?_; intro K hK
   refine ow_stO M T rfl rfl (T.ev 0 rfl) (T.ev 1 rfl) rfl .head rfl (by simp) rfl (by kernel_rfl) ?_; clear M T; intro wc ac M T
   refine sh_out hK _ _ ?_; clear hK K
   refine wpList_nil ?_
   replace T := T.pick [0, 7, 8, 9, 10, 11, 12] rfl
   refine nm_then ?_
   refine wp_seq ?_
   refine g_start2 M (M.mask [false, false, false, false, false, false, false, false] rfl) 17 (by kernel_rfl) rfl (by kernel_rfl) ?_
   clear M; intro wc M
   refine g_addG 16 M ?_
   refine gq (v := (.pointer (some ⟨gr5_4, 5, none⟩))) T 0 1 rfl (fun _ _ _ _ _ => (rn_fieldAddr (off := 5) rfl (T.ev 4 rfl) (fun _ _ _ => by kernel_rfl))) ?_; clear T ac; intro ac T
   refine gq T 1 3 rfl (fun B w' hD hl hS => (rn_one (Mem.nth (show Mem w noEx w' _ from ((MA.lft hS) (hD.wait (i := 1) (m := 16) (by kernel_rfl) hl))) 3 rfl) rfl (T.ev 0 rfl) rfl)) ?_; clear T ac; intro ac T
   refine gq T 2 7 rfl (fun _ _ _ _ _ => (rn_move rfl (T.ev 8 rfl))) ?_; clear T ac; intro ac T
   refine gq (v := (.pointer (some ⟨g2, 0, none⟩))) T 3 15 rfl (fun _ _ _ _ _ => (rn_fieldAddr (off := 0) rfl (T.ev 3 rfl) (fun _ _ _ => by kernel_rfl))) ?_; clear T ac; intro ac T
   refine gq (v := (.pointer (some ⟨g2, 0, none⟩))) T 4 31 rfl (fun _ _ _ _ _ => (rn_fieldAddr (off := 0) rfl (T.ev 0 rfl) (fun _ _ _ => by kernel_rfl))) ?_; clear T ac; intro ac T
   refine gq T 5 63 rfl (fun B w' hD hl hS => (rn_one (Mem.nth (show Mem w noEx w' _ from ((MA.lft hS) (hD.wait (i := 5) (m := 16) (by kernel_rfl) hl))) 0 rfl) rfl (T.ev 0 rfl) rfl)) ?_; clear T ac; intro ac T
   refine gq T 6 127 rfl (fun _ _ _ _ _ => (rn_move rfl (T.ev 8 rfl))) ?_; clear T ac; intro ac T
   refine gq T 7 255 rfl (fun _ _ _ _ _ => (rn_add rfl (T.ev 1 rfl) (T.ev 0 rfl) (by omega))) ?_; clear T ac; intro ac T
   refine gq (v := (.pointer (some ⟨g2, 0, none⟩))) T 8 511 rfl (fun _ _ _ _ _ => (rn_fieldAddr (off := 0) rfl (T.ev 8 rfl) (fun _ _ _ => by kernel_rfl))) ?_; clear T ac; intro ac T
   refine gq (v := (.pointer (some ⟨g2, 1, none⟩))) T 9 1023 rfl (fun _ _ _ _ _ => (rn_fieldAddr (off := 1) rfl (T.ev 0 rfl) (fun _ _ _ => by kernel_rfl))) ?_; clear T ac; intro ac T
   refine gq T 10 2047 rfl (fun B w' hD hl hS => (rn_one (Mem.nth (show Mem w noEx w' _ from ((MA.lft hS) (hD.wait (i := 10) (m := 16) (by kernel_rfl) hl))) 0 rfl) rfl (T.ev 0 rfl) rfl)) ?_; clear T ac; intro ac T
   refine gq T 11 4095 rfl (fun _ _ _ _ _ => (rn_move rfl (T.ev 13 rfl))) ?_; clear T ac; intro ac T
   refine gq T 12 8191 rfl (fun _ _ _ _ _ => (rn_add rfl (T.ev 1 rfl) (T.ev 0 rfl) (by omega))) ?_; clear T ac; intro ac T
   refine gw 13 16383 ?_; intro K hK
   refine ow_call (first := []) (cap := []) T rfl rfl rfl rfl evf (.cons (T.ev 5 rfl) (.cons (T.ev 0 rfl) .nil)) Try.func24 rfl rfl ?_
   refine Calls.mono (to5_any (x.t0 + xu3) (x.t1 + xu3) _) ?_
   clear T
   rintro e wc ⟨rfl, hb⟩
   intro ac T
   replace M := M.call hb; clear hb
   refine sh_out hK _ _ (MA.mk (fun _ => M.mask [true, true, true, true, true, true, true, true] rfl) (M.mask [false, false, false, false, false, false, false, false] rfl)) ?_; clear hK K
   refine gq T 14 32767 rfl (fun _ _ _ _ _ => (rn_indexAddr (size := 4) k rfl (T.ev 12 rfl) (T.ev 11 rfl) ⟨_, Try.underlying38, by kernel_rfl⟩ rfl (by omega) rfl)) ?_; clear T ac; intro ac T
   refine gq T 15 65535 rfl (fun _ _ _ _ _ => (rn_fieldAddr (off := 0) rfl (T.ev 0 rfl) (fun _ _ _ => by kernel_rfl))) ?_; clear T ac; intro ac T
   refine gw 16 131071 ?_; intro K hK
   refine ow_stS2 M T rfl rfl (T.ev 0 rfl) (T.ev 2 rfl) hqx (.tail (.tail (.tail (.tail (.tail .head))))) (by omega) rfl ?_; clear M T; intro wc ac M T
   obtain ⟨lo1, hlo1⟩ : ∃ q, q = lx.set k ({ x with t0 := (x.t0 + xu3), t1 := (x.t1 + xu3) } : Snd) := ⟨_, rfl⟩
   have lhlo1 : lx.length = lo1.length := by rw [hlo1, List.length_set]
   rw [← hlo1] at M; (try rw [lhlo1] at M); (try rw [lhlo1] at T)
   have Ss1 := Sp.pre (w := w) (ex := noEx) (size := 4) (n := lo1.length) (g := g1ur5_1) (xs := sc lo1) (ys := y1ur5_1) (by simp [sc_length])
   refine sh_out hK _ _ (MA.mk (fun h => (no_of (by kernel_rfl) h).elim) (M.mask [false, false, false, false, false, false, false, false] rfl)) ?_; clear hK K
   refine g_done (by kernel_rfl) ?_
   replace T := T.pick [16, 17, 18, 19, 20, 21, 22] rfl
   refine nm_then ?_
   refine g_start2 M (M.mask [false, false, false, false, false, false, false, false] rfl) 24 (by kernel_rfl) rfl (by kernel_rfl) ?_
   clear M; intro wc M
   refine g_addG 23 M ?_
   refine gq (v := (.pointer (some ⟨gr5_5, 5, none⟩))) T 0 1 rfl (fun _ _ _ _ _ => (rn_fieldAddr (off := 5) rfl (T.ev 5 rfl) (fun _ _ _ => by kernel_rfl))) ?_; clear T ac; intro ac T
   refine gq T 1 3 rfl (fun B w' hD hl hS => (rn_one (Mem.nth (show Mem w noEx w' _ from ((MA.lft hS) (hD.wait (i := 1) (m := 23) (by kernel_rfl) hl))) 4 rfl) rfl (T.ev 0 rfl) rfl)) ?_; clear T ac; intro ac T
   refine gq T 2 7 rfl (fun _ _ _ _ _ => (rn_move rfl (T.ev 8 rfl))) ?_; clear T ac; intro ac T
   refine gq (v := (.pointer (some ⟨g2, 0, none⟩))) T 3 15 rfl (fun _ _ _ _ _ => (rn_fieldAddr (off := 0) rfl (T.ev 3 rfl) (fun _ _ _ => by kernel_rfl))) ?_; clear T ac; intro ac T
   refine gq (v := (.pointer (some ⟨g2, 1, none⟩))) T 4 31 rfl (fun _ _ _ _ _ => (rn_fieldAddr (off := 1) rfl (T.ev 0 rfl) (fun _ _ _ => by kernel_rfl))) ?_; clear T ac; intro ac T
   refine gq T 5 63 rfl (fun B w' hD hl hS => (rn_one (Mem.nth (show Mem w noEx w' _ from ((MA.lft hS) (hD.wait (i := 5) (m := 23) (by kernel_rfl) hl))) 0 rfl) rfl (T.ev 0 rfl) rfl)) ?_; clear T ac; intro ac T
   refine gq T 6 127 rfl (fun _ _ _ _ _ => (rn_neg rfl (T.ev 0 rfl) (by omega))) ?_; clear T ac; intro ac T
   refine gq (v := (.pointer (some ⟨g2, 0, none⟩))) T 7 255 rfl (fun _ _ _ _ _ => (rn_fieldAddr (off := 0) rfl (T.ev 7 rfl) (fun _ _ _ => by kernel_rfl))) ?_; clear T ac; intro ac T
   refine gq (v := (.pointer (some ⟨g2, 0, none⟩))) T 8 511 rfl (fun _ _ _ _ _ => (rn_fieldAddr (off := 0) rfl (T.ev 0 rfl) (fun _ _ _ => by kernel_rfl))) ?_; clear T ac; intro ac T
   refine gq T 9 1023 rfl (fun B w' hD hl hS => (rn_one (Mem.nth (show Mem w noEx w' _ from ((MA.lft hS) (hD.wait (i := 9) (m := 23) (by kernel_rfl) hl))) 0 rfl) rfl (T.ev 0 rfl) rfl)) ?_; clear T ac; intro ac T
   refine gq T 10 2047 rfl (fun _ _ _ _ _ => (rn_neg rfl (T.ev 0 rfl) (by omega))) ?_; clear T ac; intro ac T
   refine gq (v := (.pointer (some ⟨g2, 2, none⟩))) T 12 6143 rfl (fun _ _ _ _ _ => (rn_fieldAddr (off := 2) rfl (T.ev 11 rfl) (fun _ _ _ => by kernel_rfl))) ?_; clear T ac; intro ac T
   refine gq (v := (.pointer (some ⟨g2, 3, none⟩))) T 13 14335 rfl (fun _ _ _ _ _ => (rn_fieldAddr (off := 1) rfl (T.ev 0 rfl) (fun _ _ _ => by kernel_rfl))) ?_; clear T ac; intro ac T
   refine gq T 14 30719 rfl (fun B w' hD hl hS => (rn_one (Mem.nth (show Mem w noEx w' _ from ((MA.lft hS) (hD.wait (i := 14) (m := 23) (by kernel_rfl) hl))) 0 rfl) rfl (T.ev 0 rfl) rfl)) ?_; clear T ac; intro ac T
   refine gq T 15 63487 rfl (fun _ _ _ _ _ => (rn_neg rfl (T.ev 0 rfl) (by omega))) ?_; clear T ac; intro ac T
   refine gq (v := (.pointer (some ⟨g2, 2, none⟩))) T 16 129023 rfl (fun _ _ _ _ _ => (rn_fieldAddr (off := 2) rfl (T.ev 15 rfl) (fun _ _ _ => by kernel_rfl))) ?_; clear T ac; intro ac T
   refine gq (v := (.pointer (some ⟨g2, 2, none⟩))) T 17 260095 rfl (fun _ _ _ _ _ => (rn_fieldAddr (off := 0) rfl (T.ev 0 rfl) (fun _ _ _ => by kernel_rfl))) ?_; clear T ac; intro ac T
   refine gq T 18 522239 rfl (fun B w' hD hl hS => (rn_one (Mem.nth (show Mem w noEx w' _ from ((MA.lft hS) (hD.wait (i := 18) (m := 23) (by kernel_rfl) hl))) 0 rfl) rfl (T.ev 0 rfl) rfl)) ?_; clear T ac; intro ac T
   refine gq T 19 1046527 rfl (fun _ _ _ _ _ => (rn_neg rfl (T.ev 0 rfl) (by omega))) ?_; clear T ac; intro ac T
   refine gw 11 1048575 ?_; intro K hK
   refine ow_call (first := []) (cap := []) T rfl rfl rfl rfl evf (.cons (T.ev 12 rfl) (.cons (T.ev 8 rfl) .nil)) Try.func24 rfl rfl ?_
   refine Calls.mono (to5_any (-x.t1) (-x.t0) _) ?_
   clear T
   rintro e wc ⟨rfl, hb⟩
   intro ac T
   replace M := M.call hb; clear hb
   refine sh_out hK _ _ (MA.mk (fun _ => M.mask [true, true, true, true, true, true, true, true] rfl) (M.mask [false, false, false, false, false, false, false, false] rfl)) ?_; clear hK K
   refine gw 20 2097151 ?_; intro K hK
   refine ow_call (first := []) (cap := []) T rfl rfl rfl rfl evf (.cons (T.ev 5 rfl) (.cons (T.ev 1 rfl) .nil)) Try.func24 rfl rfl ?_
   refine Calls.mono (to5_any (-x.s1) (-x.s0) _) ?_
   clear T
   rintro e wc ⟨rfl, hb⟩
   intro ac T
   replace M := M.call hb; clear hb
   refine sh_out hK _ _ (MA.mk (fun _ => M.mask [true, true, true, true, true, true, true, true] rfl) (M.mask [false, false, false, false, false, false, false, false] rfl)) ?_; clear hK K
   refine gw 21 4194303 ?_; intro K hK
   refine ow_call (first := []) (cap := []) T rfl rfl rfl rfl evf (.cons (T.ev 1 rfl) (.cons (T.ev 0 rfl) .nil)) Try.func36 rfl rfl ?_
   refine Calls.mono (sound5_any (-x.t1) (-x.t0) (-x.s1) (-x.s0) _) ?_
   clear T
   rintro e wc ⟨rfl, hb⟩
   intro ac T
   replace M := M.call hb; clear hb
   refine sh_out hK _ _ (MA.mk (fun _ => M.mask [true, true, true, true, true, true, true, true] rfl) (M.mask [false, false, false, false, false, false, false, false] rfl)) ?_; clear hK K
   refine gq T 22 8388607 rfl (fun _ _ _ _ _ => (rn_indexAddr (size := 4) k rfl (T.ev 20 rfl) (T.ev 19 rfl) ⟨_, Try.underlying38, by kernel_rfl⟩ rfl (by omega) rfl)) ?_; clear T ac; intro ac T
   refine gw 23 16777215 ?_; intro K hK
   refine ow_stS M T rfl rfl (T.ev 0 rfl) (T.ev 1 rfl) (.tail .head) (by omega) rfl ?_; clear M T; intro wc ac M T
   obtain ⟨lo2, hlo2⟩ : ∃ q, q = ly.set k (⟨(-x.t1), (-x.t0), (-x.s1), (-x.s0)⟩ : Snd) := ⟨_, rfl⟩
   have lhlo2 : ly.length = lo2.length := by rw [hlo2, List.length_set]
   rw [← hlo2] at M; (try rw [lhlo2] at M); (try rw [lhlo2] at T)
   have Ss2 := Sp.pre (w := w) (ex := noEx) (size := 4) (n := lo2.length) (g := g1ur5_3) (xs := sc lo2) (ys := y1ur5_3) (by simp [sc_length])
   refine sh_out hK _ _ (MA.mk (fun h => (no_of (by kernel_rfl) h).elim) (M.mask [false, false, false, false, false, false, false, false] rfl)) ?_; clear hK K
   refine g_done (by kernel_rfl) ?_
   replace T := T.pick [24, 25, 26, 27, 28, 29] rfl
   replace M := M.mask [false, true, true, true, true, true, true, true] rfl
   refine nm_blk ?_
   refine nm_then ?_
   refine wp_region_lit ?_
   refine lq T (rn_move rfl (T.ev 5 rfl)) ?_; clear T ac; intro ac T
   refine lq T (rn_add rfl (T.ev 0 rfl) evc (by omega)) ?_; clear T ac; intro ac T
   refine l_q (v := (.int .i64 ((k : Int) + 1))) (T.pick [0, 1, 2, 3, 4, 5, 6] rfl) rfl rfl rfl rfl (rn_assign rfl (T.ev 0 rfl)) ?_; clear T ac; intro ac T
   refine wpList_nil ?_
   replace T := T.pick [0, 3, 4, 5, 6, 7] rfl
   refine nm_then ?_
   exact ⟨_, by omega, k + 1, lo1, lo2, rfl, (by omega), (hMlx.step hkx hlo1 rfl), (hMly.step hkx hlo2 rfl), T.pick [1, 2, 3, 4, 5, 0] rfl, M.mask [true, true, true, true, true, true, true] rfl⟩
  intro h1
  have hNlx := hMlx.done (by omega)
  have hNly := hMly.done (by omega)
  have Slx := Sp.pre (w := w) (ex := noEx) (size := 4) (n := lx.length) (g := g1ur5_1) (xs := sc lx) (ys := y1ur5_1) (by simp [sc_length])
  have Sly := Sp.pre (w := w) (ex := noEx) (size := 4) (n := ly.length) (g := g1ur5_3) (xs := sc ly) (ys := y1ur5_3) (by simp [sc_length])
  refine wp_exit ?_
  refine ex_then ?_
  refine ex_then ?_
  refine ex_hit ?_
  refine nm_then ?_
  refine wp_seq ?_
  refine wp_seq ?_
  refine wp_region_lit ?_
  refine lq T (rn_assign rfl evc) ?_; clear T ac; intro ac T
  refine wpList_nil ?_
  replace T := T.pick [0, 2, 3, 4, 5, 6] rfl
  refine nm_then ?_
  refine wp_block ?_
  refine wp_loop_n (fun mz ac wc => ∃ (m : Nat) (hx hy : List Snd), mz = bu2.highs.length - m ∧ (m ≤ bu2.highs.length) ∧ (MapK (raiseS xu3) bu2.highs hx m) ∧ (MapK (turnH (bu2.first + (bu2.step * bu2.note))) bu2.highs hy m) ∧ Tm ac 337 [(4, .pointer (some ⟨g1, 0, none⟩)), (5, .int .i64 xu3), (6, .int .i64 (bu2.first + (bu2.step * bu2.note))), (7, .pointer (some ⟨gr5_4, 0, none⟩)), (8, .pointer (some ⟨gr5_5, 0, none⟩)), (11, .int .i64 (m : Int))] ∧ Mem w noEx wc ((g1ur5_3, .cells (sc ly ++ y1ur5_3)) :: (g2ur5_3, .cells (sc hy ++ y2ur5_3)) :: (gr5_4, .cells (bxM bu2 (.slice (some ⟨g1ur5_1, 0, none⟩) lx.length c1ur5_1) (.slice (some ⟨g2ur5_1, 0, none⟩) hx.length c2ur5_1))) :: (gr5_5, .cells (bxM bu2 (.slice (some ⟨g1ur5_3, 0, none⟩) ly.length c1ur5_3) (.slice (some ⟨g2ur5_3, 0, none⟩) hy.length c2ur5_3))) :: (g1ur5_1, .cells (sc lx ++ y1ur5_1)) :: (g2ur5_1, .cells (sc hx ++ y2ur5_1)) :: (g1, .cells (bxM bu2 (.slice Au2 bu2.lows.length cu2) (.slice Bu2 bu2.highs.length du2))) :: Iu2)) ?_ ?_
  ·exact ⟨_, 0, bu2.highs, bu2.highs, rfl, (Nat.zero_le _), (MapK.start _ _), (MapK.start _ _), T.pick [1, 2, 3, 4, 5, 0] rfl, M.mask [true, true, true, true, true, true, true] rfl⟩
  clear T M
  rintro mz ac wc ⟨m, hx, hy, hmm2, hkm, hMhx, hMhy, T, M⟩
  have hKnhx := hMhx.n
  have hKnhy := hMhy.n
  refine wp_seq ?_
  refine wp_seq ?_
  refine wp_region_lit ?_
  refine lq T (rn_move rfl (T.ev 5 rfl)) ?_; clear T ac; intro ac T
  refine lq (v := (.pointer (some ⟨g1, 6, none⟩))) T (rn_fieldAddr (off := 6) rfl (T.ev 1 rfl) (fun _ _ _ => by kernel_rfl)) ?_; clear T ac; intro ac T
  refine lq T (rn_one (Mem.nth M 6 rfl) rfl (T.ev 0 rfl) rfl) ?_; clear T ac; intro ac T
  refine lq T (rn_lenS rfl Try.underlying38 (T.ev 0 rfl)) ?_; clear T ac; intro ac T
  refine lq T (rn_lss rfl (T.ev 3 rfl) (T.ev 0 rfl)) ?_; clear T ac; intro ac T
  refine wpList_nil ?_
  replace T := T.pick [0, 5, 6, 7, 8, 9, 10] rfl
  refine nm_then ?_
  refine wp_if (T.ev 0 rfl) ?_ ?_
  ·intro h2
   obtain ⟨y, hky, -⟩ := sc_next (l := bu2.highs) (k := m) (by omega)
   have ⟨gy1, gy2⟩ := hgu2.highs.2 y (List.mem_of_getElem? hky)
   have hqy := (hMhx.b m (Nat.le_refl _)).trans hky
   have hry := (hMhy.b m (Nat.le_refl _)).trans hky
   have Shx := Sp.pre (w := w) (ex := noEx) (size := 4) (n := hx.length) (g := g2ur5_1) (xs := sc hx) (ys := y2ur5_1) (by simp [sc_length])
   have Shy := Sp.pre (w := w) (ex := noEx) (size := 4) (n := hy.length) (g := g2ur5_3) (xs := sc hy) (ys := y2ur5_3) (by simp [sc_length])
   refine wp_skip ?_
   refine nm_then ?_
   refine wp_seq ?_
   refine wp_block ?_
   refine wp_seq ?_
   refine wp_region_lit ?_
   refine lq (v := (.pointer (some ⟨g1, 6, none⟩))) T (rn_fieldAddr (off := 6) rfl (T.ev 1 rfl) (fun _ _ _ => by kernel_rfl)) ?_; clear T ac; intro ac T
   refine lq T (rn_one (Mem.nth M 6 rfl) rfl (T.ev 0 rfl) rfl) ?_; clear T ac; intro ac T
   refine lq T (rn_move rfl (T.ev 8 rfl)) ?_; clear T ac; intro ac T
   refine lq T (rn_indexAddr (size := 4) m rfl (T.ev 1 rfl) (T.ev 0 rfl) ⟨_, Try.underlying38, by kernel_rfl⟩ rfl (by omega) (SBu2.at0 (by omega))) ?_; clear T ac; intro ac T
   refine lq (v := (.agg #[.int .i64 y.t0, .int .i64 y.t1, .int .i64 y.s0, .int .i64 y.s1])) T (rn_rowat (Sp.scR4 SBu2 M (.cons _ (.cons _ (.cons _ (.cons _ (.cons _ (.cons _ (.cons _ (List.Sublist.refl _)))))))) hky) rfl (T.ev 0 rfl) rfl) ?_; clear T ac; intro ac T
   refine l_w rfl ?_; intro K hK
   refine ow_al M T rfl rfl rfl rfl ?_; clear M T; intro g3 wc ac M T
   refine sh_out hK _ _ ?_; clear hK K
   refine l_w rfl ?_; intro K hK
   refine ow_stO M T rfl rfl (T.ev 0 rfl) (T.ev 1 rfl) rfl .head rfl (by simp) rfl (by kernel_rfl) ?_; clear M T; intro wc ac M T
   refine sh_out hK _ _ ?_; clear hK K
   refine wpList_nil ?_
   replace T := T.pick [0, 7, 8, 9, 10, 11, 12] rfl
   refine nm_then ?_
   refine wp_seq ?_
   refine g_start2 M (M.mask [false, false, false, false, false, false, false, false] rfl) 17 (by kernel_rfl) rfl (by kernel_rfl) ?_
   clear M; intro wc M
   refine g_addG 16 M ?_
   refine gq (v := (.pointer (some ⟨gr5_4, 6, none⟩))) T 0 1 rfl (fun _ _ _ _ _ => (rn_fieldAddr (off := 6) rfl (T.ev 4 rfl) (fun _ _ _ => by kernel_rfl))) ?_; clear T ac; intro ac T
   refine gq T 1 3 rfl (fun B w' hD hl hS => (rn_one (Mem.nth (show Mem w noEx w' _ from ((MA.lft hS) (hD.wait (i := 1) (m := 16) (by kernel_rfl) hl))) 3 rfl) rfl (T.ev 0 rfl) rfl)) ?_; clear T ac; intro ac T
   refine gq T 2 7 rfl (fun _ _ _ _ _ => (rn_move rfl (T.ev 8 rfl))) ?_; clear T ac; intro ac T
   refine gq (v := (.pointer (some ⟨g3, 0, none⟩))) T 3 15 rfl (fun _ _ _ _ _ => (rn_fieldAddr (off := 0) rfl (T.ev 3 rfl) (fun _ _ _ => by kernel_rfl))) ?_; clear T ac; intro ac T
   refine gq (v := (.pointer (some ⟨g3, 0, none⟩))) T 4 31 rfl (fun _ _ _ _ _ => (rn_fieldAddr (off := 0) rfl (T.ev 0 rfl) (fun _ _ _ => by kernel_rfl))) ?_; clear T ac; intro ac T
   refine gq T 5 63 rfl (fun B w' hD hl hS => (rn_one (Mem.nth (show Mem w noEx w' _ from ((MA.lft hS) (hD.wait (i := 5) (m := 16) (by kernel_rfl) hl))) 0 rfl) rfl (T.ev 0 rfl) rfl)) ?_; clear T ac; intro ac T
   refine gq T 6 127 rfl (fun _ _ _ _ _ => (rn_move rfl (T.ev 8 rfl))) ?_; clear T ac; intro ac T
   refine gq T 7 255 rfl (fun _ _ _ _ _ => (rn_add rfl (T.ev 1 rfl) (T.ev 0 rfl) (by omega))) ?_; clear T ac; intro ac T
   refine gq (v := (.pointer (some ⟨g3, 0, none⟩))) T 8 511 rfl (fun _ _ _ _ _ => (rn_fieldAddr (off := 0) rfl (T.ev 8 rfl) (fun _ _ _ => by kernel_rfl))) ?_; clear T ac; intro ac T
   refine gq (v := (.pointer (some ⟨g3, 1, none⟩))) T 9 1023 rfl (fun _ _ _ _ _ => (rn_fieldAddr (off := 1) rfl (T.ev 0 rfl) (fun _ _ _ => by kernel_rfl))) ?_; clear T ac; intro ac T
   refine gq T 10 2047 rfl (fun B w' hD hl hS => (rn_one (Mem.nth (show Mem w noEx w' _ from ((MA.lft hS) (hD.wait (i := 10) (m := 16) (by kernel_rfl) hl))) 0 rfl) rfl (T.ev 0 rfl) rfl)) ?_; clear T ac; intro ac T
   refine gq T 11 4095 rfl (fun _ _ _ _ _ => (rn_move rfl (T.ev 13 rfl))) ?_; clear T ac; intro ac T
   refine gq T 12 8191 rfl (fun _ _ _ _ _ => (rn_add rfl (T.ev 1 rfl) (T.ev 0 rfl) (by omega))) ?_; clear T ac; intro ac T
   refine gw 13 16383 ?_; intro K hK
   refine ow_call (first := []) (cap := []) T rfl rfl rfl rfl evf (.cons (T.ev 5 rfl) (.cons (T.ev 0 rfl) .nil)) Try.func24 rfl rfl ?_
   refine Calls.mono (to5_any (y.t0 + xu3) (y.t1 + xu3) _) ?_
   clear T
   rintro e wc ⟨rfl, hb⟩
   intro ac T
   replace M := M.call hb; clear hb
   refine sh_out hK _ _ (MA.mk (fun _ => M.mask [true, true, true, true, true, true, true, true] rfl) (M.mask [false, false, false, false, false, false, false, false] rfl)) ?_; clear hK K
   refine gq T 14 32767 rfl (fun _ _ _ _ _ => (rn_indexAddr (size := 4) m rfl (T.ev 12 rfl) (T.ev 11 rfl) ⟨_, Try.underlying38, by kernel_rfl⟩ rfl (by omega) rfl)) ?_; clear T ac; intro ac T
   refine gq T 15 65535 rfl (fun _ _ _ _ _ => (rn_fieldAddr (off := 0) rfl (T.ev 0 rfl) (fun _ _ _ => by kernel_rfl))) ?_; clear T ac; intro ac T
   refine gw 16 131071 ?_; intro K hK
   refine ow_stS2 M T rfl rfl (T.ev 0 rfl) (T.ev 2 rfl) hqy (.tail (.tail (.tail (.tail (.tail (.tail .head)))))) (by omega) rfl ?_; clear M T; intro wc ac M T
   obtain ⟨lo3, hlo3⟩ : ∃ q, q = hx.set m ({ y with t0 := (y.t0 + xu3), t1 := (y.t1 + xu3) } : Snd) := ⟨_, rfl⟩
   have lhlo3 : hx.length = lo3.length := by rw [hlo3, List.length_set]
   rw [← hlo3] at M; (try rw [lhlo3] at M); (try rw [lhlo3] at T)
   have Ss3 := Sp.pre (w := w) (ex := noEx) (size := 4) (n := lo3.length) (g := g2ur5_1) (xs := sc lo3) (ys := y2ur5_1) (by simp [sc_length])
   refine sh_out hK _ _ (MA.mk (fun h => (no_of (by kernel_rfl) h).elim) (M.mask [false, false, false, false, false, false, false, false] rfl)) ?_; clear hK K
   refine g_done (by kernel_rfl) ?_
   replace T := T.pick [16, 17, 18, 19, 20, 21, 22] rfl
   refine nm_then ?_
   refine g_start2 M (M.mask [false, false, false, false, false, false, false, false] rfl) 28 (by kernel_rfl) rfl (by kernel_rfl) ?_
   clear M; intro wc M
   refine g_addG 27 M ?_
   refine gq (v := (.pointer (some ⟨gr5_5, 6, none⟩))) T 0 1 rfl (fun _ _ _ _ _ => (rn_fieldAddr (off := 6) rfl (T.ev 5 rfl) (fun _ _ _ => by kernel_rfl))) ?_; clear T ac; intro ac T
   refine gq T 1 3 rfl (fun B w' hD hl hS => (rn_one (Mem.nth (show Mem w noEx w' _ from ((MA.lft hS) (hD.wait (i := 1) (m := 27) (by kernel_rfl) hl))) 4 rfl) rfl (T.ev 0 rfl) rfl)) ?_; clear T ac; intro ac T
   refine gq T 2 7 rfl (fun _ _ _ _ _ => (rn_move rfl (T.ev 8 rfl))) ?_; clear T ac; intro ac T
   refine gq T 3 15 rfl (fun _ _ _ _ _ => (rn_move rfl (T.ev 6 rfl))) ?_; clear T ac; intro ac T
   refine gq T 4 31 rfl (fun _ _ _ _ _ => (rn_mul rfl evc (T.ev 0 rfl) (by omega))) ?_; clear T ac; intro ac T
   refine gq (v := (.pointer (some ⟨g3, 0, none⟩))) T 5 63 rfl (fun _ _ _ _ _ => (rn_fieldAddr (off := 0) rfl (T.ev 5 rfl) (fun _ _ _ => by kernel_rfl))) ?_; clear T ac; intro ac T
   refine gq (v := (.pointer (some ⟨g3, 1, none⟩))) T 6 127 rfl (fun _ _ _ _ _ => (rn_fieldAddr (off := 1) rfl (T.ev 0 rfl) (fun _ _ _ => by kernel_rfl))) ?_; clear T ac; intro ac T
   refine gq T 7 255 rfl (fun B w' hD hl hS => (rn_one (Mem.nth (show Mem w noEx w' _ from ((MA.lft hS) (hD.wait (i := 7) (m := 27) (by kernel_rfl) hl))) 0 rfl) rfl (T.ev 0 rfl) rfl)) ?_; clear T ac; intro ac T
   refine gq T 8 511 rfl (fun _ _ _ _ _ => (rn_sub rfl (T.ev 3 rfl) (T.ev 0 rfl) (by omega))) ?_; clear T ac; intro ac T
   refine gq T 9 1023 rfl (fun _ _ _ _ _ => (rn_move rfl (T.ev 12 rfl))) ?_; clear T ac; intro ac T
   refine gq T 10 2047 rfl (fun _ _ _ _ _ => (rn_mul rfl evc (T.ev 0 rfl) (by omega))) ?_; clear T ac; intro ac T
   refine gq (v := (.pointer (some ⟨g3, 0, none⟩))) T 11 4095 rfl (fun _ _ _ _ _ => (rn_fieldAddr (off := 0) rfl (T.ev 11 rfl) (fun _ _ _ => by kernel_rfl))) ?_; clear T ac; intro ac T
   refine gq (v := (.pointer (some ⟨g3, 0, none⟩))) T 12 8191 rfl (fun _ _ _ _ _ => (rn_fieldAddr (off := 0) rfl (T.ev 0 rfl) (fun _ _ _ => by kernel_rfl))) ?_; clear T ac; intro ac T
   refine gq T 13 16383 rfl (fun B w' hD hl hS => (rn_one (Mem.nth (show Mem w noEx w' _ from ((MA.lft hS) (hD.wait (i := 13) (m := 27) (by kernel_rfl) hl))) 0 rfl) rfl (T.ev 0 rfl) rfl)) ?_; clear T ac; intro ac T
   refine gq T 14 32767 rfl (fun _ _ _ _ _ => (rn_sub rfl (T.ev 3 rfl) (T.ev 0 rfl) (by omega))) ?_; clear T ac; intro ac T
   refine gq (v := (.pointer (some ⟨g3, 2, none⟩))) T 16 98303 rfl (fun _ _ _ _ _ => (rn_fieldAddr (off := 2) rfl (T.ev 15 rfl) (fun _ _ _ => by kernel_rfl))) ?_; clear T ac; intro ac T
   refine gq (v := (.pointer (some ⟨g3, 3, none⟩))) T 17 229375 rfl (fun _ _ _ _ _ => (rn_fieldAddr (off := 1) rfl (T.ev 0 rfl) (fun _ _ _ => by kernel_rfl))) ?_; clear T ac; intro ac T
   refine gq T 18 491519 rfl (fun B w' hD hl hS => (rn_one (Mem.nth (show Mem w noEx w' _ from ((MA.lft hS) (hD.wait (i := 18) (m := 27) (by kernel_rfl) hl))) 0 rfl) rfl (T.ev 0 rfl) rfl)) ?_; clear T ac; intro ac T
   refine gq T 19 1015807 rfl (fun _ _ _ _ _ => (rn_neg rfl (T.ev 0 rfl) (by omega))) ?_; clear T ac; intro ac T
   refine gq (v := (.pointer (some ⟨g3, 2, none⟩))) T 20 2064383 rfl (fun _ _ _ _ _ => (rn_fieldAddr (off := 2) rfl (T.ev 19 rfl) (fun _ _ _ => by kernel_rfl))) ?_; clear T ac; intro ac T
   refine gq (v := (.pointer (some ⟨g3, 2, none⟩))) T 21 4161535 rfl (fun _ _ _ _ _ => (rn_fieldAddr (off := 0) rfl (T.ev 0 rfl) (fun _ _ _ => by kernel_rfl))) ?_; clear T ac; intro ac T
   refine gq T 22 8355839 rfl (fun B w' hD hl hS => (rn_one (Mem.nth (show Mem w noEx w' _ from ((MA.lft hS) (hD.wait (i := 22) (m := 27) (by kernel_rfl) hl))) 0 rfl) rfl (T.ev 0 rfl) rfl)) ?_; clear T ac; intro ac T
   refine gq T 23 16744447 rfl (fun _ _ _ _ _ => (rn_neg rfl (T.ev 0 rfl) (by omega))) ?_; clear T ac; intro ac T
   refine gw 15 16777215 ?_; intro K hK
   refine ow_call (first := []) (cap := []) T rfl rfl rfl rfl evf (.cons (T.ev 14 rfl) (.cons (T.ev 8 rfl) .nil)) Try.func24 rfl rfl ?_
   refine Calls.mono (to5_any ((2 * (bu2.first + (bu2.step * bu2.note))) - y.t1) ((2 * (bu2.first + (bu2.step * bu2.note))) - y.t0) _) ?_
   clear T
   rintro e wc ⟨rfl, hb⟩
   intro ac T
   replace M := M.call hb; clear hb
   refine sh_out hK _ _ (MA.mk (fun _ => M.mask [true, true, true, true, true, true, true, true] rfl) (M.mask [false, false, false, false, false, false, false, false] rfl)) ?_; clear hK K
   refine gw 24 33554431 ?_; intro K hK
   refine ow_call (first := []) (cap := []) T rfl rfl rfl rfl evf (.cons (T.ev 5 rfl) (.cons (T.ev 1 rfl) .nil)) Try.func24 rfl rfl ?_
   refine Calls.mono (to5_any (-y.s1) (-y.s0) _) ?_
   clear T
   rintro e wc ⟨rfl, hb⟩
   intro ac T
   replace M := M.call hb; clear hb
   refine sh_out hK _ _ (MA.mk (fun _ => M.mask [true, true, true, true, true, true, true, true] rfl) (M.mask [false, false, false, false, false, false, false, false] rfl)) ?_; clear hK K
   refine gw 25 67108863 ?_; intro K hK
   refine ow_call (first := []) (cap := []) T rfl rfl rfl rfl evf (.cons (T.ev 1 rfl) (.cons (T.ev 0 rfl) .nil)) Try.func36 rfl rfl ?_
   refine Calls.mono (sound5_any ((2 * (bu2.first + (bu2.step * bu2.note))) - y.t1) ((2 * (bu2.first + (bu2.step * bu2.note))) - y.t0) (-y.s1) (-y.s0) _) ?_
   clear T
   rintro e wc ⟨rfl, hb⟩
   intro ac T
   replace M := M.call hb; clear hb
   refine sh_out hK _ _ (MA.mk (fun _ => M.mask [true, true, true, true, true, true, true, true] rfl) (M.mask [false, false, false, false, false, false, false, false] rfl)) ?_; clear hK K
   refine gq T 26 134217727 rfl (fun _ _ _ _ _ => (rn_indexAddr (size := 4) m rfl (T.ev 24 rfl) (T.ev 23 rfl) ⟨_, Try.underlying38, by kernel_rfl⟩ rfl (by omega) rfl)) ?_; clear T ac; intro ac T
   refine gw 27 268435455 ?_; intro K hK
   refine ow_stS M T rfl rfl (T.ev 0 rfl) (T.ev 1 rfl) (.tail (.tail .head)) (by omega) rfl ?_; clear M T; intro wc ac M T
   obtain ⟨lo4, hlo4⟩ : ∃ q, q = hy.set m (⟨((2 * (bu2.first + (bu2.step * bu2.note))) - y.t1), ((2 * (bu2.first + (bu2.step * bu2.note))) - y.t0), (-y.s1), (-y.s0)⟩ : Snd) := ⟨_, rfl⟩
   have lhlo4 : hy.length = lo4.length := by rw [hlo4, List.length_set]
   rw [← hlo4] at M; (try rw [lhlo4] at M); (try rw [lhlo4] at T)
   have Ss4 := Sp.pre (w := w) (ex := noEx) (size := 4) (n := lo4.length) (g := g2ur5_3) (xs := sc lo4) (ys := y2ur5_3) (by simp [sc_length])
   refine sh_out hK _ _ (MA.mk (fun h => (no_of (by kernel_rfl) h).elim) (M.mask [false, false, false, false, false, false, false, false] rfl)) ?_; clear hK K
   refine g_done (by kernel_rfl) ?_
   replace T := T.pick [28, 29, 30, 31, 32, 33] rfl
   replace M := M.mask [false, true, true, true, true, true, true, true] rfl
   refine nm_blk ?_
   refine nm_then ?_
   refine wp_region_lit ?_
   refine lq T (rn_move rfl (T.ev 5 rfl)) ?_; clear T ac; intro ac T
   refine lq T (rn_add rfl (T.ev 0 rfl) evc (by omega)) ?_; clear T ac; intro ac T
   refine l_q (v := (.int .i64 ((m : Int) + 1))) (T.pick [0, 1, 2, 3, 4, 5, 6] rfl) rfl rfl rfl rfl (rn_assign rfl (T.ev 0 rfl)) ?_; clear T ac; intro ac T
   refine wpList_nil ?_
   replace T := T.pick [0, 3, 4, 5, 6, 7] rfl
   refine nm_then ?_
   exact ⟨_, by omega, m + 1, lo3, lo4, rfl, (by omega), (hMhx.step hky hlo3 rfl), (hMhy.step hky hlo4 rfl), T.pick [1, 2, 3, 4, 5, 0] rfl, M.mask [true, true, true, true, true, true, true] rfl⟩
  intro h2
  have hNhx := hMhx.done (by omega)
  have hNhy := hMhy.done (by omega)
  have Shx := Sp.pre (w := w) (ex := noEx) (size := 4) (n := hx.length) (g := g2ur5_1) (xs := sc hx) (ys := y2ur5_1) (by simp [sc_length])
  have Shy := Sp.pre (w := w) (ex := noEx) (size := 4) (n := hy.length) (g := g2ur5_3) (xs := sc hy) (ys := y2ur5_3) (by simp [sc_length])
  refine wp_exit ?_
  refine ex_then ?_
  refine ex_then ?_
  refine ex_hit ?_
  refine nm_then ?_
  refine wp_seq ?_
  refine g_start2 M (M.mask [true, true, true, true, true, true, true] rfl) 6 (by kernel_rfl) rfl (by kernel_rfl) ?_
  clear M; intro wc M
  refine gq T 0 1 rfl (fun B w' hD hl hS => (rn_rowO (Mem.nth (show Mem w noEx w' _ from hS) 2 rfl) rfl (T.ev 4 rfl) rfl)) ?_; clear T ac; intro ac T
  refine gq T 2 5 rfl (fun B w' hD hl hS => (rn_rowO (Mem.nth (show Mem w noEx w' _ from hS) 3 rfl) rfl (T.ev 6 rfl) rfl)) ?_; clear T ac; intro ac T
  refine gw 1 7 ?_; intro K hK
  refine ow_call (first := []) (cap := []) T rfl rfl rfl rfl evf (.cons (T.ev 1 rfl) .nil) Try.func40 rfl rfl ?_
  refine Calls.mono (fits_any ({ bu2 with lows := lx, highs := hx, span := bu2.span, press := bu2.press }) _ _ _ _ _ (Slx.rd M (.cons _ (.cons _ (.cons _ (.cons _ (List.Sublist.cons_cons _ (List.nil_sublist _))))))) (Shx.rd M (.cons _ (.cons _ (.cons _ (.cons _ (.cons _ (List.Sublist.cons_cons _ (List.nil_sublist _)))))))) (by show lx.length ≤ _; omega) (by show hx.length ≤ _; omega)) ?_
  clear T
  rintro e wc ⟨rfl, hb⟩
  intro ac T
  replace M := M.call hb; clear hb
  obtain ⟨fiu12, hfiu12⟩ : ∃ q, q = (fitsL ({ bu2 with lows := lx, highs := hx, span := bu2.span, press := bu2.press } : Bx).lows && fitsL ({ bu2 with lows := lx, highs := hx, span := bu2.span, press := bu2.press } : Bx).highs) := ⟨_, rfl⟩
  rw [← hfiu12] at T
  have hRu12 : fiu12 = true → Raised bu2 xu3 := fun h9 => raised_of hgu2 (by rw [← hNlx, ← hNhx]; exact hfiu12.symm.trans h9)
  refine sh_out hK _ _ (M.mask [true, true, true, true, true, true, true] rfl) ?_; clear hK K
  refine gw 3 15 ?_; intro K hK
  refine ow_call (first := []) (cap := []) T rfl rfl rfl rfl evf (.cons (T.ev 1 rfl) .nil) Try.func40 rfl rfl ?_
  refine Calls.mono (fits_any ({ bu2 with lows := ly, highs := hy, span := bu2.span, press := bu2.press }) _ _ _ _ _ (Sly.rd M (List.Sublist.cons_cons _ (List.nil_sublist _))) (Shy.rd M (.cons _ (List.Sublist.cons_cons _ (List.nil_sublist _)))) (by show ly.length ≤ _; omega) (by show hy.length ≤ _; omega)) ?_
  clear T
  rintro e wc ⟨rfl, hb⟩
  intro ac T
  replace M := M.call hb; clear hb
  obtain ⟨fiu13, hfiu13⟩ : ∃ q, q = (fitsL ({ bu2 with lows := ly, highs := hy, span := bu2.span, press := bu2.press } : Bx).lows && fitsL ({ bu2 with lows := ly, highs := hy, span := bu2.span, press := bu2.press } : Bx).highs) := ⟨_, rfl⟩
  rw [← hfiu13] at T
  have hRu13 : fiu13 = true → TurnedB bu2 (bu2.first + (bu2.step * bu2.note)) := fun h9 => turned_of hgu2 rfl (by rw [← hNly, ← hNhy]; exact hfiu13.symm.trans h9)
  refine sh_out hK _ _ (M.mask [true, true, true, true, true, true, true] rfl) ?_; clear hK K
  refine gq T 4 31 rfl (fun _ _ _ _ _ => (rn_assign rfl (T.ev 1 rfl))) ?_; clear T ac; intro ac T
  refine gq T 5 63 rfl (fun _ _ _ _ _ => (rn_assign rfl (T.ev 1 rfl))) ?_; clear T ac; intro ac T
  refine g_done (by kernel_rfl) ?_
  replace T := T.pick [0, 1, 7, 9, 10, 11] rfl
  refine nm_then ?_
  refine wp_seq ?_
  refine wp_seq ?_
  refine wp_region_lit ?_
  refine lq T (rn_assign rfl evc) ?_; clear T ac; intro ac T
  refine wpList_nil ?_
  refine nm_then ?_
  refine wp_block ?_
  refine wp_loop_n (fun mz ac wc => ∃ (i : Nat), mz = bu2.lows.length - i ∧ (i ≤ bu2.lows.length) ∧ Tm ac 337 [(4, .pointer (some ⟨g1, 0, none⟩)), (6, .int .i64 (bu2.first + (bu2.step * bu2.note))), (7, .pointer (some ⟨gr5_4, 0, none⟩)), (8, .pointer (some ⟨gr5_5, 0, none⟩)), (13, .bool fiu12), (14, .bool fiu13), (15, .int .i64 (i : Int))] ∧ Mem w noEx wc ((g1ur5_3, .cells (sc ly ++ y1ur5_3)) :: (g2ur5_3, .cells (sc hy ++ y2ur5_3)) :: (gr5_4, .cells (bxM bu2 (.slice (some ⟨g1ur5_1, 0, none⟩) lx.length c1ur5_1) (.slice (some ⟨g2ur5_1, 0, none⟩) hx.length c2ur5_1))) :: (gr5_5, .cells (bxM bu2 (.slice (some ⟨g1ur5_3, 0, none⟩) ly.length c1ur5_3) (.slice (some ⟨g2ur5_3, 0, none⟩) hy.length c2ur5_3))) :: (g1ur5_1, .cells (sc lx ++ y1ur5_1)) :: (g2ur5_1, .cells (sc hx ++ y2ur5_1)) :: (g1, .cells (bxM bu2 (.slice Au2 bu2.lows.length cu2) (.slice Bu2 bu2.highs.length du2))) :: Iu2)) ?_ ?_
  ·exact ⟨_, 0, rfl, (Nat.zero_le _), T.pick [3, 4, 5, 6, 2, 1, 0] rfl, M.mask [true, true, true, true, true, true, true] rfl⟩
  clear T M
  rintro mz ac wc ⟨i, hmm3, hi, T, M⟩
  refine wp_seq ?_
  refine wp_seq ?_
  refine wp_region_lit ?_
  refine lq T (rn_move rfl (T.ev 6 rfl)) ?_; clear T ac; intro ac T
  refine lq (v := (.pointer (some ⟨g1, 5, none⟩))) T (rn_fieldAddr (off := 5) rfl (T.ev 1 rfl) (fun _ _ _ => by kernel_rfl)) ?_; clear T ac; intro ac T
  refine lq T (rn_one (Mem.nth M 6 rfl) rfl (T.ev 0 rfl) rfl) ?_; clear T ac; intro ac T
  refine lq T (rn_lenS rfl Try.underlying38 (T.ev 0 rfl)) ?_; clear T ac; intro ac T
  refine lq T (rn_lss rfl (T.ev 3 rfl) (T.ev 0 rfl)) ?_; clear T ac; intro ac T
  refine wpList_nil ?_
  replace T := T.pick [0, 5, 6, 7, 8, 9, 10, 11] rfl
  refine nm_then ?_
  refine wp_if (T.ev 0 rfl) ?_ ?_
  ·intro h3
   obtain ⟨x, hkx9, -⟩ := sc_next (l := bu2.lows) (k := i) (by omega)
   have gx9 := hgu2.lows.2 x (List.mem_of_getElem? hkx9)
   refine wp_skip ?_
   refine nm_then ?_
   refine wp_seq ?_
   refine wp_block ?_
   refine wp_seq ?_
   refine wp_region_lit ?_
   refine lq T (rn_assign rfl evc) ?_; clear T ac; intro ac T
   refine wpList_nil ?_
   replace T := T.pick [0, 2, 3, 4, 5, 6, 7, 8] rfl
   refine nm_then ?_
   refine wp_block ?_
   refine wp_loop_n (fun mz ac wc => ∃ (k : Nat), mz = bu2.highs.length - k ∧ (k ≤ bu2.highs.length) ∧ Tm ac 337 [(4, .pointer (some ⟨g1, 0, none⟩)), (6, .int .i64 (bu2.first + (bu2.step * bu2.note))), (7, .pointer (some ⟨gr5_4, 0, none⟩)), (8, .pointer (some ⟨gr5_5, 0, none⟩)), (13, .bool fiu12), (14, .bool fiu13), (15, .int .i64 (i : Int)), (16, .int .i64 (k : Int))] ∧ Mem w noEx wc ((g1ur5_3, .cells (sc ly ++ y1ur5_3)) :: (g2ur5_3, .cells (sc hy ++ y2ur5_3)) :: (gr5_4, .cells (bxM bu2 (.slice (some ⟨g1ur5_1, 0, none⟩) lx.length c1ur5_1) (.slice (some ⟨g2ur5_1, 0, none⟩) hx.length c2ur5_1))) :: (gr5_5, .cells (bxM bu2 (.slice (some ⟨g1ur5_3, 0, none⟩) ly.length c1ur5_3) (.slice (some ⟨g2ur5_3, 0, none⟩) hy.length c2ur5_3))) :: (g1ur5_1, .cells (sc lx ++ y1ur5_1)) :: (g2ur5_1, .cells (sc hx ++ y2ur5_1)) :: (g1, .cells (bxM bu2 (.slice Au2 bu2.lows.length cu2) (.slice Bu2 bu2.highs.length du2))) :: Iu2)) ?_ ?_
   ·exact ⟨_, 0, rfl, (Nat.zero_le _), T.pick [1, 2, 3, 4, 5, 6, 7, 0] rfl, M.mask [true, true, true, true, true, true, true] rfl⟩
   clear T M
   rintro mz ac wc ⟨k, hmm4, hj, T, M⟩
   refine wp_seq ?_
   refine wp_seq ?_
   refine wp_region_lit ?_
   refine lq T (rn_move rfl (T.ev 7 rfl)) ?_; clear T ac; intro ac T
   refine lq (v := (.pointer (some ⟨g1, 6, none⟩))) T (rn_fieldAddr (off := 6) rfl (T.ev 1 rfl) (fun _ _ _ => by kernel_rfl)) ?_; clear T ac; intro ac T
   refine lq T (rn_one (Mem.nth M 6 rfl) rfl (T.ev 0 rfl) rfl) ?_; clear T ac; intro ac T
   refine lq T (rn_lenS rfl Try.underlying38 (T.ev 0 rfl)) ?_; clear T ac; intro ac T
   refine lq T (rn_lss rfl (T.ev 3 rfl) (T.ev 0 rfl)) ?_; clear T ac; intro ac T
   refine wpList_nil ?_
   replace T := T.pick [0, 5, 6, 7, 8, 9, 10, 11, 12] rfl
   refine nm_then ?_
   refine wp_if (T.ev 0 rfl) ?_ ?_
   ·intro h4
    obtain ⟨y, hky9, -⟩ := sc_next (l := bu2.highs) (k := k) (by omega)
    have gy9 := hgu2.highs.2 y (List.mem_of_getElem? hky9)
    refine wp_skip ?_
    refine nm_then ?_
    refine wp_seq ?_
    refine wp_block ?_
    refine wp_seq ?_
    refine wp_region_lit ?_
    refine lq T (rn_rowO (Mem.nth M 6 rfl) rfl (T.ev 1 rfl) rfl) ?_; clear T ac; intro ac T
    refine lq T (rn_move rfl (T.ev 8 rfl)) ?_; clear T ac; intro ac T
    refine lq T (rn_move rfl (T.ev 10 rfl)) ?_; clear T ac; intro ac T
    refine l_w rfl ?_; intro K hK
    refine ow_call (first := []) (cap := []) T rfl rfl rfl rfl evf (.cons (T.ev 2 rfl) (.cons (T.ev 1 rfl) (.cons (T.ev 0 rfl) .nil))) Try.func21 rfl rfl ?_
    refine Calls.mono (Beat_at bu2 _ _ _ _ i k x y _ (SAu2.rd M (.cons _ (.cons _ (.cons _ (.cons _ (.cons _ (.cons _ (.cons _ (List.Sublist.refl _))))))))) (SBu2.rd M (.cons _ (.cons _ (.cons _ (.cons _ (.cons _ (.cons _ (.cons _ (List.Sublist.refl _))))))))) hgu2 hkx9 hky9) ?_
    clear T
    rintro e wc ⟨Au14, cu14, Iu14, rfl, Su14, N⟩
    intro ac T
    obtain ⟨bu14, ou14, Su14⟩ := Su14
    replace Su14 := Su14 w noEx
    obtain ⟨lbu14, hlbu14⟩ : ∃ q, q = beatsL bu2.law x y := ⟨_, rfl⟩
    rw [← hlbu14] at Su14
    have hldu14 : lbu14.length = (bu2.press + 1).toNat := by rw [hlbu14, beatsL_length]
    have hlcu14 : ((lbu14.length : Nat) : Int) = bu2.press + 1 := by omega
    obtain ⟨l0u14, l1u14, hklu14, -⟩ := rc_next (l := lbu14) (k := 0) (by omega)
    have hzu14 := beats_zero (by rw [← hlbu14]; exact hklu14)
    have hbdu14 := beatP_bd gx9 gy9 (p := 0) (by omega)
    rw [← hzu14] at hbdu14
    dsimp only at hbdu14
    replace M := (M.join N).swapI
    clear N
    replace M : Mem w noEx wc ((g1ur5_3, .cells (sc ly ++ y1ur5_3)) :: (g2ur5_3, .cells (sc hy ++ y2ur5_3)) :: (gr5_4, .cells (bxM bu2 (.slice (some ⟨g1ur5_1, 0, none⟩) lx.length c1ur5_1) (.slice (some ⟨g2ur5_1, 0, none⟩) hx.length c2ur5_1))) :: (gr5_5, .cells (bxM bu2 (.slice (some ⟨g1ur5_3, 0, none⟩) ly.length c1ur5_3) (.slice (some ⟨g2ur5_3, 0, none⟩) hy.length c2ur5_3))) :: (g1ur5_1, .cells (sc lx ++ y1ur5_1)) :: (g2ur5_1, .cells (sc hx ++ y2ur5_1)) :: (g1, .cells (bxM bu2 (.slice Au2 bu2.lows.length cu2) (.slice Bu2 bu2.highs.length du2))) :: (Iu2 ++ Iu14)) := M
    rw [← hlbu14] at T
    refine sh_out hK _ _ ?_; clear hK K
    refine lq T (rn_move rfl (T.ev 0 rfl)) ?_; clear T ac; intro ac T
    refine lq T (rn_extract rfl (T.ev 0 rfl) rfl) ?_; clear T ac; intro ac T
    refine lq T (rn_extract rfl (T.ev 1 rfl) rfl) ?_; clear T ac; intro ac T
    refine lq T (rn_assign rfl (T.ev 1 rfl)) ?_; clear T ac; intro ac T
    refine lq T (rn_assign rfl (T.ev 1 rfl)) ?_; clear T ac; intro ac T
    refine wpList_nil ?_
    replace T := T.pick [0, 1, 10, 11, 12, 13, 14, 15, 16, 17] rfl
    refine nm_then ?_
    refine wp_seq ?_
    refine wp_seq ?_
    refine wp_region_lit ?_
    refine lq T (rn_move rfl (T.ev 0 rfl)) ?_; clear T ac; intro ac T
    refine lq (v := (.bool false)) T (rn_neqof (rn_neq rfl (T.ev 0 rfl) evc) (by simp)) ?_; clear T ac; intro ac T
    refine lq T (rn_move rfl (T.ev 0 rfl)) ?_; clear T ac; intro ac T
    refine lw T (wanted_yes rfl rfl (T.ev 0 rfl) rfl) (rn_move rfl (T.ev 4 rfl)) ?_; clear T ac; intro ac T
    refine lw T (wanted_yes rfl rfl (T.ev 1 rfl) rfl) (rn_lenS rfl Try.underlying50 (T.ev 0 rfl)) ?_; clear T ac; intro ac T
    refine lw (v := (.pointer (some ⟨g1, 0, none⟩))) T (wanted_yes rfl rfl (T.ev 2 rfl) rfl) (rn_fieldAddr (off := 0) rfl (T.ev 7 rfl) (fun _ _ _ => by kernel_rfl)) ?_; clear T ac; intro ac T
    refine lw (v := (.pointer (some ⟨g1, 3, none⟩))) T (wanted_yes rfl rfl (T.ev 3 rfl) rfl) (rn_fieldAddr (off := 3) rfl (T.ev 0 rfl) (fun _ _ _ => by kernel_rfl)) ?_; clear T ac; intro ac T
    refine lw T (wanted_yes rfl rfl (T.ev 4 rfl) rfl) (rn_one (Mem.nth M 6 rfl) rfl (T.ev 0 rfl) rfl) ?_; clear T ac; intro ac T
    refine lw T (wanted_yes rfl rfl (T.ev 5 rfl) rfl) (rn_add rfl (T.ev 0 rfl) evc (by omega)) ?_; clear T ac; intro ac T
    refine lw T (wanted_yes rfl rfl (T.ev 6 rfl) rfl) (rn_neq rfl (T.ev 4 rfl) (T.ev 0 rfl)) ?_; clear T ac; intro ac T
    refine lq T (rn_pick0 rfl (T.ev 7 rfl) rfl (T.ev 0 rfl)) ?_; clear T ac; intro ac T
    refine wpList_nil ?_
    replace T := T.pick [0, 1, 2, 3, 4, 5, 6, 7, 12, 13, 14, 15, 16, 17, 18, 19, 20] rfl
    refine nm_then ?_
    refine wp_cond_false ((T.ev 0 rfl).trans (congrArg Value.bool (by rw [show (decide (((lbu14.length : Nat) : Int) = (bu2.press + 1))) = true from (decide_eq_true hlcu14)]; rfl))) ?_
    refine wp_skip ?_
    refine nm_then ?_
    refine wp_seq ?_
    refine wp_seq ?_
    refine wp_region_lit ?_
    refine lq T (rn_rowO (Mem.nth M 2 rfl) rfl (T.ev 11 rfl) rfl) ?_; clear T ac; intro ac T
    refine lq T (rn_move rfl (T.ev 16 rfl)) ?_; clear T ac; intro ac T
    refine lq T (rn_move rfl (T.ev 18 rfl)) ?_; clear T ac; intro ac T
    refine l_w rfl ?_; intro K hK
    refine ow_call (first := []) (cap := []) T rfl rfl rfl rfl evf (.cons (T.ev 2 rfl) (.cons (T.ev 1 rfl) (.cons (T.ev 0 rfl) .nil))) Try.func21 rfl rfl ?_
    refine Calls.mono (Beat_gen ({ bu2 with lows := lx, highs := hx, span := bu2.span, press := bu2.press }) _ _ _ _ i k _ (Slx.rd M (.cons _ (.cons _ (.cons _ (.cons _ (List.Sublist.cons_cons _ (List.nil_sublist _))))))) (Shx.rd M (.cons _ (.cons _ (.cons _ (.cons _ (.cons _ (List.Sublist.cons_cons _ (List.nil_sublist _)))))))) (by show lx.length ≤ _; omega) (by show hx.length ≤ _; omega)) ?_
    clear T
    rintro e wc ⟨Au15, cu15, Iu15, rfl, Su15, N⟩
    intro ac T
    obtain ⟨bu15, ou15, Su15⟩ := Su15
    replace Su15 := Su15 w noEx
    obtain ⟨lbu15, hlbu15⟩ : ∃ q, q = beatE ({ bu2 with lows := lx, highs := hx, span := bu2.span, press := bu2.press }) i k := ⟨_, rfl⟩
    rw [← hlbu15] at Su15
    obtain ⟨ebu15, hebu15⟩ : ∃ q, q = checkPB ({ bu2 with lows := lx, highs := hx, span := bu2.span, press := bu2.press }) i k := ⟨_, rfl⟩
    replace M := (M.join N).swapI
    clear N
    replace M : Mem w noEx wc ((g1ur5_3, .cells (sc ly ++ y1ur5_3)) :: (g2ur5_3, .cells (sc hy ++ y2ur5_3)) :: (gr5_4, .cells (bxM bu2 (.slice (some ⟨g1ur5_1, 0, none⟩) lx.length c1ur5_1) (.slice (some ⟨g2ur5_1, 0, none⟩) hx.length c2ur5_1))) :: (gr5_5, .cells (bxM bu2 (.slice (some ⟨g1ur5_3, 0, none⟩) ly.length c1ur5_3) (.slice (some ⟨g2ur5_3, 0, none⟩) hy.length c2ur5_3))) :: (g1ur5_1, .cells (sc lx ++ y1ur5_1)) :: (g2ur5_1, .cells (sc hx ++ y2ur5_1)) :: (g1, .cells (bxM bu2 (.slice Au2 bu2.lows.length cu2) (.slice Bu2 bu2.highs.length du2))) :: (Iu2 ++ Iu14 ++ Iu15)) := M
    rw [← hlbu15] at T
    rw [← hebu15] at T
    refine sh_out hK _ _ ?_; clear hK K
    refine lq T (rn_move rfl (T.ev 0 rfl)) ?_; clear T ac; intro ac T
    refine lq T (rn_extract rfl (T.ev 0 rfl) rfl) ?_; clear T ac; intro ac T
    refine lq T (rn_extract rfl (T.ev 1 rfl) rfl) ?_; clear T ac; intro ac T
    refine lq T (rn_assign rfl (T.ev 1 rfl)) ?_; clear T ac; intro ac T
    refine lq T (rn_assign rfl (T.ev 1 rfl)) ?_; clear T ac; intro ac T
    refine wpList_nil ?_
    replace T := T.pick [0, 1, 10, 11, 12, 13, 14, 15, 16, 17, 18, 19, 20, 21, 22, 23, 24, 25] rfl
    refine nm_then ?_
    refine cut_seq (fun ac wc => Tm ac 337 [(4, .pointer (some ⟨g1, 0, none⟩)), (6, .int .i64 (bu2.first + (bu2.step * bu2.note))), (7, .pointer (some ⟨gr5_4, 0, none⟩)), (8, .pointer (some ⟨gr5_5, 0, none⟩)), (13, .bool fiu12), (14, .bool fiu13), (15, .int .i64 (i : Int)), (16, .int .i64 (k : Int)), (17, .slice Au14 lbu14.length cu14), (189, .slice Au14 lbu14.length cu14), (190, .int .i64 ((lbu14.length : Nat) : Int)), (191, .pointer (some ⟨g1, 0, none⟩)), (192, .pointer (some ⟨g1, 3, none⟩)), (193, .int .i64 bu2.press), (194, .int .i64 (bu2.press + 1)), (195, .bool (!(decide (((lbu14.length : Nat) : Int) = (bu2.press + 1))))), (214, .bool false)] ∧ Mem w noEx wc ((g1ur5_3, .cells (sc ly ++ y1ur5_3)) :: (g2ur5_3, .cells (sc hy ++ y2ur5_3)) :: (gr5_4, .cells (bxM bu2 (.slice (some ⟨g1ur5_1, 0, none⟩) lx.length c1ur5_1) (.slice (some ⟨g2ur5_1, 0, none⟩) hx.length c2ur5_1))) :: (gr5_5, .cells (bxM bu2 (.slice (some ⟨g1ur5_3, 0, none⟩) ly.length c1ur5_3) (.slice (some ⟨g2ur5_3, 0, none⟩) hy.length c2ur5_3))) :: (g1ur5_1, .cells (sc lx ++ y1ur5_1)) :: (g2ur5_1, .cells (sc hx ++ y2ur5_1)) :: (g1, .cells (bxM bu2 (.slice Au2 bu2.lows.length cu2) (.slice Bu2 bu2.highs.length du2))) :: (Iu2 ++ Iu14 ++ Iu15))) ?_ ?_
    ·refine wp_region_lit ?_
     refine lq T (rn_move rfl (T.ev 14 rfl)) ?_; clear T ac; intro ac T
     refine lq T (rn_move rfl (T.ev 0 rfl)) ?_; clear T ac; intro ac T
     rcases Bool.eq_false_or_eq_true fiu12 with h5 | h5
     ·have hbx9 := raised_beat (hRu12 h5) hkx9 hky9
      have heb9 : ebu15 = 0 := by rw [hebu15, hNlx, hNhx]; exact hbx9.1
      have hll9 : lbu15 = lbu14 := by rw [hlbu15, hlbu14, hNlx, hNhx]; exact hbx9.2
      have hlr9 : rc lbu15 = rc lbu14 := by rw [hll9]
      have hln9 : lbu15.length = lbu14.length := by rw [hll9]
      refine lw T (wanted_yes rfl rfl (T.ev 0 rfl) h5) (rn_move rfl (T.ev 2 rfl)) ?_; clear T ac; intro ac T
      refine lw T (wanted_yes rfl rfl (T.ev 1 rfl) h5) (rn_neq rfl (T.ev 0 rfl) evc) ?_; clear T ac; intro ac T
      refine lw T (wanted_yes rfl rfl (T.ev 2 rfl) h5) (rn_move rfl (T.ev 0 rfl)) ?_; clear T ac; intro ac T
      refine lw T (wanted_yes rfl rfl (T.ev 0 rfl) (by rw [show (decide (ebu15 = 0)) = true from (decide_eq_true heb9)]; rfl)) (rn_move rfl (T.ev 14 rfl)) ?_; clear T ac; intro ac T
      refine lw T (wanted_yes rfl rfl (T.ev 1 rfl) (by rw [show (decide (ebu15 = 0)) = true from (decide_eq_true heb9)]; rfl)) (rn_move rfl (T.ev 7 rfl)) ?_; clear T ac; intro ac T
      refine l_w (wanted_yes rfl rfl (T.ev 2 rfl) (by rw [show (decide (ebu15 = 0)) = true from (decide_eq_true heb9)]; rfl)) ?_; intro K hK
      refine ow_call (first := []) (cap := []) T rfl rfl rfl rfl evf (.cons (T.ev 1 rfl) (.cons (T.ev 0 rfl) .nil)) Try.func26 rfl rfl ?_
      refine Calls.mono (sameRanges_same _ _ _ _ _ _ lbu14 _ (Su14.rd M (.cons _ (.cons _ (.cons _ (.cons _ (.cons _ (.cons _ (.cons _ (subL (List.sublist_append_right _ _)))))))))) (by have h9 := Su15.rd M (.cons _ (.cons _ (.cons _ (.cons _ (.cons _ (.cons _ (.cons _ (List.sublist_append_right _ _)))))))); rw [hlr9] at h9; exact h9) (by omega) (by rw [hln9]; omega)) ?_
      clear T
      rintro e wc ⟨rfl, hb⟩
      intro ac T
      replace M := M.call hb; clear hb
      refine sh_out hK _ _ ?_; clear hK K
      refine lw (v := (.bool false)) T (wanted_yes rfl rfl (T.ev 3 rfl) (by rw [show (decide (ebu15 = 0)) = true from (decide_eq_true heb9)]; rfl)) (rn_neqof (rn_not rfl (T.ev 0 rfl)) (by simp)) ?_; clear T ac; intro ac T
      refine lw T (wanted_yes rfl rfl (T.ev 7 rfl) h5) (rn_pick0 rfl (T.ev 4 rfl) (by rw [show (decide (ebu15 = 0)) = true from (decide_eq_true heb9)]; rfl) (T.ev 0 rfl)) ?_; clear T ac; intro ac T
      refine lq T (rn_pick1 rfl (T.ev 8 rfl) h5 (T.ev 0 rfl)) ?_; clear T ac; intro ac T
      refine wpList_nil ?_
      replace T := T.pick [0, 1, 2, 3, 4, 5, 6, 7, 8, 13, 14, 15, 16, 17, 18, 19, 20, 21, 22, 23, 24, 25, 26, 27, 28] rfl
      exact ⟨(T.pick (E' := [(4, .pointer (some ⟨g1, 0, none⟩)), (6, .int .i64 (bu2.first + (bu2.step * bu2.note))), (7, .pointer (some ⟨gr5_4, 0, none⟩)), (8, .pointer (some ⟨gr5_5, 0, none⟩)), (13, .bool fiu12), (14, .bool fiu13), (15, .int .i64 (i : Int)), (16, .int .i64 (k : Int)), (17, .slice Au14 lbu14.length cu14), (189, .slice Au14 lbu14.length cu14), (190, .int .i64 ((lbu14.length : Nat) : Int)), (191, .pointer (some ⟨g1, 0, none⟩)), (192, .pointer (some ⟨g1, 3, none⟩)), (193, .int .i64 bu2.press), (194, .int .i64 (bu2.press + 1)), (195, .bool (!(decide (((lbu14.length : Nat) : Int) = (bu2.press + 1))))), (214, .bool false)]) [17, 18, 19, 20, 21, 22, 23, 24, 16, 15, 14, 13, 12, 11, 10, 9, 0] rfl).as (by (try rw [show fiu12 = true from h5]); (try rfl)), M.mask [true, true, true, true, true, true, true] rfl⟩
     refine lp T (wanted_no rfl rfl (T.ev 0 rfl) h5) ?_; clear T ac; intro ac T
     refine lp T (wanted_no rfl rfl (T.ev 1 rfl) h5) ?_; clear T ac; intro ac T
     refine lp T (wanted_no rfl rfl (T.ev 2 rfl) h5) ?_; clear T ac; intro ac T
     refine lp T (wanted_un rfl rfl (T.ev 0 rfl)) ?_; clear T ac; intro ac T
     refine lp T (wanted_un rfl rfl (T.ev 1 rfl)) ?_; clear T ac; intro ac T
     refine lp T (wanted_un rfl rfl (T.ev 2 rfl)) ?_; clear T ac; intro ac T
     refine lp T (wanted_un rfl rfl (T.ev 3 rfl)) ?_; clear T ac; intro ac T
     refine lp T (wanted_no rfl rfl (T.ev 7 rfl) h5) ?_; clear T ac; intro ac T
     refine lq T (rn_pick0 rfl (T.ev 8 rfl) h5 evc) ?_; clear T ac; intro ac T
     refine wpList_nil ?_
     replace T := T.pick [0, 1, 2, 3, 4, 5, 6, 7, 8, 13, 14, 15, 16, 17, 18, 19, 20, 21, 22, 23, 24, 25, 26, 27, 28] rfl
     exact ⟨(T.pick (E' := [(4, .pointer (some ⟨g1, 0, none⟩)), (6, .int .i64 (bu2.first + (bu2.step * bu2.note))), (7, .pointer (some ⟨gr5_4, 0, none⟩)), (8, .pointer (some ⟨gr5_5, 0, none⟩)), (13, .bool fiu12), (14, .bool fiu13), (15, .int .i64 (i : Int)), (16, .int .i64 (k : Int)), (17, .slice Au14 lbu14.length cu14), (189, .slice Au14 lbu14.length cu14), (190, .int .i64 ((lbu14.length : Nat) : Int)), (191, .pointer (some ⟨g1, 0, none⟩)), (192, .pointer (some ⟨g1, 3, none⟩)), (193, .int .i64 bu2.press), (194, .int .i64 (bu2.press + 1)), (195, .bool (!(decide (((lbu14.length : Nat) : Int) = (bu2.press + 1))))), (214, .bool false)]) [17, 18, 19, 20, 21, 22, 23, 24, 16, 15, 14, 13, 12, 11, 10, 9, 0] rfl).as (by (try rw [show fiu12 = false from h5]); (try rfl)), M.mask [true, true, true, true, true, true, true] rfl⟩
    clear T M
    rintro ac wc ⟨T, M⟩
    refine wp_cond_false (T.ev 16 rfl) ?_
    refine wp_skip ?_
    refine nm_then ?_
    refine wp_seq ?_
    refine wp_region_lit ?_
    refine lq T (rn_rowO (Mem.nth M 6 rfl) rfl (T.ev 0 rfl) rfl) ?_; clear T ac; intro ac T
    refine lq T (rn_move rfl (T.ev 7 rfl)) ?_; clear T ac; intro ac T
    refine lq T (rn_move rfl (T.ev 9 rfl)) ?_; clear T ac; intro ac T
    refine l_w rfl ?_; intro K hK
    refine ow_call (first := []) (cap := []) T rfl rfl rfl rfl evf (.cons (T.ev 2 rfl) (.cons (T.ev 1 rfl) (.cons (T.ev 0 rfl) .nil))) Try.func22 rfl rfl ?_
    refine Calls.mono (Keeps_at bu2 _ _ _ _ i k x y _ (SAu2.rd M (.cons _ (.cons _ (.cons _ (.cons _ (.cons _ (.cons _ (.cons _ (subL (subL (List.Sublist.refl _))))))))))) (SBu2.rd M (.cons _ (.cons _ (.cons _ (.cons _ (.cons _ (.cons _ (.cons _ (subL (subL (List.Sublist.refl _))))))))))) hgu2 hkx9 hky9) ?_
    clear T
    rintro e wc ⟨rfl, hb⟩
    intro ac T
    replace M := M.call hb; clear hb
    obtain ⟨kpu17, hkpu17⟩ : ∃ q, q = keepsP bu2.law bu2.due [x, y] := ⟨_, rfl⟩
    rw [← hkpu17] at T
    refine sh_out hK _ _ ?_; clear hK K
    refine lq T (rn_move rfl (T.ev 0 rfl)) ?_; clear T ac; intro ac T
    refine lq T (rn_extract rfl (T.ev 0 rfl) rfl) ?_; clear T ac; intro ac T
    refine lq T (rn_extract rfl (T.ev 1 rfl) rfl) ?_; clear T ac; intro ac T
    refine lq T (rn_assign rfl (T.ev 1 rfl)) ?_; clear T ac; intro ac T
    refine lq T (rn_assign rfl (T.ev 1 rfl)) ?_; clear T ac; intro ac T
    refine wpList_nil ?_
    replace T := T.pick [0, 1, 9, 10, 11, 12, 13, 14, 15, 16, 17, 18, 19, 20, 21, 22, 23, 24] rfl
    refine nm_then ?_
    refine wp_seq ?_
    refine wp_region_lit ?_
    refine lq T (rn_rowO (Mem.nth M 3 rfl) rfl (T.ev 5 rfl) rfl) ?_; clear T ac; intro ac T
    refine lq T (rn_move rfl (T.ev 9 rfl)) ?_; clear T ac; intro ac T
    refine lq T (rn_move rfl (T.ev 11 rfl)) ?_; clear T ac; intro ac T
    refine l_w rfl ?_; intro K hK
    refine ow_call (first := []) (cap := []) T rfl rfl rfl rfl evf (.cons (T.ev 2 rfl) (.cons (T.ev 1 rfl) (.cons (T.ev 0 rfl) .nil))) Try.func22 rfl rfl ?_
    refine Calls.mono (Keeps_any ({ bu2 with lows := ly, highs := hy, span := bu2.span, press := bu2.press }) _ _ _ _ i k _ (Sly.rd M (List.Sublist.cons_cons _ (List.nil_sublist _))) (Shy.rd M (.cons _ (List.Sublist.cons_cons _ (List.nil_sublist _)))) (by show ly.length ≤ _; omega) (by show hy.length ≤ _; omega)) ?_
    clear T
    rintro e wc ⟨rfl, hb⟩
    intro ac T
    replace M := M.call hb; clear hb
    obtain ⟨kpu18, hkpu18⟩ : ∃ q, q = keepsE ({ bu2 with lows := ly, highs := hy, span := bu2.span, press := bu2.press }) i k := ⟨_, rfl⟩
    obtain ⟨eku18, heku18⟩ : ∃ q, q = checkPB ({ bu2 with lows := ly, highs := hy, span := bu2.span, press := bu2.press }) i k := ⟨_, rfl⟩
    rw [← hkpu18, ← heku18] at T
    refine sh_out hK _ _ ?_; clear hK K
    refine lq T (rn_move rfl (T.ev 0 rfl)) ?_; clear T ac; intro ac T
    refine lq T (rn_extract rfl (T.ev 0 rfl) rfl) ?_; clear T ac; intro ac T
    refine lq T (rn_extract rfl (T.ev 1 rfl) rfl) ?_; clear T ac; intro ac T
    refine lq T (rn_assign rfl (T.ev 1 rfl)) ?_; clear T ac; intro ac T
    refine lq T (rn_assign rfl (T.ev 1 rfl)) ?_; clear T ac; intro ac T
    refine wpList_nil ?_
    replace T := T.pick [0, 1, 9, 10, 11, 12, 13, 14, 15, 16, 17, 18, 19, 20, 21, 22, 23, 24, 25, 26] rfl
    refine nm_then ?_
    refine wp_seq ?_
    refine wp_region_lit ?_
    refine lq T (rn_rowO (Mem.nth M 3 rfl) rfl (T.ev 7 rfl) rfl) ?_; clear T ac; intro ac T
    refine lq T (rn_move rfl (T.ev 11 rfl)) ?_; clear T ac; intro ac T
    refine lq T (rn_move rfl (T.ev 13 rfl)) ?_; clear T ac; intro ac T
    refine l_w rfl ?_; intro K hK
    refine ow_call (first := []) (cap := []) T rfl rfl rfl rfl evf (.cons (T.ev 2 rfl) (.cons (T.ev 1 rfl) (.cons (T.ev 0 rfl) .nil))) Try.func21 rfl rfl ?_
    refine Calls.mono (Beat_gen ({ bu2 with lows := ly, highs := hy, span := bu2.span, press := bu2.press }) _ _ _ _ i k _ (Sly.rd M (List.Sublist.cons_cons _ (List.nil_sublist _))) (Shy.rd M (.cons _ (List.Sublist.cons_cons _ (List.nil_sublist _)))) (by show ly.length ≤ _; omega) (by show hy.length ≤ _; omega)) ?_
    clear T
    rintro e wc ⟨Au19, cu19, Iu19, rfl, Su19, N⟩
    intro ac T
    obtain ⟨bu19, ou19, Su19⟩ := Su19
    replace Su19 := Su19 w noEx
    obtain ⟨lbu19, hlbu19⟩ : ∃ q, q = beatE ({ bu2 with lows := ly, highs := hy, span := bu2.span, press := bu2.press }) i k := ⟨_, rfl⟩
    rw [← hlbu19] at Su19
    obtain ⟨ebu19, hebu19⟩ : ∃ q, q = checkPB ({ bu2 with lows := ly, highs := hy, span := bu2.span, press := bu2.press }) i k := ⟨_, rfl⟩
    obtain ⟨ya, hya⟩ : ∃ q, q = (lbu19.headD (0, 0)).1 := ⟨_, rfl⟩
    obtain ⟨yb, hyb⟩ : ∃ q, q = (lbu19.headD (0, 0)).2 := ⟨_, rfl⟩
    replace M := (M.join N).swapI
    clear N
    replace M : Mem w noEx wc ((g1ur5_3, .cells (sc ly ++ y1ur5_3)) :: (g2ur5_3, .cells (sc hy ++ y2ur5_3)) :: (gr5_4, .cells (bxM bu2 (.slice (some ⟨g1ur5_1, 0, none⟩) lx.length c1ur5_1) (.slice (some ⟨g2ur5_1, 0, none⟩) hx.length c2ur5_1))) :: (gr5_5, .cells (bxM bu2 (.slice (some ⟨g1ur5_3, 0, none⟩) ly.length c1ur5_3) (.slice (some ⟨g2ur5_3, 0, none⟩) hy.length c2ur5_3))) :: (g1ur5_1, .cells (sc lx ++ y1ur5_1)) :: (g2ur5_1, .cells (sc hx ++ y2ur5_1)) :: (g1, .cells (bxM bu2 (.slice Au2 bu2.lows.length cu2) (.slice Bu2 bu2.highs.length du2))) :: (Iu2 ++ Iu14 ++ Iu15 ++ Iu19)) := M
    rw [← hlbu19] at T
    rw [← hebu19] at T
    refine sh_out hK _ _ ?_; clear hK K
    refine lq T (rn_move rfl (T.ev 0 rfl)) ?_; clear T ac; intro ac T
    refine lq T (rn_extract rfl (T.ev 0 rfl) rfl) ?_; clear T ac; intro ac T
    refine lq T (rn_extract rfl (T.ev 1 rfl) rfl) ?_; clear T ac; intro ac T
    refine lq T (rn_assign rfl (T.ev 1 rfl)) ?_; clear T ac; intro ac T
    refine lq T (rn_assign rfl (T.ev 1 rfl)) ?_; clear T ac; intro ac T
    refine wpList_nil ?_
    replace T := T.pick [0, 1, 9, 10, 11, 12, 13, 14, 15, 16, 17, 18, 19, 20, 21, 22, 23, 24, 25, 26, 27, 28] rfl
    refine nm_then ?_
    refine cut_seq (fun ac wc => Tm ac 337 [(4, .pointer (some ⟨g1, 0, none⟩)), (6, .int .i64 (bu2.first + (bu2.step * bu2.note))), (7, .pointer (some ⟨gr5_4, 0, none⟩)), (8, .pointer (some ⟨gr5_5, 0, none⟩)), (13, .bool fiu12), (14, .bool fiu13), (15, .int .i64 (i : Int)), (16, .int .i64 (k : Int)), (189, .slice Au14 lbu14.length cu14), (190, .int .i64 ((lbu14.length : Nat) : Int)), (191, .pointer (some ⟨g1, 0, none⟩)), (192, .pointer (some ⟨g1, 3, none⟩)), (193, .int .i64 bu2.press), (194, .int .i64 (bu2.press + 1)), (195, .bool (!(decide (((lbu14.length : Nat) : Int) = (bu2.press + 1))))), (281, .bool (fiu13 && (!((decide (ya = ((2 * (bu2.first + (bu2.step * bu2.note))) - l1u14))) && (decide (yb = ((2 * (bu2.first + (bu2.step * bu2.note))) - l0u14)))))))] ∧ Mem w noEx wc ((g1ur5_3, .cells (sc ly ++ y1ur5_3)) :: (g2ur5_3, .cells (sc hy ++ y2ur5_3)) :: (gr5_4, .cells (bxM bu2 (.slice (some ⟨g1ur5_1, 0, none⟩) lx.length c1ur5_1) (.slice (some ⟨g2ur5_1, 0, none⟩) hx.length c2ur5_1))) :: (gr5_5, .cells (bxM bu2 (.slice (some ⟨g1ur5_3, 0, none⟩) ly.length c1ur5_3) (.slice (some ⟨g2ur5_3, 0, none⟩) hy.length c2ur5_3))) :: (g1ur5_1, .cells (sc lx ++ y1ur5_1)) :: (g2ur5_1, .cells (sc hx ++ y2ur5_1)) :: (g1, .cells (bxM bu2 (.slice Au2 bu2.lows.length cu2) (.slice Bu2 bu2.highs.length du2))) :: (Iu2 ++ Iu14 ++ Iu15 ++ Iu19))) ?_ ?_
    ·refine g_start2 M (M.mask [true, true, true, true, true, true, true] rfl) 46 (by kernel_rfl) rfl (by kernel_rfl) ?_
     clear M; intro wc M
     refine gq T 0 1 rfl (fun _ _ _ _ _ => (rn_move rfl (T.ev 11 rfl))) ?_; clear T ac; intro ac T
     refine gq T 1 3 rfl (fun _ _ _ _ _ => (rn_move rfl (T.ev 0 rfl))) ?_; clear T ac; intro ac T
     rcases Bool.eq_false_or_eq_true fiu13 with h6 | h6
     ·obtain ⟨ht1, ht2, ht3⟩ := turned_pair (hRu13 h6) hkx9 hky9
      have hek9 : eku18 = 0 := by rw [heku18, hNly, hNhy]; exact ht1
      have hey9 : ebu19 = 0 := by rw [hebu19, hNly, hNhy]; exact ht1
      have hkk9 : kpu17 = kpu18 := by rw [hkpu17, hkpu18, hNly, hNhy]; exact ht3.symm
      have hyl9 : lbu19 = beatsL bu2.law (turnL x) (turnH (bu2.first + (bu2.step * bu2.note)) y) := by rw [hlbu19, hNly, hNhy]; exact ht2
      have hyn9 : lbu19.length = lbu14.length := by rw [hyl9, hlbu14, beatsL_length, beatsL_length]
      obtain ⟨yc, yd, hky1, -⟩ := rc_next (l := lbu19) (k := 0) (by omega)
      have hky0 : lbu19[0]? = some (ya, yb) := by rw [hya, hyb, headD_at hky1]; exact hky1
      have hzy := (beats_zero (by rw [← hyl9]; exact hky0)).trans (beat_turned _ x y)
      rw [← hzu14] at hzy
      have hya9 : ya = (2 * (bu2.first + (bu2.step * bu2.note))) - l1u14 := congrArg Prod.fst hzy
      have hyb9 : yb = (2 * (bu2.first + (bu2.step * bu2.note))) - l0u14 := congrArg Prod.snd hzy
      refine gqw T 2 7 rfl (wanted_yes rfl rfl (T.ev 0 rfl) h6) (fun _ _ _ _ _ => (rn_move rfl (T.ev 6 rfl))) ?_; clear T ac; intro ac T
      refine gqw (v := (.bool false)) T 3 15 rfl (wanted_yes rfl rfl (T.ev 1 rfl) h6) (fun _ _ _ _ _ => (rn_neqof (rn_neq rfl (T.ev 0 rfl) evc) (by simp))) ?_; clear T ac; intro ac T
      refine gqw T 4 31 rfl (wanted_yes rfl rfl (T.ev 2 rfl) h6) (fun _ _ _ _ _ => (rn_move rfl (T.ev 0 rfl))) ?_; clear T ac; intro ac T
      refine gqw T 5 63 rfl (wanted_yes rfl rfl (T.ev 0 rfl) rfl) (fun _ _ _ _ _ => (rn_move rfl (T.ev 7 rfl))) ?_; clear T ac; intro ac T
      refine gqw T 6 127 rfl (wanted_yes rfl rfl (T.ev 1 rfl) rfl) (fun _ _ _ _ _ => (rn_neq rfl (T.ev 0 rfl) evc)) ?_; clear T ac; intro ac T
      refine gqw T 7 255 rfl (wanted_yes rfl rfl (T.ev 5 rfl) h6) (fun _ _ _ _ _ => (rn_pick0 rfl (T.ev 2 rfl) rfl (T.ev 0 rfl))) ?_; clear T ac; intro ac T
      refine gqw T 8 511 rfl (wanted_yes rfl rfl (T.ev 6 rfl) h6) (fun _ _ _ _ _ => (rn_move rfl (T.ev 0 rfl))) ?_; clear T ac; intro ac T
      refine gqw T 9 1023 rfl (wanted_yes rfl rfl (T.ev 0 rfl) (by rw [show (decide (eku18 = 0)) = true from (decide_eq_true hek9)]; rfl)) (fun _ _ _ _ _ => (rn_move rfl (T.ev 9 rfl))) ?_; clear T ac; intro ac T
      refine gqw T 10 2047 rfl (wanted_yes rfl rfl (T.ev 1 rfl) (by rw [show (decide (eku18 = 0)) = true from (decide_eq_true hek9)]; rfl)) (fun _ _ _ _ _ => (rn_neq rfl (T.ev 0 rfl) evc)) ?_; clear T ac; intro ac T
      refine gqw T 11 4095 rfl (wanted_yes rfl rfl (T.ev 9 rfl) h6) (fun _ _ _ _ _ => (rn_pick0 rfl (T.ev 2 rfl) (by rw [show (decide (eku18 = 0)) = true from (decide_eq_true hek9)]; rfl) (T.ev 0 rfl))) ?_; clear T ac; intro ac T
      refine gqw T 12 8191 rfl (wanted_yes rfl rfl (T.ev 10 rfl) h6) (fun _ _ _ _ _ => (rn_move rfl (T.ev 0 rfl))) ?_; clear T ac; intro ac T
      refine gqw T 13 16383 rfl (wanted_yes rfl rfl (T.ev 0 rfl) (by rw [show (decide (ebu19 = 0)) = true from (decide_eq_true hey9)]; rfl)) (fun _ _ _ _ _ => (rn_move rfl (T.ev 18 rfl))) ?_; clear T ac; intro ac T
      refine gqw T 14 32767 rfl (wanted_yes rfl rfl (T.ev 1 rfl) (by rw [show (decide (ebu19 = 0)) = true from (decide_eq_true hey9)]; rfl)) (fun _ _ _ _ _ => (rn_move rfl (T.ev 17 rfl))) ?_; clear T ac; intro ac T
      refine gqw T 15 65535 rfl (wanted_yes rfl rfl (T.ev 2 rfl) (by rw [show (decide (ebu19 = 0)) = true from (decide_eq_true hey9)]; rfl)) (fun _ _ _ _ _ => (rn_neq rfl (T.ev 1 rfl) (T.ev 0 rfl))) ?_; clear T ac; intro ac T
      refine gqw T 16 131071 rfl (wanted_yes rfl rfl (T.ev 14 rfl) h6) (fun _ _ _ _ _ => (rn_pick0 rfl (T.ev 3 rfl) (by rw [show (decide (ebu19 = 0)) = true from (decide_eq_true hey9)]; rfl) (T.ev 0 rfl))) ?_; clear T ac; intro ac T
      refine gqw T 17 262143 rfl (wanted_yes rfl rfl (T.ev 15 rfl) h6) (fun _ _ _ _ _ => (rn_move rfl (T.ev 0 rfl))) ?_; clear T ac; intro ac T
      refine gqw T 18 524287 rfl (wanted_yes rfl rfl (T.ev 0 rfl) (by rw [show (decide (kpu17 = kpu18)) = true from (decide_eq_true hkk9)]; rfl)) (fun _ _ _ _ _ => (rn_move rfl (T.ev 19 rfl))) ?_; clear T ac; intro ac T
      refine gqw T 19 1048575 rfl (wanted_yes rfl rfl (T.ev 1 rfl) (by rw [show (decide (kpu17 = kpu18)) = true from (decide_eq_true hkk9)]; rfl)) (fun _ _ _ _ _ => (rn_lenS rfl Try.underlying50 (T.ev 0 rfl))) ?_; clear T ac; intro ac T
      refine gqw T 20 2097151 rfl (wanted_yes rfl rfl (T.ev 2 rfl) (by rw [show (decide (kpu17 = kpu18)) = true from (decide_eq_true hkk9)]; rfl)) (fun _ _ _ _ _ => (rn_move rfl (T.ev 34 rfl))) ?_; clear T ac; intro ac T
      refine gqw T 21 4194303 rfl (wanted_yes rfl rfl (T.ev 3 rfl) (by rw [show (decide (kpu17 = kpu18)) = true from (decide_eq_true hkk9)]; rfl)) (fun _ _ _ _ _ => (rn_lenS rfl Try.underlying50 (T.ev 0 rfl))) ?_; clear T ac; intro ac T
      refine gqw T 22 8388607 rfl (wanted_yes rfl rfl (T.ev 4 rfl) (by rw [show (decide (kpu17 = kpu18)) = true from (decide_eq_true hkk9)]; rfl)) (fun _ _ _ _ _ => (rn_neq rfl (T.ev 2 rfl) (T.ev 0 rfl))) ?_; clear T ac; intro ac T
      refine gqw T 23 16777215 rfl (wanted_yes rfl rfl (T.ev 21 rfl) h6) (fun _ _ _ _ _ => (rn_pick0 rfl (T.ev 5 rfl) (by rw [show (decide (kpu17 = kpu18)) = true from (decide_eq_true hkk9)]; rfl) (T.ev 0 rfl))) ?_; clear T ac; intro ac T
      refine gqw T 24 33554431 rfl (wanted_yes rfl rfl (T.ev 22 rfl) h6) (fun _ _ _ _ _ => (rn_move rfl (T.ev 0 rfl))) ?_; clear T ac; intro ac T
      refine gqw T 25 67108863 rfl (wanted_yes rfl rfl (T.ev 0 rfl) (by rw [show (decide (((lbu19.length : Nat) : Int) = ((lbu14.length : Nat) : Int))) = true from (decide_eq_true (by omega))]; rfl)) (fun _ _ _ _ _ => (rn_move rfl (T.ev 26 rfl))) ?_; clear T ac; intro ac T
      refine gqw T 26 134217727 rfl (wanted_yes rfl rfl (T.ev 1 rfl) (by rw [show (decide (((lbu19.length : Nat) : Int) = ((lbu14.length : Nat) : Int))) = true from (decide_eq_true (by omega))]; rfl)) (fun _ _ _ _ _ => (rn_indexAddr (size := 2) 0 rfl (T.ev 0 rfl) evc ⟨_, Try.underlying50, by kernel_rfl⟩ rfl (by omega) (Su19.at0 (by omega)))) ?_; clear T ac; intro ac T
      refine gqw (v := (.agg #[.int .i64 ya, .int .i64 yb])) T 27 268435455 rfl (wanted_yes rfl rfl (T.ev 2 rfl) (by rw [show (decide (((lbu19.length : Nat) : Int) = ((lbu14.length : Nat) : Int))) = true from (decide_eq_true (by omega))]; rfl)) (fun B w' hD hl hS => (rn_rowat (Sp.rcR Su19 (show Mem w noEx w' _ from hS) (.cons _ (.cons _ (.cons _ (.cons _ (.cons _ (.cons _ (.cons _ (List.sublist_append_right _ _)))))))) hky0) rfl (T.ev 0 rfl) rfl)) ?_; clear T ac; intro ac T
      refine gqw T 28 536870911 rfl (wanted_yes rfl rfl (T.ev 3 rfl) (by rw [show (decide (((lbu19.length : Nat) : Int) = ((lbu14.length : Nat) : Int))) = true from (decide_eq_true (by omega))]; rfl)) (fun _ _ _ _ _ => (rn_move rfl (T.ev 35 rfl))) ?_; clear T ac; intro ac T
      refine gqw T 29 1073741823 rfl (wanted_yes rfl rfl (T.ev 4 rfl) (by rw [show (decide (((lbu19.length : Nat) : Int) = ((lbu14.length : Nat) : Int))) = true from (decide_eq_true (by omega))]; rfl)) (fun _ _ _ _ _ => (rn_mul rfl evc (T.ev 0 rfl) (by omega))) ?_; clear T ac; intro ac T
      refine gqw T 30 2147483647 rfl (wanted_yes rfl rfl (T.ev 5 rfl) (by rw [show (decide (((lbu19.length : Nat) : Int) = ((lbu14.length : Nat) : Int))) = true from (decide_eq_true (by omega))]; rfl)) (fun _ _ _ _ _ => (rn_move rfl (T.ev 44 rfl))) ?_; clear T ac; intro ac T
      refine gqw T 31 4294967295 rfl (wanted_yes rfl rfl (T.ev 6 rfl) (by rw [show (decide (((lbu19.length : Nat) : Int) = ((lbu14.length : Nat) : Int))) = true from (decide_eq_true (by omega))]; rfl)) (fun _ _ _ _ _ => (rn_indexAddr (size := 2) 0 rfl (T.ev 0 rfl) evc ⟨_, Try.underlying50, by kernel_rfl⟩ rfl (by omega) (Su14.at0 (by omega)))) ?_; clear T ac; intro ac T
      refine gqw T 32 8589934591 rfl (wanted_yes rfl rfl (T.ev 7 rfl) (by rw [show (decide (((lbu19.length : Nat) : Int) = ((lbu14.length : Nat) : Int))) = true from (decide_eq_true (by omega))]; rfl)) (fun _ _ _ _ _ => (rn_fieldAddr (off := 1) rfl (T.ev 0 rfl) (fun _ _ _ => by kernel_rfl))) ?_; clear T ac; intro ac T
      refine gqw T 33 17179869183 rfl (wanted_yes rfl rfl (T.ev 8 rfl) (by rw [show (decide (((lbu19.length : Nat) : Int) = ((lbu14.length : Nat) : Int))) = true from (decide_eq_true (by omega))]; rfl)) (fun B w' hD hl hS => (rn_cell (Sp.rc1 Su14 (show Mem w noEx w' _ from hS) (.cons _ (.cons _ (.cons _ (.cons _ (.cons _ (.cons _ (.cons _ (subL (subL (List.sublist_append_right _ _)))))))))) hklu14) rfl (T.ev 0 rfl))) ?_; clear T ac; intro ac T
      refine gqw T 34 34359738367 rfl (wanted_yes rfl rfl (T.ev 9 rfl) (by rw [show (decide (((lbu19.length : Nat) : Int) = ((lbu14.length : Nat) : Int))) = true from (decide_eq_true (by omega))]; rfl)) (fun _ _ _ _ _ => (rn_sub rfl (T.ev 4 rfl) (T.ev 0 rfl) (by omega))) ?_; clear T ac; intro ac T
      refine gqw T 35 68719476735 rfl (wanted_yes rfl rfl (T.ev 10 rfl) (by rw [show (decide (((lbu19.length : Nat) : Int) = ((lbu14.length : Nat) : Int))) = true from (decide_eq_true (by omega))]; rfl)) (fun _ _ _ _ _ => (rn_move rfl (T.ev 42 rfl))) ?_; clear T ac; intro ac T
      refine gqw T 36 137438953471 rfl (wanted_yes rfl rfl (T.ev 11 rfl) (by rw [show (decide (((lbu19.length : Nat) : Int) = ((lbu14.length : Nat) : Int))) = true from (decide_eq_true (by omega))]; rfl)) (fun _ _ _ _ _ => (rn_mul rfl evc (T.ev 0 rfl) (by omega))) ?_; clear T ac; intro ac T
      refine gqw T 37 274877906943 rfl (wanted_yes rfl rfl (T.ev 12 rfl) (by rw [show (decide (((lbu19.length : Nat) : Int) = ((lbu14.length : Nat) : Int))) = true from (decide_eq_true (by omega))]; rfl)) (fun _ _ _ _ _ => (rn_move rfl (T.ev 51 rfl))) ?_; clear T ac; intro ac T
      refine gqw T 38 549755813887 rfl (wanted_yes rfl rfl (T.ev 13 rfl) (by rw [show (decide (((lbu19.length : Nat) : Int) = ((lbu14.length : Nat) : Int))) = true from (decide_eq_true (by omega))]; rfl)) (fun _ _ _ _ _ => (rn_indexAddr (size := 2) 0 rfl (T.ev 0 rfl) evc ⟨_, Try.underlying50, by kernel_rfl⟩ rfl (by omega) (Su14.at0 (by omega)))) ?_; clear T ac; intro ac T
      refine gqw T 39 1099511627775 rfl (wanted_yes rfl rfl (T.ev 14 rfl) (by rw [show (decide (((lbu19.length : Nat) : Int) = ((lbu14.length : Nat) : Int))) = true from (decide_eq_true (by omega))]; rfl)) (fun _ _ _ _ _ => (rn_fieldAddr (off := 0) rfl (T.ev 0 rfl) (fun _ _ _ => by kernel_rfl))) ?_; clear T ac; intro ac T
      refine gqw T 40 2199023255551 rfl (wanted_yes rfl rfl (T.ev 15 rfl) (by rw [show (decide (((lbu19.length : Nat) : Int) = ((lbu14.length : Nat) : Int))) = true from (decide_eq_true (by omega))]; rfl)) (fun B w' hD hl hS => (rn_cell (Sp.rc0 Su14 (show Mem w noEx w' _ from hS) (.cons _ (.cons _ (.cons _ (.cons _ (.cons _ (.cons _ (.cons _ (subL (subL (List.sublist_append_right _ _)))))))))) hklu14) rfl (T.ev 0 rfl))) ?_; clear T ac; intro ac T
      refine gqw T 41 4398046511103 rfl (wanted_yes rfl rfl (T.ev 16 rfl) (by rw [show (decide (((lbu19.length : Nat) : Int) = ((lbu14.length : Nat) : Int))) = true from (decide_eq_true (by omega))]; rfl)) (fun _ _ _ _ _ => (rn_sub rfl (T.ev 4 rfl) (T.ev 0 rfl) (by omega))) ?_; clear T ac; intro ac T
      refine g_w (i := 42) (by kernel_rfl) rfl (by kernel_rfl : (pbits 46 4398046511103).setIfInBounds 42 true = pbits 46 8796093022207) (wanted_yes rfl rfl (T.ev 17 rfl) (by rw [show (decide (((lbu19.length : Nat) : Int) = ((lbu14.length : Nat) : Int))) = true from (decide_eq_true (by omega))]; rfl)) ?_; intro K hK
      refine ow_call (first := []) (cap := []) T rfl rfl rfl rfl evf (.cons (T.ev 7 rfl) (.cons (T.ev 0 rfl) .nil)) Try.func24 rfl rfl ?_
      refine Calls.mono (to5_any ((2 * (bu2.first + (bu2.step * bu2.note))) - l1u14) ((2 * (bu2.first + (bu2.step * bu2.note))) - l0u14) _) ?_
      clear T
      rintro e wc ⟨rfl, hb⟩
      intro ac T
      replace M := M.call hb; clear hb
      refine sh_out hK _ _ (M.mask [true, true, true, true, true, true, true] rfl) ?_; clear hK K
      refine gqw (v := (.bool (!((decide (ya = ((2 * (bu2.first + (bu2.step * bu2.note))) - l1u14))) && (decide (yb = ((2 * (bu2.first + (bu2.step * bu2.note))) - l0u14))))))) T 43 17592186044415 rfl (wanted_yes rfl rfl (T.ev 18 rfl) (by rw [show (decide (((lbu19.length : Nat) : Int) = ((lbu14.length : Nat) : Int))) = true from (decide_eq_true (by omega))]; rfl)) (fun _ _ _ _ _ => (rn_bin rfl (T.ev 15 rfl) (T.ev 0 rfl) neT40)) ?_; clear T ac; intro ac T
      refine gqw T 44 35184372088831 rfl (wanted_yes rfl rfl (T.ev 42 rfl) h6) (fun _ _ _ _ _ => (rn_pick0 rfl (T.ev 19 rfl) (by rw [show (decide (((lbu19.length : Nat) : Int) = ((lbu14.length : Nat) : Int))) = true from (decide_eq_true (by omega))]; rfl) (T.ev 0 rfl))) ?_; clear T ac; intro ac T
      refine gq T 45 70368744177663 rfl (fun _ _ _ _ _ => (rn_pick1 rfl (T.ev 43 rfl) h6 (T.ev 0 rfl))) ?_; clear T ac; intro ac T
      refine g_done (by kernel_rfl) ?_
      replace T := T.pick [0, 1, 2, 3, 4, 5, 6, 7, 8, 9, 10, 11, 12, 13, 14, 15, 16, 17, 18, 19, 20, 21, 22, 23, 24, 25, 26, 27, 28, 29, 30, 31, 32, 33, 34, 35, 36, 37, 38, 39, 40, 41, 42, 43, 52, 53, 54, 55, 56, 57, 58, 59, 61, 62, 63, 64, 65, 66, 67] rfl
      exact ⟨(T.pick (E' := [(4, .pointer (some ⟨g1, 0, none⟩)), (6, .int .i64 (bu2.first + (bu2.step * bu2.note))), (7, .pointer (some ⟨gr5_4, 0, none⟩)), (8, .pointer (some ⟨gr5_5, 0, none⟩)), (13, .bool fiu12), (14, .bool fiu13), (15, .int .i64 (i : Int)), (16, .int .i64 (k : Int)), (189, .slice Au14 lbu14.length cu14), (190, .int .i64 ((lbu14.length : Nat) : Int)), (191, .pointer (some ⟨g1, 0, none⟩)), (192, .pointer (some ⟨g1, 3, none⟩)), (193, .int .i64 bu2.press), (194, .int .i64 (bu2.press + 1)), (195, .bool (!(decide (((lbu14.length : Nat) : Int) = (bu2.press + 1))))), (281, .bool (!((decide (ya = ((2 * (bu2.first + (bu2.step * bu2.note))) - l1u14))) && (decide (yb = ((2 * (bu2.first + (bu2.step * bu2.note))) - l0u14))))))]) [44, 45, 46, 47, 48, 49, 50, 51, 52, 53, 54, 55, 56, 57, 58, 0] rfl).as (by (try rw [show fiu13 = true from h6]); (try rfl)), M.mask [true, true, true, true, true, true, true] rfl⟩
     refine gp T 2 7 rfl (wanted_no rfl rfl (T.ev 0 rfl) h6) ?_; clear T ac; intro ac T
     refine gp T 3 15 rfl (wanted_no rfl rfl (T.ev 1 rfl) h6) ?_; clear T ac; intro ac T
     refine gp T 4 31 rfl (wanted_no rfl rfl (T.ev 2 rfl) h6) ?_; clear T ac; intro ac T
     refine gp T 5 63 rfl (wanted_un rfl rfl (T.ev 0 rfl)) ?_; clear T ac; intro ac T
     refine gp T 6 127 rfl (wanted_un rfl rfl (T.ev 1 rfl)) ?_; clear T ac; intro ac T
     refine gp T 7 255 rfl (wanted_no rfl rfl (T.ev 5 rfl) h6) ?_; clear T ac; intro ac T
     refine gp T 8 511 rfl (wanted_no rfl rfl (T.ev 6 rfl) h6) ?_; clear T ac; intro ac T
     refine gp T 9 1023 rfl (wanted_un rfl rfl (T.ev 0 rfl)) ?_; clear T ac; intro ac T
     refine gp T 10 2047 rfl (wanted_un rfl rfl (T.ev 1 rfl)) ?_; clear T ac; intro ac T
     refine gp T 11 4095 rfl (wanted_no rfl rfl (T.ev 9 rfl) h6) ?_; clear T ac; intro ac T
     refine gp T 12 8191 rfl (wanted_no rfl rfl (T.ev 10 rfl) h6) ?_; clear T ac; intro ac T
     refine gp T 13 16383 rfl (wanted_un rfl rfl (T.ev 0 rfl)) ?_; clear T ac; intro ac T
     refine gp T 14 32767 rfl (wanted_un rfl rfl (T.ev 1 rfl)) ?_; clear T ac; intro ac T
     refine gp T 15 65535 rfl (wanted_un rfl rfl (T.ev 2 rfl)) ?_; clear T ac; intro ac T
     refine gp T 16 131071 rfl (wanted_no rfl rfl (T.ev 14 rfl) h6) ?_; clear T ac; intro ac T
     refine gp T 17 262143 rfl (wanted_no rfl rfl (T.ev 15 rfl) h6) ?_; clear T ac; intro ac T
     refine gp T 18 524287 rfl (wanted_un rfl rfl (T.ev 0 rfl)) ?_; clear T ac; intro ac T
     refine gp T 19 1048575 rfl (wanted_un rfl rfl (T.ev 1 rfl)) ?_; clear T ac; intro ac T
     refine gp T 20 2097151 rfl (wanted_un rfl rfl (T.ev 2 rfl)) ?_; clear T ac; intro ac T
     refine gp T 21 4194303 rfl (wanted_un rfl rfl (T.ev 3 rfl)) ?_; clear T ac; intro ac T
     refine gp T 22 8388607 rfl (wanted_un rfl rfl (T.ev 4 rfl)) ?_; clear T ac; intro ac T
     refine gp T 23 16777215 rfl (wanted_no rfl rfl (T.ev 21 rfl) h6) ?_; clear T ac; intro ac T
     refine gp T 24 33554431 rfl (wanted_no rfl rfl (T.ev 22 rfl) h6) ?_; clear T ac; intro ac T
     refine gp T 25 67108863 rfl (wanted_un rfl rfl (T.ev 0 rfl)) ?_; clear T ac; intro ac T
     refine gp T 26 134217727 rfl (wanted_un rfl rfl (T.ev 1 rfl)) ?_; clear T ac; intro ac T
     refine gp T 27 268435455 rfl (wanted_un rfl rfl (T.ev 2 rfl)) ?_; clear T ac; intro ac T
     refine gp T 28 536870911 rfl (wanted_un rfl rfl (T.ev 3 rfl)) ?_; clear T ac; intro ac T
     refine gp T 29 1073741823 rfl (wanted_un rfl rfl (T.ev 4 rfl)) ?_; clear T ac; intro ac T
     refine gp T 30 2147483647 rfl (wanted_un rfl rfl (T.ev 5 rfl)) ?_; clear T ac; intro ac T
     refine gp T 31 4294967295 rfl (wanted_un rfl rfl (T.ev 6 rfl)) ?_; clear T ac; intro ac T
     refine gp T 32 8589934591 rfl (wanted_un rfl rfl (T.ev 7 rfl)) ?_; clear T ac; intro ac T
     refine gp T 33 17179869183 rfl (wanted_un rfl rfl (T.ev 8 rfl)) ?_; clear T ac; intro ac T
     refine gp T 34 34359738367 rfl (wanted_un rfl rfl (T.ev 9 rfl)) ?_; clear T ac; intro ac T
     refine gp T 35 68719476735 rfl (wanted_un rfl rfl (T.ev 10 rfl)) ?_; clear T ac; intro ac T
     refine gp T 36 137438953471 rfl (wanted_un rfl rfl (T.ev 11 rfl)) ?_; clear T ac; intro ac T
     refine gp T 37 274877906943 rfl (wanted_un rfl rfl (T.ev 12 rfl)) ?_; clear T ac; intro ac T
     refine gp T 38 549755813887 rfl (wanted_un rfl rfl (T.ev 13 rfl)) ?_; clear T ac; intro ac T
     refine gp T 39 1099511627775 rfl (wanted_un rfl rfl (T.ev 14 rfl)) ?_; clear T ac; intro ac T
     refine gp T 40 2199023255551 rfl (wanted_un rfl rfl (T.ev 15 rfl)) ?_; clear T ac; intro ac T
     refine gp T 41 4398046511103 rfl (wanted_un rfl rfl (T.ev 16 rfl)) ?_; clear T ac; intro ac T
     refine gp T 42 8796093022207 rfl (wanted_un rfl rfl (T.ev 17 rfl)) ?_; clear T ac; intro ac T
     refine gp T 43 17592186044415 rfl (wanted_un rfl rfl (T.ev 18 rfl)) ?_; clear T ac; intro ac T
     refine gp T 44 35184372088831 rfl (wanted_no rfl rfl (T.ev 42 rfl) h6) ?_; clear T ac; intro ac T
     refine gq T 45 70368744177663 rfl (fun _ _ _ _ _ => (rn_pick0 rfl (T.ev 43 rfl) h6 evc)) ?_; clear T ac; intro ac T
     refine g_done (by kernel_rfl) ?_
     replace T := T.pick [0, 1, 2, 3, 4, 5, 6, 7, 8, 9, 10, 11, 12, 13, 14, 15, 16, 17, 18, 19, 20, 21, 22, 23, 24, 25, 26, 27, 28, 29, 30, 31, 32, 33, 34, 35, 36, 37, 38, 39, 40, 41, 42, 43, 52, 53, 54, 55, 56, 57, 58, 59, 61, 62, 63, 64, 65, 66, 67] rfl
     exact ⟨(T.pick (E' := [(4, .pointer (some ⟨g1, 0, none⟩)), (6, .int .i64 (bu2.first + (bu2.step * bu2.note))), (7, .pointer (some ⟨gr5_4, 0, none⟩)), (8, .pointer (some ⟨gr5_5, 0, none⟩)), (13, .bool fiu12), (14, .bool fiu13), (15, .int .i64 (i : Int)), (16, .int .i64 (k : Int)), (189, .slice Au14 lbu14.length cu14), (190, .int .i64 ((lbu14.length : Nat) : Int)), (191, .pointer (some ⟨g1, 0, none⟩)), (192, .pointer (some ⟨g1, 3, none⟩)), (193, .int .i64 bu2.press), (194, .int .i64 (bu2.press + 1)), (195, .bool (!(decide (((lbu14.length : Nat) : Int) = (bu2.press + 1))))), (281, .bool false)]) [44, 45, 46, 47, 48, 49, 50, 51, 52, 53, 54, 55, 56, 57, 58, 0] rfl).as (by (try rw [show fiu13 = false from h6]); (try rfl)), M.mask [true, true, true, true, true, true, true] rfl⟩
    clear T M
    rintro ac wc ⟨T, M⟩
    refine wp_cond_split (T.ev 15 rfl) ?_ ?_
    ·intro h7
     exfalso
     have h71 := (Bool.and_eq_true_iff.1 h7).1
     have h72 := (Bool.and_eq_true_iff.1 h7).2
     obtain ⟨ht1, ht2, ht3⟩ := turned_pair (hRu13 h71) hkx9 hky9
     have hek9 : eku18 = 0 := by rw [heku18, hNly, hNhy]; exact ht1
     have hey9 : ebu19 = 0 := by rw [hebu19, hNly, hNhy]; exact ht1
     have hkk9 : kpu17 = kpu18 := by rw [hkpu17, hkpu18, hNly, hNhy]; exact ht3.symm
     have hyl9 : lbu19 = beatsL bu2.law (turnL x) (turnH (bu2.first + (bu2.step * bu2.note)) y) := by rw [hlbu19, hNly, hNhy]; exact ht2
     have hyn9 : lbu19.length = lbu14.length := by rw [hyl9, hlbu14, beatsL_length, beatsL_length]
     obtain ⟨yc, yd, hky1, -⟩ := rc_next (l := lbu19) (k := 0) (by omega)
     have hky0 : lbu19[0]? = some (ya, yb) := by rw [hya, hyb, headD_at hky1]; exact hky1
     have hzy := (beats_zero (by rw [← hyl9]; exact hky0)).trans (beat_turned _ x y)
     rw [← hzu14] at hzy
     have hya9 : ya = (2 * (bu2.first + (bu2.step * bu2.note))) - l1u14 := congrArg Prod.fst hzy
     have hyb9 : yb = (2 * (bu2.first + (bu2.step * bu2.note))) - l0u14 := congrArg Prod.snd hzy
     rw [decide_eq_true hya9, decide_eq_true hyb9] at h72
     cases h72
    intro h7
    (try have h7' := h7; try simp only [Bool.and_eq_true, Bool.or_eq_true, Bool.not_eq_true', Bool.and_eq_false_imp, Bool.or_eq_false_iff, decide_eq_true_eq, decide_eq_false_iff_not] at h7')
    refine wp_skip ?_
    refine nm_blk ?_
    refine nm_then ?_
    refine wp_region_lit ?_
    refine lq T (rn_move rfl (T.ev 7 rfl)) ?_; clear T ac; intro ac T
    refine lq T (rn_add rfl (T.ev 0 rfl) evc (by omega)) ?_; clear T ac; intro ac T
    refine l_q (v := (.int .i64 ((k : Int) + 1))) (T.pick [0, 1, 2, 3, 4, 5, 6, 7, 8, 10, 11, 12, 13, 14, 15, 16, 17] rfl) rfl rfl rfl rfl (rn_assign rfl (T.ev 0 rfl)) ?_; clear T ac; intro ac T
    refine wpList_nil ?_
    replace T := T.pick [0, 3, 4, 5, 6, 7, 8, 9, 10, 11, 12, 13, 14, 15, 16] rfl
    refine nm_then ?_
    exact ⟨_, by omega, k + 1, rfl, (by omega), T.pick [1, 2, 3, 4, 5, 6, 7, 0] rfl, (M.sub (List.Sublist.cons_cons _ (List.Sublist.cons_cons _ (List.Sublist.cons_cons _ (List.Sublist.cons_cons _ (List.Sublist.cons_cons _ (List.Sublist.cons_cons _ (List.Sublist.cons_cons _ (List.Sublist.trans (List.sublist_append_left _ _) (List.Sublist.trans (List.sublist_append_left _ _) (List.sublist_append_left _ _)))))))))))⟩
   intro h4
   refine wp_exit ?_
   refine ex_then ?_
   refine ex_then ?_
   refine ex_hit ?_
   refine nm_blk ?_
   refine nm_then ?_
   refine wp_region_lit ?_
   refine lq T (rn_move rfl (T.ev 7 rfl)) ?_; clear T ac; intro ac T
   refine lq T (rn_add rfl (T.ev 0 rfl) evc (by omega)) ?_; clear T ac; intro ac T
   refine l_q (v := (.int .i64 ((i : Int) + 1))) (T.pick [0, 1, 2, 3, 4, 5, 6, 7, 8, 10] rfl) rfl rfl rfl rfl (rn_assign rfl (T.ev 0 rfl)) ?_; clear T ac; intro ac T
   refine wpList_nil ?_
   replace T := T.pick [0, 4, 5, 6, 7, 8, 9] rfl
   refine nm_then ?_
   exact ⟨_, by omega, i + 1, rfl, (by omega), T.pick [1, 2, 3, 4, 5, 6, 0] rfl, M⟩
  intro h3
  refine wp_exit ?_
  refine ex_then ?_
  refine ex_then ?_
  refine ex_hit ?_
  refine nm_then ?_
  refine wp_seq ?_
  refine wp_region_lit ?_
  refine lq T (rn_rowO (Mem.nth M 6 rfl) rfl (T.ev 1 rfl) rfl) ?_; clear T ac; intro ac T
  refine l_w rfl ?_; intro K hK
  refine ow_call (first := []) (cap := []) T rfl rfl rfl rfl evf (.cons (T.ev 0 rfl) .nil) Try.func27 rfl rfl ?_
  refine Calls.mono (Match_good bu2 _ _ _ _ _ (SAu2.rd M (.cons _ (.cons _ (.cons _ (.cons _ (.cons _ (.cons _ (.cons _ (List.Sublist.refl _))))))))) (SBu2.rd M (.cons _ (.cons _ (.cons _ (.cons _ (.cons _ (.cons _ (.cons _ (List.Sublist.refl _))))))))) hgu2) ?_
  clear T
  rintro e wc ⟨Au21, cu21, Iu21, rfl, Su21, N⟩
  intro ac T
  obtain ⟨bu21, ou21, Su21⟩ := Su21
  replace Su21 := Su21 w noEx
  obtain ⟨mlu21, hmlu21⟩ : ∃ q, q = mostL bu2 okA := ⟨_, rfl⟩
  rw [← hmlu21] at Su21
  have hmnu21 : mlu21.length = bu2.lows.length := by rw [hmlu21]; exact (mostL_ok okA).2
  replace M := (M.join N).swapI
  clear N
  replace M : Mem w noEx wc ((g1ur5_3, .cells (sc ly ++ y1ur5_3)) :: (g2ur5_3, .cells (sc hy ++ y2ur5_3)) :: (gr5_4, .cells (bxM bu2 (.slice (some ⟨g1ur5_1, 0, none⟩) lx.length c1ur5_1) (.slice (some ⟨g2ur5_1, 0, none⟩) hx.length c2ur5_1))) :: (gr5_5, .cells (bxM bu2 (.slice (some ⟨g1ur5_3, 0, none⟩) ly.length c1ur5_3) (.slice (some ⟨g2ur5_3, 0, none⟩) hy.length c2ur5_3))) :: (g1ur5_1, .cells (sc lx ++ y1ur5_1)) :: (g2ur5_1, .cells (sc hx ++ y2ur5_1)) :: (g1, .cells (bxM bu2 (.slice Au2 bu2.lows.length cu2) (.slice Bu2 bu2.highs.length du2))) :: (Iu2 ++ Iu21)) := M
  rw [← hmlu21] at T
  refine sh_out hK _ _ ?_; clear hK K
  refine lq T (rn_move rfl (T.ev 0 rfl)) ?_; clear T ac; intro ac T
  refine lq T (rn_extract rfl (T.ev 0 rfl) rfl) ?_; clear T ac; intro ac T
  refine lq T (rn_extract rfl (T.ev 1 rfl) rfl) ?_; clear T ac; intro ac T
  refine lq T (rn_assign rfl (T.ev 1 rfl)) ?_; clear T ac; intro ac T
  refine lq T (rn_assign rfl (T.ev 1 rfl)) ?_; clear T ac; intro ac T
  refine wpList_nil ?_
  replace T := T.pick [0, 1, 8, 10, 11, 12, 13] rfl
  refine nm_then ?_
  refine wp_seq ?_
  refine wp_region_lit ?_
  refine lq T (rn_rowO (Mem.nth M 2 rfl) rfl (T.ev 3 rfl) rfl) ?_; clear T ac; intro ac T
  refine l_w rfl ?_; intro K hK
  refine ow_call (first := []) (cap := []) T rfl rfl rfl rfl evf (.cons (T.ev 0 rfl) .nil) Try.func27 rfl rfl ?_
  refine Calls.mono (Match_gen ({ bu2 with lows := lx, highs := hx, span := bu2.span, press := bu2.press }) _ _ _ _ _ (Slx.rd M (.cons _ (.cons _ (.cons _ (.cons _ (List.Sublist.cons_cons _ (List.nil_sublist _))))))) (Shx.rd M (.cons _ (.cons _ (.cons _ (.cons _ (.cons _ (List.Sublist.cons_cons _ (List.nil_sublist _)))))))) (by show lx.length ≤ _; omega) (by show hx.length ≤ _; omega)) ?_
  clear T
  rintro e wc ⟨Au22, cu22, Iu22, rfl, Su22, N⟩
  intro ac T
  obtain ⟨bu22, ou22, Su22⟩ := Su22
  replace Su22 := Su22 w noEx
  obtain ⟨mlu22, hmlu22⟩ : ∃ q, q = (matchE ({ bu2 with lows := lx, highs := hx, span := bu2.span, press := bu2.press })).1 := ⟨_, rfl⟩
  rw [← hmlu22] at Su22
  obtain ⟨emu22, hemu22⟩ : ∃ q, q = (matchE ({ bu2 with lows := lx, highs := hx, span := bu2.span, press := bu2.press })).2 := ⟨_, rfl⟩
  replace M := (M.join N).swapI
  clear N
  replace M : Mem w noEx wc ((g1ur5_3, .cells (sc ly ++ y1ur5_3)) :: (g2ur5_3, .cells (sc hy ++ y2ur5_3)) :: (gr5_4, .cells (bxM bu2 (.slice (some ⟨g1ur5_1, 0, none⟩) lx.length c1ur5_1) (.slice (some ⟨g2ur5_1, 0, none⟩) hx.length c2ur5_1))) :: (gr5_5, .cells (bxM bu2 (.slice (some ⟨g1ur5_3, 0, none⟩) ly.length c1ur5_3) (.slice (some ⟨g2ur5_3, 0, none⟩) hy.length c2ur5_3))) :: (g1ur5_1, .cells (sc lx ++ y1ur5_1)) :: (g2ur5_1, .cells (sc hx ++ y2ur5_1)) :: (g1, .cells (bxM bu2 (.slice Au2 bu2.lows.length cu2) (.slice Bu2 bu2.highs.length du2))) :: (Iu2 ++ Iu21 ++ Iu22)) := M
  rw [← hmlu22] at T
  rw [← hemu22] at T
  refine sh_out hK _ _ ?_; clear hK K
  refine lq T (rn_move rfl (T.ev 0 rfl)) ?_; clear T ac; intro ac T
  refine lq T (rn_extract rfl (T.ev 0 rfl) rfl) ?_; clear T ac; intro ac T
  refine lq T (rn_extract rfl (T.ev 1 rfl) rfl) ?_; clear T ac; intro ac T
  refine lq T (rn_assign rfl (T.ev 1 rfl)) ?_; clear T ac; intro ac T
  refine lq T (rn_assign rfl (T.ev 1 rfl)) ?_; clear T ac; intro ac T
  refine wpList_nil ?_
  replace T := T.pick [0, 1, 7, 8, 9, 11, 12, 13] rfl
  replace M := M.mask [true, true, false, true, true, true, true] rfl
  refine nm_then ?_
  refine wp_seq ?_
  refine wp_region_lit ?_
  refine lq T (rn_rowO (Mem.nth M 5 rfl) rfl (T.ev 4 rfl) rfl) ?_; clear T ac; intro ac T
  refine l_w rfl ?_; intro K hK
  refine ow_call (first := []) (cap := []) T rfl rfl rfl rfl evf (.cons (T.ev 0 rfl) .nil) Try.func32 rfl rfl ?_
  refine Calls.mono (Most_good bu2 _ _ _ _ _ (SAu2.rd M (.cons _ (.cons _ (.cons _ (.cons _ (.cons _ (.cons _ (subL (subL (List.Sublist.refl _)))))))))) (SBu2.rd M (.cons _ (.cons _ (.cons _ (.cons _ (.cons _ (.cons _ (subL (subL (List.Sublist.refl _)))))))))) hgu2) ?_
  clear T
  rintro e wc ⟨rfl, hb⟩
  intro ac T
  replace M := M.call hb; clear hb
  obtain ⟨mou23, hmou23⟩ : ∃ q, q = pairsP (mostL bu2 okA) := ⟨_, rfl⟩
  obtain ⟨mpu23, hmpu23⟩ : ∃ q, q = pairsP (mostL bu2 okM) := ⟨_, rfl⟩
  rw [← hmou23, ← hmpu23] at T
  refine sh_out hK _ _ ?_; clear hK K
  refine lq T (rn_move rfl (T.ev 0 rfl)) ?_; clear T ac; intro ac T
  refine lq T (rn_extract rfl (T.ev 0 rfl) rfl) ?_; clear T ac; intro ac T
  refine lq T (rn_extract rfl (T.ev 1 rfl) rfl) ?_; clear T ac; intro ac T
  refine l_w rfl ?_; intro K hK
  refine ow_al M T rfl rfl rfl rfl ?_; clear M T; intro g4 wc ac M T
  refine sh_out hK _ _ ?_; clear hK K
  refine l_w rfl ?_; intro K hK
  refine ow_stO M T rfl rfl (T.ev 0 rfl) (T.ev 2 rfl) rfl .head rfl (by simp) rfl (by kernel_rfl) ?_; clear M T; intro wc ac M T
  refine sh_out hK _ _ ?_; clear hK K
  refine lq T (rn_assign rfl (T.ev 1 rfl)) ?_; clear T ac; intro ac T
  refine wpList_nil ?_
  replace T := T.pick [0, 1, 7, 8, 9, 10, 12, 13, 14] rfl
  replace M := M.mask [true, true, true, true, true, true, false] rfl
  refine nm_then ?_
  refine wp_seq ?_
  refine wp_region_lit ?_
  refine lq T (rn_rowO (Mem.nth M 3 rfl) rfl (T.ev 6 rfl) rfl) ?_; clear T ac; intro ac T
  refine l_w rfl ?_; intro K hK
  refine ow_call (first := []) (cap := []) T rfl rfl rfl rfl evf (.cons (T.ev 0 rfl) .nil) Try.func32 rfl rfl ?_
  refine Calls.mono (Most_any ({ bu2 with lows := ly, highs := hy, span := bu2.span, press := bu2.press }) _ _ _ _ _ (Sly.rd M (.cons _ (List.Sublist.cons_cons _ (List.nil_sublist _)))) (Shy.rd M (.cons _ (.cons _ (List.Sublist.cons_cons _ (List.nil_sublist _))))) (by show ly.length ≤ _; omega) (by show hy.length ≤ _; omega)) ?_
  clear T
  rintro e wc ⟨rfl, hb⟩
  intro ac T
  replace M := M.call hb; clear hb
  obtain ⟨mou24, hmou24⟩ : ∃ q, q = (mostE ({ bu2 with lows := ly, highs := hy, span := bu2.span, press := bu2.press })).1.1 := ⟨_, rfl⟩
  obtain ⟨mpu24, hmpu24⟩ : ∃ q, q = (mostE ({ bu2 with lows := ly, highs := hy, span := bu2.span, press := bu2.press })).1.2 := ⟨_, rfl⟩
  obtain ⟨eou24, heou24⟩ : ∃ q, q = (mostE ({ bu2 with lows := ly, highs := hy, span := bu2.span, press := bu2.press })).2 := ⟨_, rfl⟩
  rw [← hmou24, ← hmpu24, ← heou24] at T
  refine sh_out hK _ _ ?_; clear hK K
  refine lq T (rn_move rfl (T.ev 0 rfl)) ?_; clear T ac; intro ac T
  refine lq T (rn_extract rfl (T.ev 0 rfl) rfl) ?_; clear T ac; intro ac T
  refine lq T (rn_extract rfl (T.ev 1 rfl) rfl) ?_; clear T ac; intro ac T
  refine l_w rfl ?_; intro K hK
  refine ow_al M T rfl rfl rfl rfl ?_; clear M T; intro g5 wc ac M T
  refine sh_out hK _ _ ?_; clear hK K
  refine l_w rfl ?_; intro K hK
  refine ow_stO M T rfl rfl (T.ev 0 rfl) (T.ev 2 rfl) rfl .head rfl (by simp) rfl (by kernel_rfl) ?_; clear M T; intro wc ac M T
  refine sh_out hK _ _ ?_; clear hK K
  refine lq T (rn_assign rfl (T.ev 1 rfl)) ?_; clear T ac; intro ac T
  refine wpList_nil ?_
  replace T := T.pick [0, 1, 7, 8, 9, 10, 11, 12, 14, 15] rfl
  replace M := M.mask [true, true, true, true, false, true, true] rfl
  refine nm_then ?_
  refine cut_seq (fun ac wc => Tm ac 337 [(2, .bool true)] ∧ Mem w noEx wc ((g1ur5_3, .cells (sc ly ++ y1ur5_3)) :: (g2ur5_3, .cells (sc hy ++ y2ur5_3)) :: (g1ur5_1, .cells (sc lx ++ y1ur5_1)) :: (g2ur5_1, .cells (sc hx ++ y2ur5_1)) :: (Iu2 ++ Iu21 ++ Iu22))) ?_ ?_
  ·refine wp_region_lit ?_
   refine lq T (rn_move rfl (T.ev 6 rfl)) ?_; clear T ac; intro ac T
   refine lq (v := (.bool true)) T (rn_neqof (rn_eql rfl (T.ev 0 rfl) evc) (by simp)) ?_; clear T ac; intro ac T
   refine lq T (rn_move rfl (T.ev 0 rfl)) ?_; clear T ac; intro ac T
   refine lw T (wanted_yes rfl rfl (T.ev 0 rfl) rfl) (rn_move rfl (T.ev 5 rfl)) ?_; clear T ac; intro ac T
   refine lw (v := (.bool true)) T (wanted_yes rfl rfl (T.ev 1 rfl) rfl) (rn_neqof (rn_eql rfl (T.ev 0 rfl) evc) (by simp)) ?_; clear T ac; intro ac T
   refine lq T (rn_pick1 rfl (T.ev 2 rfl) rfl (T.ev 0 rfl)) ?_; clear T ac; intro ac T
   refine lq T (rn_move rfl (T.ev 0 rfl)) ?_; clear T ac; intro ac T
   refine lw T (wanted_yes rfl rfl (T.ev 0 rfl) rfl) (rn_move rfl (T.ev 15 rfl)) ?_; clear T ac; intro ac T
   refine lw T (wanted_yes rfl rfl (T.ev 1 rfl) rfl) (rn_not rfl (T.ev 0 rfl)) ?_; clear T ac; intro ac T
   refine lw T (wanted_yes rfl rfl (T.ev 2 rfl) rfl) (rn_move rfl (T.ev 0 rfl)) ?_; clear T ac; intro ac T
   rcases Bool.eq_false_or_eq_true (!fiu12) with h8 | h8
   ·refine lp T (wanted_no rfl rfl (T.ev 0 rfl) h8) ?_; clear T ac; intro ac T
    refine lp T (wanted_no rfl rfl (T.ev 1 rfl) h8) ?_; clear T ac; intro ac T
    refine lp T (wanted_no rfl rfl (T.ev 2 rfl) h8) ?_; clear T ac; intro ac T
    refine lp T (wanted_un rfl rfl (T.ev 0 rfl)) ?_; clear T ac; intro ac T
    refine lp T (wanted_un rfl rfl (T.ev 1 rfl)) ?_; clear T ac; intro ac T
    refine lp T (wanted_un rfl rfl (T.ev 2 rfl)) ?_; clear T ac; intro ac T
    refine lp T (wanted_no rfl rfl (T.ev 6 rfl) h8) ?_; clear T ac; intro ac T
    refine lw T (wanted_yes rfl rfl (T.ev 10 rfl) rfl) (rn_pick1 rfl (T.ev 7 rfl) h8 evc) ?_; clear T ac; intro ac T
    refine lq T (rn_pick1 rfl (T.ev 11 rfl) rfl (T.ev 0 rfl)) ?_; clear T ac; intro ac T
    refine lq T (rn_move rfl (T.ev 0 rfl)) ?_; clear T ac; intro ac T
    refine lw T (wanted_yes rfl rfl (T.ev 0 rfl) rfl) (rn_move rfl (T.ev 29 rfl)) ?_; clear T ac; intro ac T
    refine lw T (wanted_yes rfl rfl (T.ev 1 rfl) rfl) (rn_not rfl (T.ev 0 rfl)) ?_; clear T ac; intro ac T
    refine lw T (wanted_yes rfl rfl (T.ev 2 rfl) rfl) (rn_move rfl (T.ev 0 rfl)) ?_; clear T ac; intro ac T
    rcases Bool.eq_false_or_eq_true (!fiu13) with h9 | h9
    ·refine lp T (wanted_no rfl rfl (T.ev 0 rfl) h9) ?_; clear T ac; intro ac T
     refine lp T (wanted_no rfl rfl (T.ev 1 rfl) h9) ?_; clear T ac; intro ac T
     refine lp T (wanted_no rfl rfl (T.ev 2 rfl) h9) ?_; clear T ac; intro ac T
     refine lp T (wanted_un rfl rfl (T.ev 0 rfl)) ?_; clear T ac; intro ac T
     refine lp T (wanted_un rfl rfl (T.ev 1 rfl)) ?_; clear T ac; intro ac T
     refine lp T (wanted_un rfl rfl (T.ev 2 rfl)) ?_; clear T ac; intro ac T
     refine lp T (wanted_no rfl rfl (T.ev 6 rfl) h9) ?_; clear T ac; intro ac T
     refine lw T (wanted_yes rfl rfl (T.ev 10 rfl) rfl) (rn_pick1 rfl (T.ev 7 rfl) h9 evc) ?_; clear T ac; intro ac T
     refine lq T (rn_pick1 rfl (T.ev 11 rfl) rfl (T.ev 0 rfl)) ?_; clear T ac; intro ac T
     refine lq T (rn_move rfl (T.ev 0 rfl)) ?_; clear T ac; intro ac T
     refine l_w (wanted_yes rfl rfl (T.ev 0 rfl) rfl) ?_; intro K hK
     refine ow_call (first := []) (cap := []) T rfl rfl rfl rfl evf .nil Try.func17 rfl rfl ?_
     refine Calls.mono (trembling_any _) ?_
     clear T
     rintro e wc ⟨rfl, hb⟩
     intro ac T
     replace M := M.call hb; clear hb
     refine sh_out hK _ _ ?_; clear hK K
     refine lq T (rn_pick1 rfl (T.ev 1 rfl) rfl (T.ev 0 rfl)) ?_; clear T ac; intro ac T
     refine lq T (rn_assign rfl (T.ev 0 rfl)) ?_; clear T ac; intro ac T
     refine wpList_nil ?_
     replace T := T.pick [0] rfl
     replace M := M.mask [false, false, true, true, true, true] rfl
     exact ⟨(T.pick (E' := [(2, .bool true)]) [0] rfl).as (by (try rw [show (!fiu12) = true from h8]); (try rw [show (!fiu13) = true from h9]); (try rfl)), M.mask [true, true, true, true] rfl⟩
    have hTT := hRu13 (by simpa using h9)
    have hse9 : mostE (chB bu2 (bu2.lows.map turnL) (bu2.highs.map (turnH (bu2.first + (bu2.step * bu2.note))))) = ((pairsP (mostL bu2 okA), pairsP (mostL bu2 okM)), 0) := by unfold mostE; rw [if_pos (checkB_good.2 hTT.good), hTT.most, hTT.most]
    have heo9 : eou24 = 0 := by rw [heou24, hNly, hNhy]; exact congrArg Prod.snd hse9
    have hmo9 : mou23 = mou24 := by rw [hmou23, hmou24, hNly, hNhy]; exact (congrArg (fun q => q.1.1) hse9).symm
    have hmp9 : mpu23 = mpu24 := by rw [hmpu23, hmpu24, hNly, hNhy]; exact (congrArg (fun q => q.1.2) hse9).symm
    refine lw T (wanted_yes rfl rfl (T.ev 0 rfl) h9) (rn_move rfl (T.ev 23 rfl)) ?_; clear T ac; intro ac T
    refine lw T (wanted_yes rfl rfl (T.ev 1 rfl) h9) (rn_eql rfl (T.ev 0 rfl) evc) ?_; clear T ac; intro ac T
    refine lw T (wanted_yes rfl rfl (T.ev 2 rfl) h9) (rn_move rfl (T.ev 0 rfl)) ?_; clear T ac; intro ac T
    refine lw T (wanted_yes rfl rfl (T.ev 0 rfl) (decide_eq_true heo9)) (rn_rowO (Mem.nth M 1 rfl) rfl (T.ev 29 rfl) rfl) ?_; clear T ac; intro ac T
    refine lw T (wanted_yes rfl rfl (T.ev 1 rfl) (decide_eq_true heo9)) (rn_rowO (Mem.nth M 0 rfl) rfl (T.ev 28 rfl) rfl) ?_; clear T ac; intro ac T
    refine lw (v := (.bool ((decide (mou23 = mou24)) && (decide (mpu23 = mpu24))))) T (wanted_yes rfl rfl (T.ev 2 rfl) (decide_eq_true heo9)) (rn_bin rfl (T.ev 1 rfl) (T.ev 0 rfl) eqT40) ?_; clear T ac; intro ac T
    refine lw T (wanted_yes rfl rfl (T.ev 6 rfl) h9) (rn_pick1 rfl (T.ev 3 rfl) (decide_eq_true heo9) (T.ev 0 rfl)) ?_; clear T ac; intro ac T
    refine lw T (wanted_yes rfl rfl (T.ev 10 rfl) rfl) (rn_pick0 rfl (T.ev 7 rfl) h9 (T.ev 0 rfl)) ?_; clear T ac; intro ac T
    refine lq T (rn_pick1 rfl (T.ev 11 rfl) rfl (T.ev 0 rfl)) ?_; clear T ac; intro ac T
    refine lq T (rn_move rfl (T.ev 0 rfl)) ?_; clear T ac; intro ac T
    refine l_w (wanted_yes rfl rfl (T.ev 0 rfl) (by rw [show (decide (mou23 = mou24)) = true from (decide_eq_true hmo9), show (decide (mpu23 = mpu24)) = true from (decide_eq_true hmp9)]; rfl)) ?_; intro K hK
    refine ow_call (first := []) (cap := []) T rfl rfl rfl rfl evf .nil Try.func17 rfl rfl ?_
    refine Calls.mono (trembling_any _) ?_
    clear T
    rintro e wc ⟨rfl, hb⟩
    intro ac T
    replace M := M.call hb; clear hb
    refine sh_out hK _ _ ?_; clear hK K
    refine lq T (rn_pick1 rfl (T.ev 1 rfl) (by rw [show (decide (mou23 = mou24)) = true from (decide_eq_true hmo9), show (decide (mpu23 = mpu24)) = true from (decide_eq_true hmp9)]; rfl) (T.ev 0 rfl)) ?_; clear T ac; intro ac T
    refine lq T (rn_assign rfl (T.ev 0 rfl)) ?_; clear T ac; intro ac T
    refine wpList_nil ?_
    replace T := T.pick [0] rfl
    replace M := M.mask [false, false, true, true, true, true] rfl
    exact ⟨(T.pick (E' := [(2, .bool true)]) [0] rfl).as (by (try rw [show (!fiu12) = true from h8]); (try rw [show (!fiu13) = false from h9]); (try rfl)), M.mask [true, true, true, true] rfl⟩
   have hRR := hRu12 (by simpa using h8)
   have hme9 : matchE (chB bu2 (bu2.lows.map (raiseS xu3)) (bu2.highs.map (raiseS xu3))) = (mostL bu2 okA, 0) := by unfold matchE; rw [if_pos (checkB_good.2 hRR.good), hRR.match_]
   have hem9 : emu22 = 0 := by rw [hemu22, hNlx, hNhx]; exact congrArg Prod.snd hme9
   have hmm9 : mlu22 = mlu21 := by rw [hmlu22, hmlu21, hNlx, hNhx]; exact congrArg Prod.fst hme9
   have hmr9 : ic mlu22 = ic mlu21 := by rw [hmm9]
   have hmn9 : mlu22.length = mlu21.length := by rw [hmm9]
   refine lw T (wanted_yes rfl rfl (T.ev 0 rfl) h8) (rn_move rfl (T.ev 14 rfl)) ?_; clear T ac; intro ac T
   refine lw T (wanted_yes rfl rfl (T.ev 1 rfl) h8) (rn_eql rfl (T.ev 0 rfl) evc) ?_; clear T ac; intro ac T
   refine lw T (wanted_yes rfl rfl (T.ev 2 rfl) h8) (rn_move rfl (T.ev 0 rfl)) ?_; clear T ac; intro ac T
   refine lw T (wanted_yes rfl rfl (T.ev 0 rfl) (decide_eq_true hem9)) (rn_move rfl (T.ev 20 rfl)) ?_; clear T ac; intro ac T
   refine lw T (wanted_yes rfl rfl (T.ev 1 rfl) (decide_eq_true hem9)) (rn_move rfl (T.ev 19 rfl)) ?_; clear T ac; intro ac T
   refine l_w (wanted_yes rfl rfl (T.ev 2 rfl) (decide_eq_true hem9)) ?_; intro K hK
   refine ow_call (first := []) (cap := []) T rfl rfl rfl rfl evf (.cons (T.ev 1 rfl) (.cons (T.ev 0 rfl) .nil)) Try.func35 rfl rfl ?_
   refine Calls.mono (sameInts_eq _ _ _ _ _ _ mlu21 _ (Su21.rd M (.cons _ (.cons _ (.cons _ (.cons _ (.cons _ (.cons _ (subL (List.sublist_append_right _ _))))))))) (by have h9 := Su22.rd M (.cons _ (.cons _ (.cons _ (.cons _ (.cons _ (.cons _ (List.sublist_append_right _ _))))))); rw [hmr9] at h9; exact h9) (by omega) (by rw [hmn9]; omega)) ?_
   clear T
   rintro e wc ⟨rfl, hb⟩
   intro ac T
   replace M := M.call hb; clear hb
   refine sh_out hK _ _ ?_; clear hK K
   refine lw T (wanted_yes rfl rfl (T.ev 6 rfl) h8) (rn_pick1 rfl (T.ev 3 rfl) (decide_eq_true hem9) (T.ev 0 rfl)) ?_; clear T ac; intro ac T
   refine lw T (wanted_yes rfl rfl (T.ev 10 rfl) rfl) (rn_pick0 rfl (T.ev 7 rfl) h8 (T.ev 0 rfl)) ?_; clear T ac; intro ac T
   refine lq T (rn_pick1 rfl (T.ev 11 rfl) rfl (T.ev 0 rfl)) ?_; clear T ac; intro ac T
   refine lq T (rn_move rfl (T.ev 0 rfl)) ?_; clear T ac; intro ac T
   refine lw T (wanted_yes rfl rfl (T.ev 0 rfl) rfl) (rn_move rfl (T.ev 29 rfl)) ?_; clear T ac; intro ac T
   refine lw T (wanted_yes rfl rfl (T.ev 1 rfl) rfl) (rn_not rfl (T.ev 0 rfl)) ?_; clear T ac; intro ac T
   refine lw T (wanted_yes rfl rfl (T.ev 2 rfl) rfl) (rn_move rfl (T.ev 0 rfl)) ?_; clear T ac; intro ac T
   rcases Bool.eq_false_or_eq_true (!fiu13) with h10 | h10
   ·refine lp T (wanted_no rfl rfl (T.ev 0 rfl) h10) ?_; clear T ac; intro ac T
    refine lp T (wanted_no rfl rfl (T.ev 1 rfl) h10) ?_; clear T ac; intro ac T
    refine lp T (wanted_no rfl rfl (T.ev 2 rfl) h10) ?_; clear T ac; intro ac T
    refine lp T (wanted_un rfl rfl (T.ev 0 rfl)) ?_; clear T ac; intro ac T
    refine lp T (wanted_un rfl rfl (T.ev 1 rfl)) ?_; clear T ac; intro ac T
    refine lp T (wanted_un rfl rfl (T.ev 2 rfl)) ?_; clear T ac; intro ac T
    refine lp T (wanted_no rfl rfl (T.ev 6 rfl) h10) ?_; clear T ac; intro ac T
    refine lw T (wanted_yes rfl rfl (T.ev 10 rfl) rfl) (rn_pick1 rfl (T.ev 7 rfl) h10 evc) ?_; clear T ac; intro ac T
    refine lq T (rn_pick1 rfl (T.ev 11 rfl) rfl (T.ev 0 rfl)) ?_; clear T ac; intro ac T
    refine lq T (rn_move rfl (T.ev 0 rfl)) ?_; clear T ac; intro ac T
    refine l_w (wanted_yes rfl rfl (T.ev 0 rfl) rfl) ?_; intro K hK
    refine ow_call (first := []) (cap := []) T rfl rfl rfl rfl evf .nil Try.func17 rfl rfl ?_
    refine Calls.mono (trembling_any _) ?_
    clear T
    rintro e wc ⟨rfl, hb⟩
    intro ac T
    replace M := M.call hb; clear hb
    refine sh_out hK _ _ ?_; clear hK K
    refine lq T (rn_pick1 rfl (T.ev 1 rfl) rfl (T.ev 0 rfl)) ?_; clear T ac; intro ac T
    refine lq T (rn_assign rfl (T.ev 0 rfl)) ?_; clear T ac; intro ac T
    refine wpList_nil ?_
    replace T := T.pick [0] rfl
    replace M := M.mask [false, false, true, true, true, true] rfl
    exact ⟨(T.pick (E' := [(2, .bool true)]) [0] rfl).as (by (try rw [show (!fiu12) = false from h8]); (try rw [show (!fiu13) = true from h10]); (try rfl)), M.mask [true, true, true, true] rfl⟩
   have hTT := hRu13 (by simpa using h10)
   have hse9 : mostE (chB bu2 (bu2.lows.map turnL) (bu2.highs.map (turnH (bu2.first + (bu2.step * bu2.note))))) = ((pairsP (mostL bu2 okA), pairsP (mostL bu2 okM)), 0) := by unfold mostE; rw [if_pos (checkB_good.2 hTT.good), hTT.most, hTT.most]
   have heo9 : eou24 = 0 := by rw [heou24, hNly, hNhy]; exact congrArg Prod.snd hse9
   have hmo9 : mou23 = mou24 := by rw [hmou23, hmou24, hNly, hNhy]; exact (congrArg (fun q => q.1.1) hse9).symm
   have hmp9 : mpu23 = mpu24 := by rw [hmpu23, hmpu24, hNly, hNhy]; exact (congrArg (fun q => q.1.2) hse9).symm
   refine lw T (wanted_yes rfl rfl (T.ev 0 rfl) h10) (rn_move rfl (T.ev 23 rfl)) ?_; clear T ac; intro ac T
   refine lw T (wanted_yes rfl rfl (T.ev 1 rfl) h10) (rn_eql rfl (T.ev 0 rfl) evc) ?_; clear T ac; intro ac T
   refine lw T (wanted_yes rfl rfl (T.ev 2 rfl) h10) (rn_move rfl (T.ev 0 rfl)) ?_; clear T ac; intro ac T
   refine lw T (wanted_yes rfl rfl (T.ev 0 rfl) (decide_eq_true heo9)) (rn_rowO (Mem.nth M 1 rfl) rfl (T.ev 29 rfl) rfl) ?_; clear T ac; intro ac T
   refine lw T (wanted_yes rfl rfl (T.ev 1 rfl) (decide_eq_true heo9)) (rn_rowO (Mem.nth M 0 rfl) rfl (T.ev 28 rfl) rfl) ?_; clear T ac; intro ac T
   refine lw (v := (.bool ((decide (mou23 = mou24)) && (decide (mpu23 = mpu24))))) T (wanted_yes rfl rfl (T.ev 2 rfl) (decide_eq_true heo9)) (rn_bin rfl (T.ev 1 rfl) (T.ev 0 rfl) eqT40) ?_; clear T ac; intro ac T
   refine lw T (wanted_yes rfl rfl (T.ev 6 rfl) h10) (rn_pick1 rfl (T.ev 3 rfl) (decide_eq_true heo9) (T.ev 0 rfl)) ?_; clear T ac; intro ac T
   refine lw T (wanted_yes rfl rfl (T.ev 10 rfl) rfl) (rn_pick0 rfl (T.ev 7 rfl) h10 (T.ev 0 rfl)) ?_; clear T ac; intro ac T
   refine lq T (rn_pick1 rfl (T.ev 11 rfl) rfl (T.ev 0 rfl)) ?_; clear T ac; intro ac T
   refine lq T (rn_move rfl (T.ev 0 rfl)) ?_; clear T ac; intro ac T
   refine l_w (wanted_yes rfl rfl (T.ev 0 rfl) (by rw [show (decide (mou23 = mou24)) = true from (decide_eq_true hmo9), show (decide (mpu23 = mpu24)) = true from (decide_eq_true hmp9)]; rfl)) ?_; intro K hK
   refine ow_call (first := []) (cap := []) T rfl rfl rfl rfl evf .nil Try.func17 rfl rfl ?_
   refine Calls.mono (trembling_any _) ?_
   clear T
   rintro e wc ⟨rfl, hb⟩
   intro ac T
   replace M := M.call hb; clear hb
   refine sh_out hK _ _ ?_; clear hK K
   refine lq T (rn_pick1 rfl (T.ev 1 rfl) (by rw [show (decide (mou23 = mou24)) = true from (decide_eq_true hmo9), show (decide (mpu23 = mpu24)) = true from (decide_eq_true hmp9)]; rfl) (T.ev 0 rfl)) ?_; clear T ac; intro ac T
   refine lq T (rn_assign rfl (T.ev 0 rfl)) ?_; clear T ac; intro ac T
   refine wpList_nil ?_
   replace T := T.pick [0] rfl
   replace M := M.mask [false, false, true, true, true, true] rfl
   exact ⟨(T.pick (E' := [(2, .bool true)]) [0] rfl).as (by (try rw [show (!fiu12) = false from h8]); (try rw [show (!fiu13) = false from h10]); (try rfl)), M.mask [true, true, true, true] rfl⟩
  clear T M
  rintro ac wc ⟨T, M⟩
  refine wp_ret ?_
  refine rt_1 T rfl (T.ev 0 rfl) ?_
  exact ⟨rfl, M.below⟩
 intro H6
 refine g_have (fun ac wc => ∃ (c1ur5_1 : Nat), ∃ (y1ur5_1 : List Value), ∃ (c2ur5_1 : Nat), ∃ (y2ur5_1 : List Value), ∃ (c1ur5_3 : Nat), ∃ (y1ur5_3 : List Value), ∃ (c2ur5_3 : Nat), ∃ (y2ur5_3 : List Value), ∃ (gr5_4 g1ur5_3 g2ur5_3 g1ur5_1 g2ur5_1 : Nat), Tm ac 337 [(7, .pointer (some ⟨gr5_4, 0, none⟩)), (54, .agg #[.int .i64 bu2.first, .int .i64 bu2.step, .int .i64 bu2.span, .int .i64 bu2.press, .int .i64 bu2.note, .slice (some ⟨g1ur5_3, 0, none⟩) bu2.lows.length c1ur5_3, .slice (some ⟨g2ur5_3, 0, none⟩) bu2.highs.length c2ur5_3, .int .i64 bu2.t0, .int .i64 bu2.t1, .int .i64 bu2.r0, .int .i64 bu2.r1, .int .i64 bu2.u0, .int .i64 bu2.u1, .int .i64 bu2.d0, .int .i64 bu2.d1, .int .i64 bu2.a0, .int .i64 bu2.a1, .int .i64 bu2.b0, .int .i64 bu2.b1, .int .i64 bu2.le, .int .i64 bu2.me]), (52, .agg #[.int .i64 bu2.first, .int .i64 bu2.step, .int .i64 bu2.span, .int .i64 bu2.press, .int .i64 bu2.note, .slice (some ⟨g1ur5_1, 0, none⟩) bu2.lows.length c1ur5_1, .slice (some ⟨g2ur5_1, 0, none⟩) bu2.highs.length c2ur5_1, .int .i64 bu2.t0, .int .i64 bu2.t1, .int .i64 bu2.r0, .int .i64 bu2.r1, .int .i64 bu2.u0, .int .i64 bu2.u1, .int .i64 bu2.d0, .int .i64 bu2.d1, .int .i64 bu2.a0, .int .i64 bu2.a1, .int .i64 bu2.b0, .int .i64 bu2.b1, .int .i64 bu2.le, .int .i64 bu2.me]), (53, .agg #[.int .i64 bu2.first, .int .i64 bu2.step, .int .i64 bu2.span, .int .i64 bu2.press, .int .i64 bu2.note, .slice Au2 bu2.lows.length cu2, .slice Bu2 bu2.highs.length du2, .int .i64 bu2.t0, .int .i64 bu2.t1, .int .i64 bu2.r0, .int .i64 bu2.r1, .int .i64 bu2.u0, .int .i64 bu2.u1, .int .i64 bu2.d0, .int .i64 bu2.d1, .int .i64 bu2.a0, .int .i64 bu2.a1, .int .i64 bu2.b0, .int .i64 bu2.b1, .int .i64 bu2.le, .int .i64 bu2.me]), (51, .agg #[.int .i64 bu2.first, .int .i64 bu2.step, .int .i64 bu2.span, .int .i64 bu2.press, .int .i64 bu2.note, .slice Au2 bu2.lows.length cu2, .slice Bu2 bu2.highs.length du2, .int .i64 bu2.t0, .int .i64 bu2.t1, .int .i64 bu2.r0, .int .i64 bu2.r1, .int .i64 bu2.u0, .int .i64 bu2.u1, .int .i64 bu2.d0, .int .i64 bu2.d1, .int .i64 bu2.a0, .int .i64 bu2.a1, .int .i64 bu2.b0, .int .i64 bu2.b1, .int .i64 bu2.le, .int .i64 bu2.me]), (6, .int .i64 (bu2.first + (bu2.step * bu2.note))), (5, .int .i64 xu3), (4, .pointer (some ⟨g1, 0, none⟩))] ∧ Mem w noEx wc ((gr5_4, .cells [.int .i64 0, .int .i64 0, .int .i64 0, .int .i64 0, .int .i64 0, .slice none 0 0, .slice none 0 0, .int .i64 0, .int .i64 0, .int .i64 0, .int .i64 0, .int .i64 0, .int .i64 0, .int .i64 0, .int .i64 0, .int .i64 0, .int .i64 0, .int .i64 0, .int .i64 0, .int .i64 0, .int .i64 0]) :: (g1ur5_3, .cells (sc bu2.lows ++ y1ur5_3)) :: (g2ur5_3, .cells (sc bu2.highs ++ y2ur5_3)) :: (g1ur5_1, .cells (sc bu2.lows ++ y1ur5_1)) :: (g2ur5_1, .cells (sc bu2.highs ++ y2ur5_1)) :: (g1, .cells (bxM bu2 (.slice Au2 bu2.lows.length cu2) (.slice Bu2 bu2.highs.length du2))) :: Iu2)) (pbits 8 31) 3 ?_ ?_
 ·clear T M
  rintro ac wc ⟨c1ur5_1, y1ur5_1, c2ur5_1, y2ur5_1, c1ur5_3, y1ur5_3, c2ur5_3, y2ur5_3, gr5_4, g1ur5_3, g2ur5_3, g1ur5_1, g2ur5_1, T, M⟩
  refine gw 5 63 ?_; intro K hK
  refine ow_al M T rfl rfl rfl rfl ?_; clear M T; intro gr5_5 wc ac M T
  refine sh_out hK _ _ (M.mask [false, false, false, false, false, false, true] rfl) ?_; clear hK K
  exact H6 _ _ ⟨c1ur5_1, y1ur5_1, c2ur5_1, y2ur5_1, c1ur5_3, y1ur5_3, c2ur5_3, y2ur5_3, g1ur5_3, g2ur5_3, gr5_4, gr5_5, g1ur5_1, g2ur5_1, T.pick [2, 1, 0, 3, 4, 5, 6, 7, 8] rfl, M.permT [2, 3, 1, 0, 4, 5, 6] 7 rfl rfl rfl rfl⟩
 intro H5
 refine g_have (fun ac wc => ∃ (c1ur5_1 : Nat), ∃ (y1ur5_1 : List Value), ∃ (c2ur5_1 : Nat), ∃ (y2ur5_1 : List Value), ∃ (c1ur5_3 : Nat), ∃ (y1ur5_3 : List Value), ∃ (c2ur5_3 : Nat), ∃ (y2ur5_3 : List Value), ∃ (gr5_5 g1ur5_3 g2ur5_3 g1ur5_1 g2ur5_1 : Nat), Tm ac 337 [(8, .pointer (some ⟨gr5_5, 0, none⟩)), (54, .agg #[.int .i64 bu2.first, .int .i64 bu2.step, .int .i64 bu2.span, .int .i64 bu2.press, .int .i64 bu2.note, .slice (some ⟨g1ur5_3, 0, none⟩) bu2.lows.length c1ur5_3, .slice (some ⟨g2ur5_3, 0, none⟩) bu2.highs.length c2ur5_3, .int .i64 bu2.t0, .int .i64 bu2.t1, .int .i64 bu2.r0, .int .i64 bu2.r1, .int .i64 bu2.u0, .int .i64 bu2.u1, .int .i64 bu2.d0, .int .i64 bu2.d1, .int .i64 bu2.a0, .int .i64 bu2.a1, .int .i64 bu2.b0, .int .i64 bu2.b1, .int .i64 bu2.le, .int .i64 bu2.me]), (52, .agg #[.int .i64 bu2.first, .int .i64 bu2.step, .int .i64 bu2.span, .int .i64 bu2.press, .int .i64 bu2.note, .slice (some ⟨g1ur5_1, 0, none⟩) bu2.lows.length c1ur5_1, .slice (some ⟨g2ur5_1, 0, none⟩) bu2.highs.length c2ur5_1, .int .i64 bu2.t0, .int .i64 bu2.t1, .int .i64 bu2.r0, .int .i64 bu2.r1, .int .i64 bu2.u0, .int .i64 bu2.u1, .int .i64 bu2.d0, .int .i64 bu2.d1, .int .i64 bu2.a0, .int .i64 bu2.a1, .int .i64 bu2.b0, .int .i64 bu2.b1, .int .i64 bu2.le, .int .i64 bu2.me]), (53, .agg #[.int .i64 bu2.first, .int .i64 bu2.step, .int .i64 bu2.span, .int .i64 bu2.press, .int .i64 bu2.note, .slice Au2 bu2.lows.length cu2, .slice Bu2 bu2.highs.length du2, .int .i64 bu2.t0, .int .i64 bu2.t1, .int .i64 bu2.r0, .int .i64 bu2.r1, .int .i64 bu2.u0, .int .i64 bu2.u1, .int .i64 bu2.d0, .int .i64 bu2.d1, .int .i64 bu2.a0, .int .i64 bu2.a1, .int .i64 bu2.b0, .int .i64 bu2.b1, .int .i64 bu2.le, .int .i64 bu2.me]), (51, .agg #[.int .i64 bu2.first, .int .i64 bu2.step, .int .i64 bu2.span, .int .i64 bu2.press, .int .i64 bu2.note, .slice Au2 bu2.lows.length cu2, .slice Bu2 bu2.highs.length du2, .int .i64 bu2.t0, .int .i64 bu2.t1, .int .i64 bu2.r0, .int .i64 bu2.r1, .int .i64 bu2.u0, .int .i64 bu2.u1, .int .i64 bu2.d0, .int .i64 bu2.d1, .int .i64 bu2.a0, .int .i64 bu2.a1, .int .i64 bu2.b0, .int .i64 bu2.b1, .int .i64 bu2.le, .int .i64 bu2.me]), (6, .int .i64 (bu2.first + (bu2.step * bu2.note))), (5, .int .i64 xu3), (4, .pointer (some ⟨g1, 0, none⟩))] ∧ Mem w noEx wc ((gr5_5, .cells [.int .i64 0, .int .i64 0, .int .i64 0, .int .i64 0, .int .i64 0, .slice none 0 0, .slice none 0 0, .int .i64 0, .int .i64 0, .int .i64 0, .int .i64 0, .int .i64 0, .int .i64 0, .int .i64 0, .int .i64 0, .int .i64 0, .int .i64 0, .int .i64 0, .int .i64 0, .int .i64 0, .int .i64 0]) :: (g1ur5_3, .cells (sc bu2.lows ++ y1ur5_3)) :: (g2ur5_3, .cells (sc bu2.highs ++ y2ur5_3)) :: (g1ur5_1, .cells (sc bu2.lows ++ y1ur5_1)) :: (g2ur5_1, .cells (sc bu2.highs ++ y2ur5_1)) :: (g1, .cells (bxM bu2 (.slice Au2 bu2.lows.length cu2) (.slice Bu2 bu2.highs.length du2))) :: Iu2)) (pbits 8 47) 3 ?_ ?_
 ·clear T M
  rintro ac wc ⟨c1ur5_1, y1ur5_1, c2ur5_1, y2ur5_1, c1ur5_3, y1ur5_3, c2ur5_3, y2ur5_3, gr5_5, g1ur5_3, g2ur5_3, g1ur5_1, g2ur5_1, T, M⟩
  refine gw 4 63 ?_; intro K hK
  refine ow_al M T rfl rfl rfl rfl ?_; clear M T; intro gr5_4 wc ac M T
  refine sh_out hK _ _ (M.mask [false, false, false, false, false, false, true] rfl) ?_; clear hK K
  exact H6 _ _ ⟨c1ur5_1, y1ur5_1, c2ur5_1, y2ur5_1, c1ur5_3, y1ur5_3, c2ur5_3, y2ur5_3, g1ur5_3, g2ur5_3, gr5_4, gr5_5, g1ur5_1, g2ur5_1, T.pick [2, 0, 1, 3, 4, 5, 6, 7, 8] rfl, M.permT [2, 3, 0, 1, 4, 5, 6] 7 rfl rfl rfl rfl⟩
 intro H4
 refine g_have (fun ac wc => ∃ (c1ur5_1 : Nat), ∃ (y1ur5_1 : List Value), ∃ (c2ur5_1 : Nat), ∃ (y2ur5_1 : List Value), ∃ (gr5_4 gr5_5 g1ur5_1 g2ur5_1 : Nat), Tm ac 337 [(7, .pointer (some ⟨gr5_4, 0, none⟩)), (8, .pointer (some ⟨gr5_5, 0, none⟩)), (52, .agg #[.int .i64 bu2.first, .int .i64 bu2.step, .int .i64 bu2.span, .int .i64 bu2.press, .int .i64 bu2.note, .slice (some ⟨g1ur5_1, 0, none⟩) bu2.lows.length c1ur5_1, .slice (some ⟨g2ur5_1, 0, none⟩) bu2.highs.length c2ur5_1, .int .i64 bu2.t0, .int .i64 bu2.t1, .int .i64 bu2.r0, .int .i64 bu2.r1, .int .i64 bu2.u0, .int .i64 bu2.u1, .int .i64 bu2.d0, .int .i64 bu2.d1, .int .i64 bu2.a0, .int .i64 bu2.a1, .int .i64 bu2.b0, .int .i64 bu2.b1, .int .i64 bu2.le, .int .i64 bu2.me]), (53, .agg #[.int .i64 bu2.first, .int .i64 bu2.step, .int .i64 bu2.span, .int .i64 bu2.press, .int .i64 bu2.note, .slice Au2 bu2.lows.length cu2, .slice Bu2 bu2.highs.length du2, .int .i64 bu2.t0, .int .i64 bu2.t1, .int .i64 bu2.r0, .int .i64 bu2.r1, .int .i64 bu2.u0, .int .i64 bu2.u1, .int .i64 bu2.d0, .int .i64 bu2.d1, .int .i64 bu2.a0, .int .i64 bu2.a1, .int .i64 bu2.b0, .int .i64 bu2.b1, .int .i64 bu2.le, .int .i64 bu2.me]), (51, .agg #[.int .i64 bu2.first, .int .i64 bu2.step, .int .i64 bu2.span, .int .i64 bu2.press, .int .i64 bu2.note, .slice Au2 bu2.lows.length cu2, .slice Bu2 bu2.highs.length du2, .int .i64 bu2.t0, .int .i64 bu2.t1, .int .i64 bu2.r0, .int .i64 bu2.r1, .int .i64 bu2.u0, .int .i64 bu2.u1, .int .i64 bu2.d0, .int .i64 bu2.d1, .int .i64 bu2.a0, .int .i64 bu2.a1, .int .i64 bu2.b0, .int .i64 bu2.b1, .int .i64 bu2.le, .int .i64 bu2.me]), (6, .int .i64 (bu2.first + (bu2.step * bu2.note))), (5, .int .i64 xu3), (4, .pointer (some ⟨g1, 0, none⟩))] ∧ Mem w noEx wc ((gr5_4, .cells [.int .i64 0, .int .i64 0, .int .i64 0, .int .i64 0, .int .i64 0, .slice none 0 0, .slice none 0 0, .int .i64 0, .int .i64 0, .int .i64 0, .int .i64 0, .int .i64 0, .int .i64 0, .int .i64 0, .int .i64 0, .int .i64 0, .int .i64 0, .int .i64 0, .int .i64 0, .int .i64 0, .int .i64 0]) :: (gr5_5, .cells [.int .i64 0, .int .i64 0, .int .i64 0, .int .i64 0, .int .i64 0, .slice none 0 0, .slice none 0 0, .int .i64 0, .int .i64 0, .int .i64 0, .int .i64 0, .int .i64 0, .int .i64 0, .int .i64 0, .int .i64 0, .int .i64 0, .int .i64 0, .int .i64 0, .int .i64 0, .int .i64 0, .int .i64 0]) :: (g1ur5_1, .cells (sc bu2.lows ++ y1ur5_1)) :: (g2ur5_1, .cells (sc bu2.highs ++ y2ur5_1)) :: (g1, .cells (bxM bu2 (.slice Au2 bu2.lows.length cu2) (.slice Bu2 bu2.highs.length du2))) :: Iu2)) (pbits 8 55) 3 ?_ ?_
 ·clear T M
  rintro ac wc ⟨c1ur5_1, y1ur5_1, c2ur5_1, y2ur5_1, gr5_4, gr5_5, g1ur5_1, g2ur5_1, T, M⟩
  refine gw 3 63 ?_; intro K hK
  refine ow_call (first := []) (cap := []) T rfl rfl rfl rfl evf (.cons (T.ev 3 rfl) .nil) Try.func31 rfl rfl ?_
  refine Calls.mono (copyBox_any (bu2) _ _ _ _ _ (SAu2.rd M (.cons _ (.cons _ (.cons _ (.cons _ (.cons _ (List.Sublist.refl _))))))) (SBu2.rd M (.cons _ (.cons _ (.cons _ (.cons _ (.cons _ (List.Sublist.refl _))))))) (by show bu2.lows.length ≤ _; omega) (by show bu2.highs.length ≤ _; omega)) ?_
  clear T
  rintro e wc ⟨g1ur5_3, c1ur5_3, y1ur5_3, g2ur5_3, c2ur5_3, y2ur5_3, rfl, N⟩
  intro ac T
  replace M := M.join N
  clear N
  replace M : Mem w noEx wc ((g1ur5_3, .cells (sc bu2.lows ++ y1ur5_3)) :: (g2ur5_3, .cells (sc bu2.highs ++ y2ur5_3)) :: (gr5_4, .cells [.int .i64 0, .int .i64 0, .int .i64 0, .int .i64 0, .int .i64 0, .slice none 0 0, .slice none 0 0, .int .i64 0, .int .i64 0, .int .i64 0, .int .i64 0, .int .i64 0, .int .i64 0, .int .i64 0, .int .i64 0, .int .i64 0, .int .i64 0, .int .i64 0, .int .i64 0, .int .i64 0, .int .i64 0]) :: (gr5_5, .cells [.int .i64 0, .int .i64 0, .int .i64 0, .int .i64 0, .int .i64 0, .slice none 0 0, .slice none 0 0, .int .i64 0, .int .i64 0, .int .i64 0, .int .i64 0, .int .i64 0, .int .i64 0, .int .i64 0, .int .i64 0, .int .i64 0, .int .i64 0, .int .i64 0, .int .i64 0, .int .i64 0, .int .i64 0]) :: (g1ur5_1, .cells (sc bu2.lows ++ y1ur5_1)) :: (g2ur5_1, .cells (sc bu2.highs ++ y2ur5_1)) :: (g1, .cells (bxM bu2 (.slice Au2 bu2.lows.length cu2) (.slice Bu2 bu2.highs.length du2))) :: Iu2) := M
  refine sh_out hK _ _ (M.mask [false, false, false, false, false, false, true] rfl) ?_; clear hK K
  exact H6 _ _ ⟨c1ur5_1, y1ur5_1, c2ur5_1, y2ur5_1, c1ur5_3, y1ur5_3, c2ur5_3, y2ur5_3, g1ur5_3, g2ur5_3, gr5_4, gr5_5, g1ur5_1, g2ur5_1, T, M⟩
 intro H3
 refine g_have (fun ac wc => ∃ (c1ur5_1 : Nat), ∃ (y1ur5_1 : List Value), ∃ (c2ur5_1 : Nat), ∃ (y2ur5_1 : List Value), ∃ (gr5_4 g1ur5_1 g2ur5_1 : Nat), Tm ac 337 [(7, .pointer (some ⟨gr5_4, 0, none⟩)), (52, .agg #[.int .i64 bu2.first, .int .i64 bu2.step, .int .i64 bu2.span, .int .i64 bu2.press, .int .i64 bu2.note, .slice (some ⟨g1ur5_1, 0, none⟩) bu2.lows.length c1ur5_1, .slice (some ⟨g2ur5_1, 0, none⟩) bu2.highs.length c2ur5_1, .int .i64 bu2.t0, .int .i64 bu2.t1, .int .i64 bu2.r0, .int .i64 bu2.r1, .int .i64 bu2.u0, .int .i64 bu2.u1, .int .i64 bu2.d0, .int .i64 bu2.d1, .int .i64 bu2.a0, .int .i64 bu2.a1, .int .i64 bu2.b0, .int .i64 bu2.b1, .int .i64 bu2.le, .int .i64 bu2.me]), (53, .agg #[.int .i64 bu2.first, .int .i64 bu2.step, .int .i64 bu2.span, .int .i64 bu2.press, .int .i64 bu2.note, .slice Au2 bu2.lows.length cu2, .slice Bu2 bu2.highs.length du2, .int .i64 bu2.t0, .int .i64 bu2.t1, .int .i64 bu2.r0, .int .i64 bu2.r1, .int .i64 bu2.u0, .int .i64 bu2.u1, .int .i64 bu2.d0, .int .i64 bu2.d1, .int .i64 bu2.a0, .int .i64 bu2.a1, .int .i64 bu2.b0, .int .i64 bu2.b1, .int .i64 bu2.le, .int .i64 bu2.me]), (51, .agg #[.int .i64 bu2.first, .int .i64 bu2.step, .int .i64 bu2.span, .int .i64 bu2.press, .int .i64 bu2.note, .slice Au2 bu2.lows.length cu2, .slice Bu2 bu2.highs.length du2, .int .i64 bu2.t0, .int .i64 bu2.t1, .int .i64 bu2.r0, .int .i64 bu2.r1, .int .i64 bu2.u0, .int .i64 bu2.u1, .int .i64 bu2.d0, .int .i64 bu2.d1, .int .i64 bu2.a0, .int .i64 bu2.a1, .int .i64 bu2.b0, .int .i64 bu2.b1, .int .i64 bu2.le, .int .i64 bu2.me]), (6, .int .i64 (bu2.first + (bu2.step * bu2.note))), (5, .int .i64 xu3), (4, .pointer (some ⟨g1, 0, none⟩))] ∧ Mem w noEx wc ((gr5_4, .cells [.int .i64 0, .int .i64 0, .int .i64 0, .int .i64 0, .int .i64 0, .slice none 0 0, .slice none 0 0, .int .i64 0, .int .i64 0, .int .i64 0, .int .i64 0, .int .i64 0, .int .i64 0, .int .i64 0, .int .i64 0, .int .i64 0, .int .i64 0, .int .i64 0, .int .i64 0, .int .i64 0, .int .i64 0]) :: (g1ur5_1, .cells (sc bu2.lows ++ y1ur5_1)) :: (g2ur5_1, .cells (sc bu2.highs ++ y2ur5_1)) :: (g1, .cells (bxM bu2 (.slice Au2 bu2.lows.length cu2) (.slice Bu2 bu2.highs.length du2))) :: Iu2)) (pbits 8 23) 4 ?_ ?_
 ·clear T M
  rintro ac wc ⟨c1ur5_1, y1ur5_1, c2ur5_1, y2ur5_1, gr5_4, g1ur5_1, g2ur5_1, T, M⟩
  refine g_m2 (i := 3) (j := 5) (by kernel_rfl) ?_ ?_
  ·refine gi 31 ?_; intro K hK
   refine ow_call (first := []) (cap := []) T rfl rfl rfl rfl evf (.cons (T.ev 2 rfl) .nil) Try.func31 rfl rfl ?_
   refine Calls.mono (copyBox_any (bu2) _ _ _ _ _ (SAu2.rd M (.cons _ (.cons _ (.cons _ (.cons _ (List.Sublist.refl _)))))) (SBu2.rd M (.cons _ (.cons _ (.cons _ (.cons _ (List.Sublist.refl _)))))) (by show bu2.lows.length ≤ _; omega) (by show bu2.highs.length ≤ _; omega)) ?_
   clear T
   rintro e wc ⟨g1ur5_3, c1ur5_3, y1ur5_3, g2ur5_3, c2ur5_3, y2ur5_3, rfl, N⟩
   intro ac T
   replace M := M.join N
   clear N
   replace M : Mem w noEx wc ((g1ur5_3, .cells (sc bu2.lows ++ y1ur5_3)) :: (g2ur5_3, .cells (sc bu2.highs ++ y2ur5_3)) :: (gr5_4, .cells [.int .i64 0, .int .i64 0, .int .i64 0, .int .i64 0, .int .i64 0, .slice none 0 0, .slice none 0 0, .int .i64 0, .int .i64 0, .int .i64 0, .int .i64 0, .int .i64 0, .int .i64 0, .int .i64 0, .int .i64 0, .int .i64 0, .int .i64 0, .int .i64 0, .int .i64 0, .int .i64 0, .int .i64 0]) :: (g1ur5_1, .cells (sc bu2.lows ++ y1ur5_1)) :: (g2ur5_1, .cells (sc bu2.highs ++ y2ur5_1)) :: (g1, .cells (bxM bu2 (.slice Au2 bu2.lows.length cu2) (.slice Bu2 bu2.highs.length du2))) :: Iu2) := M
   refine sh_out hK _ _ (M.mask [false, false, false, false, false, true] rfl) ?_; clear hK K
   exact H5 _ _ ⟨c1ur5_1, y1ur5_1, c2ur5_1, y2ur5_1, c1ur5_3, y1ur5_3, c2ur5_3, y2ur5_3, gr5_4, g1ur5_3, g2ur5_3, g1ur5_1, g2ur5_1, T.pick [1, 0, 2, 3, 4, 5, 6, 7] rfl, M.permT [2, 0, 1, 3, 4, 5] 6 rfl rfl rfl rfl⟩
  refine gi 55 ?_; intro K hK
  refine ow_al M T rfl rfl rfl rfl ?_; clear M T; intro gr5_5 wc ac M T
  refine sh_out hK _ _ (M.mask [false, false, false, false, true] rfl) ?_; clear hK K
  exact H3 _ _ ⟨c1ur5_1, y1ur5_1, c2ur5_1, y2ur5_1, gr5_4, gr5_5, g1ur5_1, g2ur5_1, T.pick [1, 0, 2, 3, 4, 5, 6, 7] rfl, M.permT [1, 0, 2, 3, 4] 5 rfl rfl rfl rfl⟩
 intro H2
 refine g_have (fun ac wc => ∃ (gr5_5 gr5_4 : Nat), Tm ac 337 [(8, .pointer (some ⟨gr5_5, 0, none⟩)), (7, .pointer (some ⟨gr5_4, 0, none⟩)), (53, .agg #[.int .i64 bu2.first, .int .i64 bu2.step, .int .i64 bu2.span, .int .i64 bu2.press, .int .i64 bu2.note, .slice Au2 bu2.lows.length cu2, .slice Bu2 bu2.highs.length du2, .int .i64 bu2.t0, .int .i64 bu2.t1, .int .i64 bu2.r0, .int .i64 bu2.r1, .int .i64 bu2.u0, .int .i64 bu2.u1, .int .i64 bu2.d0, .int .i64 bu2.d1, .int .i64 bu2.a0, .int .i64 bu2.a1, .int .i64 bu2.b0, .int .i64 bu2.b1, .int .i64 bu2.le, .int .i64 bu2.me]), (51, .agg #[.int .i64 bu2.first, .int .i64 bu2.step, .int .i64 bu2.span, .int .i64 bu2.press, .int .i64 bu2.note, .slice Au2 bu2.lows.length cu2, .slice Bu2 bu2.highs.length du2, .int .i64 bu2.t0, .int .i64 bu2.t1, .int .i64 bu2.r0, .int .i64 bu2.r1, .int .i64 bu2.u0, .int .i64 bu2.u1, .int .i64 bu2.d0, .int .i64 bu2.d1, .int .i64 bu2.a0, .int .i64 bu2.a1, .int .i64 bu2.b0, .int .i64 bu2.b1, .int .i64 bu2.le, .int .i64 bu2.me]), (6, .int .i64 (bu2.first + (bu2.step * bu2.note))), (5, .int .i64 xu3), (4, .pointer (some ⟨g1, 0, none⟩))] ∧ Mem w noEx wc ((gr5_5, .cells [.int .i64 0, .int .i64 0, .int .i64 0, .int .i64 0, .int .i64 0, .slice none 0 0, .slice none 0 0, .int .i64 0, .int .i64 0, .int .i64 0, .int .i64 0, .int .i64 0, .int .i64 0, .int .i64 0, .int .i64 0, .int .i64 0, .int .i64 0, .int .i64 0, .int .i64 0, .int .i64 0, .int .i64 0]) :: (gr5_4, .cells [.int .i64 0, .int .i64 0, .int .i64 0, .int .i64 0, .int .i64 0, .slice none 0 0, .slice none 0 0, .int .i64 0, .int .i64 0, .int .i64 0, .int .i64 0, .int .i64 0, .int .i64 0, .int .i64 0, .int .i64 0, .int .i64 0, .int .i64 0, .int .i64 0, .int .i64 0, .int .i64 0, .int .i64 0]) :: (g1, .cells (bxM bu2 (.slice Au2 bu2.lows.length cu2) (.slice Bu2 bu2.highs.length du2))) :: Iu2)) (pbits 8 53) 4 ?_ ?_
 ·clear T M
  rintro ac wc ⟨gr5_5, gr5_4, T, M⟩
  refine gw 1 55 ?_; intro K hK
  refine ow_call (first := []) (cap := []) T rfl rfl rfl rfl evf (.cons (T.ev 3 rfl) .nil) Try.func31 rfl rfl ?_
  refine Calls.mono (copyBox_any (bu2) _ _ _ _ _ (SAu2.rd M (.cons _ (.cons _ (.cons _ (List.Sublist.refl _))))) (SBu2.rd M (.cons _ (.cons _ (.cons _ (List.Sublist.refl _))))) (by show bu2.lows.length ≤ _; omega) (by show bu2.highs.length ≤ _; omega)) ?_
  clear T
  rintro e wc ⟨g1ur5_1, c1ur5_1, y1ur5_1, g2ur5_1, c2ur5_1, y2ur5_1, rfl, N⟩
  intro ac T
  replace M := M.join N
  clear N
  replace M : Mem w noEx wc ((g1ur5_1, .cells (sc bu2.lows ++ y1ur5_1)) :: (g2ur5_1, .cells (sc bu2.highs ++ y2ur5_1)) :: (gr5_5, .cells [.int .i64 0, .int .i64 0, .int .i64 0, .int .i64 0, .int .i64 0, .slice none 0 0, .slice none 0 0, .int .i64 0, .int .i64 0, .int .i64 0, .int .i64 0, .int .i64 0, .int .i64 0, .int .i64 0, .int .i64 0, .int .i64 0, .int .i64 0, .int .i64 0, .int .i64 0, .int .i64 0, .int .i64 0]) :: (gr5_4, .cells [.int .i64 0, .int .i64 0, .int .i64 0, .int .i64 0, .int .i64 0, .slice none 0 0, .slice none 0 0, .int .i64 0, .int .i64 0, .int .i64 0, .int .i64 0, .int .i64 0, .int .i64 0, .int .i64 0, .int .i64 0, .int .i64 0, .int .i64 0, .int .i64 0, .int .i64 0, .int .i64 0, .int .i64 0]) :: (g1, .cells (bxM bu2 (.slice Au2 bu2.lows.length cu2) (.slice Bu2 bu2.highs.length du2))) :: Iu2) := M
  refine sh_out hK _ _ (M.mask [false, false, false, false, true] rfl) ?_; clear hK K
  exact H3 _ _ ⟨c1ur5_1, y1ur5_1, c2ur5_1, y2ur5_1, gr5_4, gr5_5, g1ur5_1, g2ur5_1, T.pick [2, 1, 0, 3, 4, 5, 6, 7] rfl, M.permT [3, 2, 0, 1, 4] 5 rfl rfl rfl rfl⟩
 intro H1
 refine g_have (fun ac wc => ∃ (c1ur5_1 : Nat), ∃ (y1ur5_1 : List Value), ∃ (c2ur5_1 : Nat), ∃ (y2ur5_1 : List Value), ∃ (gr5_5 g1ur5_1 g2ur5_1 : Nat), Tm ac 337 [(8, .pointer (some ⟨gr5_5, 0, none⟩)), (52, .agg #[.int .i64 bu2.first, .int .i64 bu2.step, .int .i64 bu2.span, .int .i64 bu2.press, .int .i64 bu2.note, .slice (some ⟨g1ur5_1, 0, none⟩) bu2.lows.length c1ur5_1, .slice (some ⟨g2ur5_1, 0, none⟩) bu2.highs.length c2ur5_1, .int .i64 bu2.t0, .int .i64 bu2.t1, .int .i64 bu2.r0, .int .i64 bu2.r1, .int .i64 bu2.u0, .int .i64 bu2.u1, .int .i64 bu2.d0, .int .i64 bu2.d1, .int .i64 bu2.a0, .int .i64 bu2.a1, .int .i64 bu2.b0, .int .i64 bu2.b1, .int .i64 bu2.le, .int .i64 bu2.me]), (53, .agg #[.int .i64 bu2.first, .int .i64 bu2.step, .int .i64 bu2.span, .int .i64 bu2.press, .int .i64 bu2.note, .slice Au2 bu2.lows.length cu2, .slice Bu2 bu2.highs.length du2, .int .i64 bu2.t0, .int .i64 bu2.t1, .int .i64 bu2.r0, .int .i64 bu2.r1, .int .i64 bu2.u0, .int .i64 bu2.u1, .int .i64 bu2.d0, .int .i64 bu2.d1, .int .i64 bu2.a0, .int .i64 bu2.a1, .int .i64 bu2.b0, .int .i64 bu2.b1, .int .i64 bu2.le, .int .i64 bu2.me]), (51, .agg #[.int .i64 bu2.first, .int .i64 bu2.step, .int .i64 bu2.span, .int .i64 bu2.press, .int .i64 bu2.note, .slice Au2 bu2.lows.length cu2, .slice Bu2 bu2.highs.length du2, .int .i64 bu2.t0, .int .i64 bu2.t1, .int .i64 bu2.r0, .int .i64 bu2.r1, .int .i64 bu2.u0, .int .i64 bu2.u1, .int .i64 bu2.d0, .int .i64 bu2.d1, .int .i64 bu2.a0, .int .i64 bu2.a1, .int .i64 bu2.b0, .int .i64 bu2.b1, .int .i64 bu2.le, .int .i64 bu2.me]), (6, .int .i64 (bu2.first + (bu2.step * bu2.note))), (5, .int .i64 xu3), (4, .pointer (some ⟨g1, 0, none⟩))] ∧ Mem w noEx wc ((gr5_5, .cells [.int .i64 0, .int .i64 0, .int .i64 0, .int .i64 0, .int .i64 0, .slice none 0 0, .slice none 0 0, .int .i64 0, .int .i64 0, .int .i64 0, .int .i64 0, .int .i64 0, .int .i64 0, .int .i64 0, .int .i64 0, .int .i64 0, .int .i64 0, .int .i64 0, .int .i64 0, .int .i64 0, .int .i64 0]) :: (g1ur5_1, .cells (sc bu2.lows ++ y1ur5_1)) :: (g2ur5_1, .cells (sc bu2.highs ++ y2ur5_1)) :: (g1, .cells (bxM bu2 (.slice Au2 bu2.lows.length cu2) (.slice Bu2 bu2.highs.length du2))) :: Iu2)) (pbits 8 39) 4 ?_ ?_
 ·clear T M
  rintro ac wc ⟨c1ur5_1, y1ur5_1, c2ur5_1, y2ur5_1, gr5_5, g1ur5_1, g2ur5_1, T, M⟩
  refine g_m2 (i := 3) (j := 4) (by kernel_rfl) ?_ ?_
  ·refine gi 47 ?_; intro K hK
   refine ow_call (first := []) (cap := []) T rfl rfl rfl rfl evf (.cons (T.ev 2 rfl) .nil) Try.func31 rfl rfl ?_
   refine Calls.mono (copyBox_any (bu2) _ _ _ _ _ (SAu2.rd M (.cons _ (.cons _ (.cons _ (.cons _ (List.Sublist.refl _)))))) (SBu2.rd M (.cons _ (.cons _ (.cons _ (.cons _ (List.Sublist.refl _)))))) (by show bu2.lows.length ≤ _; omega) (by show bu2.highs.length ≤ _; omega)) ?_
   clear T
   rintro e wc ⟨g1ur5_3, c1ur5_3, y1ur5_3, g2ur5_3, c2ur5_3, y2ur5_3, rfl, N⟩
   intro ac T
   replace M := M.join N
   clear N
   replace M : Mem w noEx wc ((g1ur5_3, .cells (sc bu2.lows ++ y1ur5_3)) :: (g2ur5_3, .cells (sc bu2.highs ++ y2ur5_3)) :: (gr5_5, .cells [.int .i64 0, .int .i64 0, .int .i64 0, .int .i64 0, .int .i64 0, .slice none 0 0, .slice none 0 0, .int .i64 0, .int .i64 0, .int .i64 0, .int .i64 0, .int .i64 0, .int .i64 0, .int .i64 0, .int .i64 0, .int .i64 0, .int .i64 0, .int .i64 0, .int .i64 0, .int .i64 0, .int .i64 0]) :: (g1ur5_1, .cells (sc bu2.lows ++ y1ur5_1)) :: (g2ur5_1, .cells (sc bu2.highs ++ y2ur5_1)) :: (g1, .cells (bxM bu2 (.slice Au2 bu2.lows.length cu2) (.slice Bu2 bu2.highs.length du2))) :: Iu2) := M
   refine sh_out hK _ _ (M.mask [false, false, false, false, false, true] rfl) ?_; clear hK K
   exact H4 _ _ ⟨c1ur5_1, y1ur5_1, c2ur5_1, y2ur5_1, c1ur5_3, y1ur5_3, c2ur5_3, y2ur5_3, gr5_5, g1ur5_3, g2ur5_3, g1ur5_1, g2ur5_1, T.pick [1, 0, 2, 3, 4, 5, 6, 7] rfl, M.permT [2, 0, 1, 3, 4, 5] 6 rfl rfl rfl rfl⟩
  refine gi 55 ?_; intro K hK
  refine ow_al M T rfl rfl rfl rfl ?_; clear M T; intro gr5_4 wc ac M T
  refine sh_out hK _ _ (M.mask [false, false, false, false, true] rfl) ?_; clear hK K
  exact H3 _ _ ⟨c1ur5_1, y1ur5_1, c2ur5_1, y2ur5_1, gr5_4, gr5_5, g1ur5_1, g2ur5_1, T, M⟩
 intro H0
 refine gq T 0 1 rfl (fun B w' hD hl hS => (rn_rowO (Mem.nth (show Mem w noEx w' _ from hS) 0 rfl) rfl (T.ev 2 rfl) rfl)) ?_; clear T ac; intro ac T
 refine gq T 2 5 rfl (fun B w' hD hl hS => (rn_rowO (Mem.nth (show Mem w noEx w' _ from hS) 0 rfl) rfl (T.ev 3 rfl) rfl)) ?_; clear T ac; intro ac T
 refine g_m3 (i := 1) (j := 4) (k := 5) (by kernel_rfl) ?_ ?_ ?_
 ·refine gi 7 ?_; intro K hK
  refine ow_call (first := []) (cap := []) T rfl rfl rfl rfl evf (.cons (T.ev 1 rfl) .nil) Try.func31 rfl rfl ?_
  refine Calls.mono (copyBox_any (bu2) _ _ _ _ _ (SAu2.rd M (.cons _ (List.Sublist.refl _))) (SBu2.rd M (.cons _ (List.Sublist.refl _))) (by show bu2.lows.length ≤ _; omega) (by show bu2.highs.length ≤ _; omega)) ?_
  clear T
  rintro e wc ⟨g1ur5_1, c1ur5_1, y1ur5_1, g2ur5_1, c2ur5_1, y2ur5_1, rfl, N⟩
  intro ac T
  replace M := M.join N
  clear N
  replace M : Mem w noEx wc ((g1ur5_1, .cells (sc bu2.lows ++ y1ur5_1)) :: (g2ur5_1, .cells (sc bu2.highs ++ y2ur5_1)) :: (g1, .cells (bxM bu2 (.slice Au2 bu2.lows.length cu2) (.slice Bu2 bu2.highs.length du2))) :: Iu2) := M
  refine sh_out hK _ _ (M.mask [false, false, true] rfl) ?_; clear hK K
  refine g_m3 (i := 3) (j := 4) (k := 5) (by kernel_rfl) ?_ ?_ ?_
  ·refine gi 15 ?_; intro K hK
   refine ow_call (first := []) (cap := []) T rfl rfl rfl rfl evf (.cons (T.ev 1 rfl) .nil) Try.func31 rfl rfl ?_
   refine Calls.mono (copyBox_any (bu2) _ _ _ _ _ (SAu2.rd M (.cons _ (.cons _ (.cons _ (List.Sublist.refl _))))) (SBu2.rd M (.cons _ (.cons _ (.cons _ (List.Sublist.refl _))))) (by show bu2.lows.length ≤ _; omega) (by show bu2.highs.length ≤ _; omega)) ?_
   clear T
   rintro e wc ⟨g1ur5_3, c1ur5_3, y1ur5_3, g2ur5_3, c2ur5_3, y2ur5_3, rfl, N⟩
   intro ac T
   replace M := M.join N
   clear N
   replace M : Mem w noEx wc ((g1ur5_3, .cells (sc bu2.lows ++ y1ur5_3)) :: (g2ur5_3, .cells (sc bu2.highs ++ y2ur5_3)) :: (g1ur5_1, .cells (sc bu2.lows ++ y1ur5_1)) :: (g2ur5_1, .cells (sc bu2.highs ++ y2ur5_1)) :: (g1, .cells (bxM bu2 (.slice Au2 bu2.lows.length cu2) (.slice Bu2 bu2.highs.length du2))) :: Iu2) := M
   refine sh_out hK _ _ (M.mask [false, false, false, false, true] rfl) ?_; clear hK K
   refine g_m2 (i := 4) (j := 5) (by kernel_rfl) ?_ ?_
   ·refine gi 31 ?_; intro K hK
    refine ow_al M T rfl rfl rfl rfl ?_; clear M T; intro gr5_4 wc ac M T
    refine sh_out hK _ _ (M.mask [false, false, false, false, false, true] rfl) ?_; clear hK K
    exact H5 _ _ ⟨c1ur5_1, y1ur5_1, c2ur5_1, y2ur5_1, c1ur5_3, y1ur5_3, c2ur5_3, y2ur5_3, gr5_4, g1ur5_3, g2ur5_3, g1ur5_1, g2ur5_1, T, M⟩
   refine gi 47 ?_; intro K hK
   refine ow_al M T rfl rfl rfl rfl ?_; clear M T; intro gr5_5 wc ac M T
   refine sh_out hK _ _ (M.mask [false, false, false, false, false, true] rfl) ?_; clear hK K
   exact H4 _ _ ⟨c1ur5_1, y1ur5_1, c2ur5_1, y2ur5_1, c1ur5_3, y1ur5_3, c2ur5_3, y2ur5_3, gr5_5, g1ur5_3, g2ur5_3, g1ur5_1, g2ur5_1, T, M⟩
  ·refine gi 23 ?_; intro K hK
   refine ow_al M T rfl rfl rfl rfl ?_; clear M T; intro gr5_4 wc ac M T
   refine sh_out hK _ _ (M.mask [false, false, false, true] rfl) ?_; clear hK K
   exact H2 _ _ ⟨c1ur5_1, y1ur5_1, c2ur5_1, y2ur5_1, gr5_4, g1ur5_1, g2ur5_1, T, M⟩
  refine gi 39 ?_; intro K hK
  refine ow_al M T rfl rfl rfl rfl ?_; clear M T; intro gr5_5 wc ac M T
  refine sh_out hK _ _ (M.mask [false, false, false, true] rfl) ?_; clear hK K
  exact H0 _ _ ⟨c1ur5_1, y1ur5_1, c2ur5_1, y2ur5_1, gr5_5, g1ur5_1, g2ur5_1, T, M⟩
 ·refine gi 21 ?_; intro K hK
  refine ow_al M T rfl rfl rfl rfl ?_; clear M T; intro gr5_4 wc ac M T
  refine sh_out hK _ _ (M.mask [false, true] rfl) ?_; clear hK K
  refine g_m2 (i := 1) (j := 5) (by kernel_rfl) ?_ ?_
  ·refine gi 23 ?_; intro K hK
   refine ow_call (first := []) (cap := []) T rfl rfl rfl rfl evf (.cons (T.ev 2 rfl) .nil) Try.func31 rfl rfl ?_
   refine Calls.mono (copyBox_any (bu2) _ _ _ _ _ (SAu2.rd M (.cons _ (.cons _ (List.Sublist.refl _)))) (SBu2.rd M (.cons _ (.cons _ (List.Sublist.refl _)))) (by show bu2.lows.length ≤ _; omega) (by show bu2.highs.length ≤ _; omega)) ?_
   clear T
   rintro e wc ⟨g1ur5_1, c1ur5_1, y1ur5_1, g2ur5_1, c2ur5_1, y2ur5_1, rfl, N⟩
   intro ac T
   replace M := M.join N
   clear N
   replace M : Mem w noEx wc ((g1ur5_1, .cells (sc bu2.lows ++ y1ur5_1)) :: (g2ur5_1, .cells (sc bu2.highs ++ y2ur5_1)) :: (gr5_4, .cells [.int .i64 0, .int .i64 0, .int .i64 0, .int .i64 0, .int .i64 0, .slice none 0 0, .slice none 0 0, .int .i64 0, .int .i64 0, .int .i64 0, .int .i64 0, .int .i64 0, .int .i64 0, .int .i64 0, .int .i64 0, .int .i64 0, .int .i64 0, .int .i64 0, .int .i64 0, .int .i64 0, .int .i64 0]) :: (g1, .cells (bxM bu2 (.slice Au2 bu2.lows.length cu2) (.slice Bu2 bu2.highs.length du2))) :: Iu2) := M
   refine sh_out hK _ _ (M.mask [false, false, false, true] rfl) ?_; clear hK K
   exact H2 _ _ ⟨c1ur5_1, y1ur5_1, c2ur5_1, y2ur5_1, gr5_4, g1ur5_1, g2ur5_1, T.pick [1, 0, 2, 3, 4, 5, 6] rfl, M.permT [2, 0, 1, 3] 4 rfl rfl rfl rfl⟩
  refine gi 53 ?_; intro K hK
  refine ow_al M T rfl rfl rfl rfl ?_; clear M T; intro gr5_5 wc ac M T
  refine sh_out hK _ _ (M.mask [false, false, true] rfl) ?_; clear hK K
  exact H1 _ _ ⟨gr5_5, gr5_4, T, M⟩
 refine gi 37 ?_; intro K hK
 refine ow_al M T rfl rfl rfl rfl ?_; clear M T; intro gr5_5 wc ac M T
 refine sh_out hK _ _ (M.mask [false, true] rfl) ?_; clear hK K
 refine g_m2 (i := 1) (j := 4) (by kernel_rfl) ?_ ?_
 ·refine gi 39 ?_; intro K hK
  refine ow_call (first := []) (cap := []) T rfl rfl rfl rfl evf (.cons (T.ev 2 rfl) .nil) Try.func31 rfl rfl ?_
  refine Calls.mono (copyBox_any (bu2) _ _ _ _ _ (SAu2.rd M (.cons _ (.cons _ (List.Sublist.refl _)))) (SBu2.rd M (.cons _ (.cons _ (List.Sublist.refl _)))) (by show bu2.lows.length ≤ _; omega) (by show bu2.highs.length ≤ _; omega)) ?_
  clear T
  rintro e wc ⟨g1ur5_1, c1ur5_1, y1ur5_1, g2ur5_1, c2ur5_1, y2ur5_1, rfl, N⟩
  intro ac T
  replace M := M.join N
  clear N
  replace M : Mem w noEx wc ((g1ur5_1, .cells (sc bu2.lows ++ y1ur5_1)) :: (g2ur5_1, .cells (sc bu2.highs ++ y2ur5_1)) :: (gr5_5, .cells [.int .i64 0, .int .i64 0, .int .i64 0, .int .i64 0, .int .i64 0, .slice none 0 0, .slice none 0 0, .int .i64 0, .int .i64 0, .int .i64 0, .int .i64 0, .int .i64 0, .int .i64 0, .int .i64 0, .int .i64 0, .int .i64 0, .int .i64 0, .int .i64 0, .int .i64 0, .int .i64 0, .int .i64 0]) :: (g1, .cells (bxM bu2 (.slice Au2 bu2.lows.length cu2) (.slice Bu2 bu2.highs.length du2))) :: Iu2) := M
  refine sh_out hK _ _ (M.mask [false, false, false, true] rfl) ?_; clear hK K
  exact H0 _ _ ⟨c1ur5_1, y1ur5_1, c2ur5_1, y2ur5_1, gr5_5, g1ur5_1, g2ur5_1, T.pick [1, 0, 2, 3, 4, 5, 6] rfl, M.permT [2, 0, 1, 3] 4 rfl rfl rfl rfl⟩
 refine gi 53 ?_; intro K hK
 refine ow_al M T rfl rfl rfl rfl ?_; clear M T; intro gr5_4 wc ac M T
 refine sh_out hK _ _ (M.mask [false, false, true] rfl) ?_; clear hK K
 exact H1 _ _ ⟨gr5_5, gr5_4, T.pick [1, 0, 2, 3, 4, 5, 6] rfl, M.permT [1, 0, 2] 3 rfl rfl rfl rfl⟩
end Go.Proofs.Ytlahdenlmmlplaa

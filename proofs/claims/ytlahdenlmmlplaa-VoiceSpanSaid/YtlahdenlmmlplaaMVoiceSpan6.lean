/-
  law05: VoiceSpan, walked.
-/
import Derived.Test.YtlahdenlmmlplaaMVoiceSpan1
import Derived.Test.YtlahdenlmmlplaaMVoiceSpan2
import Derived.Test.YtlahdenlmmlplaaMVoiceSpan3
import Derived.Test.YtlahdenlmmlplaaMVoiceSpan4
import Derived.Test.YtlahdenlmmlplaaMVoiceSpan5
namespace Go.Proofs.Ytlahdenlmmlplaa
set_option linter.unusedSimpArgs false
set_option linter.unusedVariables false
open Go.RowKit
abbrev spL (l : Lw) (s : Int) : Lw := ⟨l.first, l.step, s, l.press⟩
theorem SGood.span {l : Lw} {R : List (List Snd)} (h : SGood l R) {s : Int} (hs : 0 ≤ s ∧ s ≤ 20) : SGood (spL l s) R := ⟨⟨h.law.first, h.law.step, hs, h.law.press⟩, h.len, h.rows, h.dues⟩
theorem scale_len {l : Lw} {LL : List LS} {g : List Int} (hS : SGood l (rowsOf LL)) (ha : Asc (rowsOf LL).length g) : LL.length ≤ 4 ∧ (∀ x ∈ LL, x.1.length ≤ 1000000) ∧ g.length ≤ 4 := by
 have h4 := hS.len
 rw [show (rowsOf LL).length = LL.length by simp] at h4
 have hg := ha.short
 rw [show (rowsOf LL).length = LL.length by simp] at hg
 exact ⟨h4, fun x hx => by have := (hS.rows x.1 (List.mem_map.2 ⟨x, hx, rfl⟩)).1; omega, by omega⟩
theorem Span_reg (l : Lw) (A : Option Addr) (c : Nat) (LL : List LS) (G : Option Addr) (d : Nat) (g : List Int) (w : World) (hS : SGood l (rowsOf LL)) (ha : Asc (rowsOf LL).length g) (hA : Rd w w.heap.size 1 A LL.length (lsC LL)) (hE : ElsS w LL) (hG : Rd w w.heap.size 1 G g.length (ic g)) :
   Calls Try.prog 45 #[.agg #[.int .i64 l.first, .int .i64 l.step, .int .i64 l.span, .int .i64 l.press, .slice A LL.length c], .slice G g.length d] w fun e w' => e = .returned (.tuple #[.int .i64 (spanL l (prsL (rowsOf LL) g)), .int .i64 0]) ∧ Below w.heap.size w w' := by
 obtain ⟨h1, h2, h3⟩ := scale_len hS ha
 have h := Span_any l A c LL G d g w hA hE (by omega) h2 hG (by omega)
 rw [show spanE l (rowsOf LL) g = (spanL l (prsL (rowsOf LL) g), 0) by unfold spanE; rw [if_pos (ha.check hS)]] at h
 exact h
theorem Bad_reg (l : Lw) (A : Option Addr) (c : Nat) (LL : List LS) (G : Option Addr) (d : Nat) (g : List Int) (w : World) (hS : SGood l (rowsOf LL)) (ha : Asc (rowsOf LL).length g) (hA : Rd w w.heap.size 1 A LL.length (lsC LL)) (hE : ElsS w LL) (hG : Rd w w.heap.size 1 G g.length (ic g)) {o : Option Two} (ho : badL l (prsL (rowsOf LL) g) = o) :
   Calls Try.prog 46 #[.agg #[.int .i64 l.first, .int .i64 l.step, .int .i64 l.span, .int .i64 l.press, .slice A LL.length c], .slice G g.length d] w fun e w' => e = .returned (.tuple #[.int .i64 (badV o).1.1, .int .i64 (badV o).1.2, .int .i64 (badV o).2]) ∧ Below w.heap.size w w' := by
 obtain ⟨h1, h2, h3⟩ := scale_len hS ha
 have h := Bad_any l A c LL G d g w hA hE (by omega) h2 hG (by omega)
 rw [show badE l (rowsOf LL) g = badV o by unfold badE; rw [if_pos (ha.check hS), ho]] at h
 exact h
theorem only_false (A : Option Addr) (m c : Nat) (l : List Int) (v : Int) (w : World) (hr : Rd w w.heap.size 1 A m (ic l)) (hm : m ≤ 1000000) (h : ∃ u ∈ l, u ≠ v) :
   Calls Try.prog 16 #[.slice A m c, .int .i64 v] w fun e w' => e = .returned (.bool false) ∧ Below w.heap.size w w' := by
 have h9 := only_any A m c l v w hr hm
 rw [show onlyB l v = false by unfold onlyB; rw [List.all_eq_false]; obtain ⟨u, hu, hv⟩ := h; exact ⟨u, hu, by simpa using hv⟩] at h9
 exact h9
theorem place_fromZ (v : Int) : ∀ (l : List Int) (k i : Nat), l[i]? = some v → (∀ j, j < i → l[j]? ≠ some v) → placeF v l k = (k + i : Nat)
 | [], k, i, h, _ => by simp at h
 | x :: r, k, 0, h, _ => by
   simp at h
   subst h
   simp [placeF]
 | x :: r, k, i + 1, h, hn => by
   have h0 : x ≠ v := fun e => hn 0 (by omega) (by simp [e])
   unfold placeF
   rw [if_neg h0, place_fromZ v r (k + 1) i (by simpa using h) (fun j hj e => hn (j + 1) (by omega) (by simpa using e))]
   omega
theorem Asc.place {n : Int} {g : List Int} (h : Asc n g) {i : Nat} {v : Int} (hv : g[i]? = some v) : placeP g v = (i : Int) := by
 unfold placeP
 rw [place_fromZ v g 0 i hv fun j hj e => ?_]
 · simp
 · have h1 := (List.getElem?_eq_some_iff.1 hv)
   have h2 := (List.getElem?_eq_some_iff.1 e)
   obtain ⟨a1, a2⟩ := h1
   obtain ⟨b1, b2⟩ := h2
   have := List.pairwise_iff_getElem.1 h.1 j i b1 a1 hj
   omega
theorem Place_at (A : Option Addr) (m c : Nat) (g : List Int) (i : Nat) (v : Int) (w : World) {n : Int} (hr : Rd w w.heap.size 1 A m (ic g)) (hm : m ≤ 1000000) (ha : Asc n g) (hv : g[i]? = some v) :
   Calls Try.prog 30 #[.slice A m c, .int .i64 v] w fun e w' => e = .returned (.int .i64 (i : Int)) ∧ Below w.heap.size w w' := by
 have h9 := place_any A m c g v w hr hm
 rw [ha.place hv] at h9
 exact h9
theorem span_ok {l : Lw} {R : List (List Snd)} {g : List Int} {sp : Int} (hsp : sp = spanL l (prsL R g)) : (∀ u ∈ tremP (spL l sp) R g, u = 1) ∧ badL (spL l sp) (prsL R g) = none := by
 have h := (spanL_nonneg l (prsL R g)).2.1
 rw [← hsp] at h
 exact ⟨trem_span (l := spL l sp) h, bad_none (l := spL l sp) h⟩
theorem span_bad {l : Lw} {R : List (List Snd)} {g : List Int} {sp : Int} (hsp : sp = spanL l (prsL R g)) (h1 : 1 ≤ sp) : ∃ (k i : Nat) (r : Int), k < notesP R ∧ i + 1 < g.length ∧ g[i]? = some r ∧ badL (spL l (min (sp - 1) 20)) (prsL R g) = some (twoAt R g k i) ∧ (twoAt R g k i).nt = (k : Int) ∧ (twoAt R g k i).row = r ∧
   (∃ u ∈ tremP (spL l (min (sp - 1) 20)) R g, u ≠ 1) ∧ (∀ u, (tremP (spL l (min (sp - 1) 20)) R g)[k]? = some u → u ≠ 1) ∧ (∀ u ∈ (tremP (spL l (min (sp - 1) 20)) R g).take k, u = 1) ∧
   ∀ j, j ≤ i → ∀ u, (tremP (spL l (min (sp - 1) 20)) R ((g.drop j).take 2))[k]? = some u → (u = 1 ↔ j < i) := by
 obtain ⟨-, -, h3⟩ := spanL_nonneg l (prsL R g)
 obtain ⟨x, hx, e⟩ := h3 (by omega)
 generalize hs : min (sp - 1) 20 = s
 cases hb : badL (spL l s) (prsL R g) with
 | none =>
   have := (List.find?_eq_none.1 hb) x hx
   simp only [decide_eq_true_eq] at this
   exact absurd (show s < awayP l x by omega) this
 | some y =>
   obtain ⟨k, i, hk, hi, rfl, hy, hpre, hrow⟩ := bad_some hb
   have hr : g[i]? = some (g.getD i 0) := by rw [List.getD_eq_getElem?_getD, List.getElem?_eq_getElem (by omega)]; rfl
   have hk1 : ∀ u, (tremP (spL l s) R g)[k]? = some u → u ≠ 1 := fun u hu e1 => by
     rw [tremP_at hu] at e1
     have := (trem_one (l := spL l s)).1 e1 i hi
     omega
   have hl : k < (tremP (spL l s) R g).length := by rw [tremP_length]; exact hk
   refine ⟨k, i, g.getD i 0, hk, hi, hr, rfl, rfl, rfl, ⟨_, List.getElem_mem hl, hk1 _ (List.getElem?_eq_getElem hl)⟩, hk1, fun u hu => ?_, fun j hj u hu => ?_⟩
   · obtain ⟨n, hn⟩ := List.getElem?_of_mem hu
     rw [List.getElem?_take] at hn
     split at hn
     · rw [tremP_at hn]
       exact (trem_one (l := spL l s)).2 (hpre n (by assumption))
     · cases hn
   · rw [tremP_at hu]
     have e2 : twoAt R ((g.drop j).take 2) k 0 = twoAt R g k j := by
       have a1 : ((g.drop j).take 2).getD 0 0 = g.getD j 0 := by simp [List.getD_eq_getElem?_getD, List.getElem?_take, List.getElem?_drop]
       have a2 : ((g.drop j).take 2).getD (0 + 1) 0 = g.getD (j + 1) 0 := by simp [List.getD_eq_getElem?_getD, List.getElem?_take, List.getElem?_drop]
       unfold twoAt
       rw [a1, a2]
     have hlen : ((g.drop j).take 2).length = 2 := by rw [List.length_take, List.length_drop]; omega
     refine (trem_one (l := spL l s)).trans ⟨fun h => ?_, fun h m hm => ?_⟩
     · have h5 := h 0 (by omega)
       rw [e2] at h5
       rcases Nat.lt_or_eq_of_le hj with h6 | h6
       · exact h6
       · subst h6; omega
     · obtain rfl : m = 0 := by omega
       rw [e2]
       exact hrow j h
theorem Sl.capLe {e n size : Nat} {A : Option Addr} {c : Nat} {xs : List Value} {I : List (Nat × BA)} {w0 w : World} {ex : Nat → Prop} {L : List (Nat × BA)} (h : Sl e size (.slice A n c) n xs I) (M : Mem w0 ex w L) (hI : I.Sublist L) : n ≤ c := by
 rcases h with ⟨h1, h2, -, -⟩ | ⟨g, cap, h1, h2⟩
 · omega
 · injection h1 with _ _ h3
   subst h3
   obtain ⟨⟨-, h5⟩, h6⟩ := (M.blk (g, .row e size n xs c) (hI.subset (by rw [h2]; exact List.mem_cons_self))).2
   rcases h5 with ⟨h7, -⟩ | ⟨g', cap, cur, h7, -, -, h8, -⟩
   · cases h7
   · injection h7 with _ _ h9
     omega
def LECap (l : List Int) (er : Int) (w : World) (e : Ending) (w' : World) : Prop := ∃ A c I, e = .returned (.tuple #[.slice A l.length c, .int .i64 er]) ∧ l.length ≤ c ∧ (∃ b o, ∀ (w : World) (ex : Nat → Prop), Sp w ex I A l.length 1 b o (ic l)) ∧ Mem w noEx w' I
theorem LECap.nil {er : Int} {w w' : World} {L : List (Nat × BA)} {e : Ending} (he : e = .returned (.tuple #[.slice none 0 0, .int .i64 er])) (M : Mem w noEx w' L) : LECap [] er w e w' := ⟨none, 0, [], he, by simp, ⟨0, 0, fun _ _ => Sp.nil⟩, M.sub (List.nil_sublist _)⟩
set_option maxRecDepth 100000 in
set_option maxHeartbeats 1000000 in
theorem TremCap_any (l : Lw) (A : Option Addr) (c : Nat) (LL : List LS) (G : Option Addr) (d : Nat) (g : List Int)  (w : World) (hA : Rd w w.heap.size 1 A LL.length (lsC LL)) (hE : ElsS w LL) (nL : LL.length ≤ 1000000) (nE : ∀ x ∈ LL, x.1.length ≤ 1000000) (hG : Rd w w.heap.size 1 G g.length (ic g)) (nG : g.length ≤ 1000000)  :
   Calls Try.prog 15 #[.agg #[.int .i64 l.first, .int .i64 l.step, .int .i64 l.span, .int .i64 l.press, .slice A LL.length c], .slice G g.length d] w (LECap (tremE l (rowsOf LL) g).1 (tremE l (rowsOf LL) g).2 w) := by
 obtain ⟨bA, oA, SA⟩ := Sp.old hA
 obtain ⟨bG, oG, SG⟩ := Sp.old hG
 refine px_enter noEx Try.func15 rfl 39 rfl [.agg #[.int .i64 l.first, .int .i64 l.step, .int .i64 l.span, .int .i64 l.press, .slice A LL.length c], .slice G g.length d] rfl rfl (Mem.init w _) ?_
 intro ac wc T M
 refine wp_seq ?_
 refine wp_region_lit ?_
 refine l_w rfl ?_; intro K hK
 refine ow_bx M T rfl rfl rfl rfl (T.ev 0 rfl) rfl ?_; clear M T; intro g1 wc ac M T
 refine sh_out hK _ _ ?_; clear hK K
 refine lq T (rn_assign rfl evc) ?_; clear T ac; intro ac T
 refine lq T (rn_assign rfl evc) ?_; clear T ac; intro ac T
 refine wpList_nil ?_
 replace T := T.pick [2, 4] rfl
 refine nm_then ?_
 refine wp_seq ?_
 refine wp_seq ?_
 refine wp_region_lit ?_
 refine lq T (rn_rowO (Mem.nth M 0 rfl) rfl (T.ev 0 rfl) rfl) ?_; clear T ac; intro ac T
 refine lq T (rn_move rfl (T.ev 2 rfl)) ?_; clear T ac; intro ac T
 refine l_w rfl ?_; intro K hK
 refine ow_call (first := []) (cap := []) T rfl rfl rfl rfl evf (.cons (T.ev 1 rfl) (.cons (T.ev 0 rfl) .nil)) Try.func53 rfl rfl ?_
 refine Calls.mono (checkRegister_any l A c LL G d g _ (SA.rd M (List.nil_sublist _)) (fun x hx => M.rd (hE x hx) (Nat.le_refl _)) (by omega) nE (SG.rd M (List.nil_sublist _)) (by omega)) ?_
 clear T
 rintro e wc ⟨rfl, hb⟩
 intro ac T
 replace M := M.call hb; clear hb
 refine sh_out hK _ _ ?_; clear hK K
 refine lq T (rn_assign rfl (T.ev 0 rfl)) ?_; clear T ac; intro ac T
 refine wpList_nil ?_
 replace T := T.pick [0, 4, 5] rfl
 refine nm_then ?_
 refine wp_seq ?_
 refine wp_region_lit ?_
 refine lq T (rn_move rfl (T.ev 0 rfl)) ?_; clear T ac; intro ac T
 refine lq T (rn_neq rfl (T.ev 0 rfl) evc) ?_; clear T ac; intro ac T
 refine wpList_nil ?_
 replace T := T.pick [0, 2, 3, 4] rfl
 refine nm_then ?_
 refine wp_ifn (T.ev 0 rfl) ?_ ?_
 ·intro h1
  refine wp_seq ?_
  refine wp_region_lit ?_
  refine lq T (rn_move rfl (T.ev 1 rfl)) ?_; clear T ac; intro ac T
  refine lq T (rn_assign rfl evc) ?_; clear T ac; intro ac T
  refine lq T (rn_assign rfl (T.ev 1 rfl)) ?_; clear T ac; intro ac T
  refine wpList_nil ?_
  replace T := T.pick [0, 1] rfl
  replace M := M.mask [false] rfl
  refine nm_then ?_
  refine wp_ret ?_
  refine rt_then ?_
  refine rt_2 T rfl (T.ev 1 rfl) (T.ev 0 rfl) ?_
  have e9 : tremE l (rowsOf LL) g = ([], checkR l (rowsOf LL) g) := by unfold tremE; rw [if_neg (by simpa using h1)]
  rw [e9]
  exact LECap.nil rfl M
 intro h1
 obtain ⟨gS, gR⟩ := checkR_good (l := l) (R := rowsOf LL) (g := g) (by simpa using h1)
 have hgL : ∀ r ∈ g, 0 ≤ r ∧ r < LL.length := fun r hr => by have := gR r hr; rw [show (rowsOf LL).length = LL.length by simp] at this; exact this
 have hNL : ∀ x ∈ LL, x.1.length = notesP (rowsOf LL) := fun x hx => (gS.rows x.1 (List.mem_map.2 ⟨x, hx, rfl⟩)).2.1
 have hN6 := gS.notes
 have ⟨gl1, gl2, gl3, gl4⟩ := gS.law
 refine wp_skip ?_
 refine nm_then ?_
 refine wp_seq ?_
 refine wp_region_lit ?_
 refine lq T (rn_rowO (Mem.nth M 0 rfl) rfl (T.ev 2 rfl) rfl) ?_; clear T ac; intro ac T
 refine lq T (rn_move rfl (T.ev 4 rfl)) ?_; clear T ac; intro ac T
 refine lq (v := (.agg #[.int .i64 l.first, .int .i64 l.step, .int .i64 l.span, .int .i64 l.press, .slice A LL.length c, .slice G g.length d])) T (rn_build rfl (.cons (T.ev 1 rfl) (.cons (T.ev 0 rfl) .nil)) (fun _ => by kernel_rfl)) ?_; clear T ac; intro ac T
 refine l_w rfl ?_; intro K hK
 refine ow_al M T rfl rfl rfl rfl ?_; clear M T; intro g2 wc ac M T
 refine sh_out hK _ _ ?_; clear hK K
 refine l_w rfl ?_; intro K hK
 refine ow_stO M T rfl rfl (T.ev 0 rfl) (T.ev 1 rfl) rfl .head rfl (by simp) rfl (by kernel_rfl) ?_; clear M T; intro wc ac M T
 refine sh_out hK _ _ ?_; clear hK K
 refine wpList_nil ?_
 replace T := T.pick [0, 6] rfl
 refine nm_then ?_
 refine wp_seq ?_
 refine wp_region_lit ?_
 refine lq T (rn_assign rfl evc) ?_; clear T ac; intro ac T
 refine wpList_nil ?_
 refine nm_then ?_
 refine wp_seq ?_
 refine wp_seq ?_
 refine wp_region_lit ?_
 refine lq T (rn_rowO (Mem.nth M 1 rfl) rfl (T.ev 2 rfl) rfl) ?_; clear T ac; intro ac T
 refine l_w rfl ?_; intro K hK
 refine ow_call (first := []) (cap := []) T rfl rfl rfl rfl evf (.cons (T.ev 0 rfl) .nil) Try.func54 rfl rfl ?_
 refine Calls.mono (notes_any l A c LL _ (SA.rd M (List.nil_sublist _)) (fun x hx => M.rd (hE x hx) (Nat.le_refl _)) (by omega) nE) ?_
 clear T
 rintro e wc ⟨rfl, hb⟩
 intro ac T
 replace M := M.call hb; clear hb
 refine sh_out hK _ _ ?_; clear hK K
 refine lq T (rn_move rfl evc) ?_; clear T ac; intro ac T
 refine wpList_nil ?_
 replace T := T.pick [0, 1, 3, 4, 5] rfl
 refine nm_then ?_
 refine wp_block ?_
 refine wp_loop_n (fun mz ac wc => ∃ (k : Nat) (OL : List Int) (A3 : Option Addr) (c3 : Nat) (Io : List (Nat × BA)), mz = notesP (rowsOf LL) - k ∧ (k ≤ notesP (rowsOf LL)) ∧ (OL = (tremP l (rowsOf LL) g).take k) ∧ (OL.length = k) ∧ (Sl 3 1 (.slice A3 OL.length c3) OL.length (ic OL) Io) ∧ Tm ac 39 [(2, .pointer (some ⟨g1, 0, none⟩)), (7, .pointer (some ⟨g2, 0, none⟩)), (8, .slice A3 OL.length c3), (20, .int .i64 ((notesP (rowsOf LL) : Nat) : Int)), (21, .int .i64 (k : Int))] ∧ Mem w noEx wc ((g2, .cells [.int .i64 l.first, .int .i64 l.step, .int .i64 l.span, .int .i64 l.press, .slice A LL.length c, .slice G g.length d]) :: (g1, .cells [.int .i64 l.first, .int .i64 l.step, .int .i64 l.span, .int .i64 l.press, .slice A LL.length c]) :: Io)) ?_ ?_
 ·exact ⟨_, 0, [], none, 0, [], rfl, (Nat.zero_le _), rfl, rfl, (Sl.nil _ _), T.pick [4, 3, 2, 1, 0] rfl, M.mask [true, true] rfl⟩
 clear T M
 rintro mz ac wc ⟨k, OL, A3, c3, Io, hmm1, hk, hO, hOl, hsl, T, M⟩
 refine wp_seq ?_
 refine wp_region_lit ?_
 refine lq T (rn_lss rfl (T.ev 4 rfl) (T.ev 3 rfl)) ?_; clear T ac; intro ac T
 refine wpList_nil ?_
 refine nm_then ?_
 refine wp_seq ?_
 refine wp_if (T.ev 0 rfl) ?_ ?_
 ·intro h2
  have gd := gS.dues k (by omega)
  simp only [dueO, decide_eq_true_eq] at gd
  refine wp_skip ?_
  refine nm_then ?_
  refine wp_seq ?_
  refine wp_block ?_
  refine wp_seq ?_
  refine wp_region_lit ?_
  refine lq T (rn_move rfl (T.ev 5 rfl)) ?_; clear T ac; intro ac T
  refine lq T (rn_assign rfl (T.ev 0 rfl)) ?_; clear T ac; intro ac T
  refine wpList_nil ?_
  replace T := T.pick [0, 3, 4, 5, 6, 7] rfl
  refine nm_then ?_
  refine g_start2 M (M.perm [0, 1] rfl rfl) 14 (by kernel_rfl) rfl (by kernel_rfl) ?_
  clear M; intro wc M
  refine gq T 0 1 rfl (fun _ _ _ _ _ => (rn_move rfl (T.ev 3 rfl))) ?_; clear T ac; intro ac T
  refine gq (v := (.pointer (some ⟨g1, 0, none⟩))) T 1 3 rfl (fun _ _ _ _ _ => (rn_fieldAddr (off := 0) rfl (T.ev 2 rfl) (fun _ _ _ => by kernel_rfl))) ?_; clear T ac; intro ac T
  refine gq T 2 7 rfl (fun B w' hD hl hS => (rn_rowO (Mem.nth (show Mem w noEx w' _ from hS) 1 rfl) rfl (T.ev 0 rfl) rfl)) ?_; clear T ac; intro ac T
  refine gq (v := (.pointer (some ⟨g1, 0, none⟩))) T 3 15 rfl (fun _ _ _ _ _ => (rn_fieldAddr (off := 0) rfl (T.ev 4 rfl) (fun _ _ _ => by kernel_rfl))) ?_; clear T ac; intro ac T
  refine gq T 4 31 rfl (fun B w' hD hl hS => (rn_rowO (Mem.nth (show Mem w noEx w' _ from hS) 1 rfl) rfl (T.ev 0 rfl) rfl)) ?_; clear T ac; intro ac T
  refine gq T 5 63 rfl (fun _ _ _ _ _ => (rn_move rfl (T.ev 5 rfl))) ?_; clear T ac; intro ac T
  refine gq T 7 191 rfl (fun B w' hD hl hS => (rn_rowO (Mem.nth (show Mem w noEx w' _ from hS) 0 rfl) rfl (T.ev 8 rfl) rfl)) ?_; clear T ac; intro ac T
  refine gq T 8 447 rfl (fun _ _ _ _ _ => (rn_move rfl (T.ev 7 rfl))) ?_; clear T ac; intro ac T
  refine gw 6 511 ?_; intro K hK
  refine ow_call (first := []) (cap := []) T rfl rfl rfl rfl evf (.cons (T.ev 3 rfl) (.cons (T.ev 2 rfl) .nil)) Try.func56 rfl rfl ?_
  refine Calls.mono (vdue_any l (k : Int) _ (by (try dsimp only); omega) (by (try dsimp only); omega) (by (try dsimp only); omega)) ?_
  clear T
  rintro e wc ⟨rfl, hb⟩
  intro ac T
  replace M := M.call hb; clear hb
  refine sh_out hK _ _ (M.perm [0, 1] rfl rfl) ?_; clear hK K
  refine gw 9 1023 ?_; intro K hK
  refine ow_call (first := []) (cap := []) T rfl rfl rfl rfl evf (.cons (T.ev 2 rfl) (.cons (T.ev 1 rfl) .nil)) Try.func57 rfl rfl ?_
  refine Calls.mono (voices_any l A c LL G d g k _ (SA.rd M (List.nil_sublist _)) (fun x hx => M.rd (hE x hx) (Nat.le_refl _)) (by omega) nE (SG.rd M (List.nil_sublist _)) (by omega) hgL (by intro x hx; rw [hNL x hx]; omega)) ?_
  clear T
  rintro e wc ⟨Au4, cu4, Iu4, rfl, SVu4, N⟩
  intro ac T
  obtain ⟨bu4, ou4, SVu4⟩ := SVu4
  obtain ⟨lvu4, hlvu4⟩ : ∃ q, q = voicesP (rowsOf LL) g k := ⟨_, rfl⟩
  rw [← hlvu4] at SVu4
  have Su4 := SVu4 w noEx
  have nvu4 : lvu4.length = g.length := by rw [hlvu4]; simp [voicesP]
  have gvu4 : ∀ z ∈ lvu4, z.good := by rw [hlvu4]; exact voicesP_good gS gR (by omega)
  replace M := (M.join N).swapI
  clear N
  replace M : Mem w noEx wc ((g2, .cells [.int .i64 l.first, .int .i64 l.step, .int .i64 l.span, .int .i64 l.press, .slice A LL.length c, .slice G g.length d]) :: (g1, .cells [.int .i64 l.first, .int .i64 l.step, .int .i64 l.span, .int .i64 l.press, .slice A LL.length c]) :: (Iu4 ++ Io)) := Mem.spin [(g2, .cells [.int .i64 l.first, .int .i64 l.step, .int .i64 l.span, .int .i64 l.press, .slice A LL.length c, .slice G g.length d]), (g1, .cells [.int .i64 l.first, .int .i64 l.step, .int .i64 l.span, .int .i64 l.press, .slice A LL.length c])] Io Iu4 M
  rw [← hlvu4] at T
  refine sh_out hK _ _ (M.perm [0, 1] rfl rfl) ?_; clear hK K
  refine gw 10 2047 ?_; intro K hK
  refine ow_call (first := []) (cap := []) T rfl rfl rfl rfl evf (.cons (T.ev 7 rfl) (.cons (T.ev 1 rfl) (.cons (T.ev 0 rfl) .nil))) Try.func55 rfl rfl ?_
  refine Calls.mono (keeps_any l (l.first + l.step * (k : Int)) _ _ _ lvu4 _ (by (try dsimp only); omega) (by (try dsimp only); omega) (by (try dsimp only); omega) gvu4 (Su4.rd M (.cons _ (.cons _ (subL (List.Sublist.refl _))))) (by first | omega | (simp only [List.length_cons, List.length_nil]; omega))) ?_
  clear T
  rintro e wc ⟨rfl, hb⟩
  intro ac T
  replace M := M.call hb; clear hb
  refine sh_out hK _ _ (M.perm [0, 1] rfl rfl) ?_; clear hK K
  refine gw 11 4095 ?_; intro K hK
  refine ow_bs (e := 3) [.int .i64 (keepsP l (l.first + l.step * (k : Int)) lvu4)] M T rfl rfl rfl rfl (.cons (T.ev 0 rfl) .nil) (fun _ => by kernel_rfl) ?_; clear M T; intro g3 wc ac M T
  refine sh_out hK _ _ (M.perm [1, 2] rfl rfl) ?_; clear hK K
  refine gw 12 8191 ?_; intro K hK
  refine ow_app (((g3, .cells [.int .i64 (keepsP l (l.first + l.step * (k : Int)) lvu4)]) :: (g2, .cells [.int .i64 l.first, .int .i64 l.step, .int .i64 l.span, .int .i64 l.press, .slice A LL.length c, .slice G g.length d]) :: (g1, .cells [.int .i64 l.first, .int .i64 l.step, .int .i64 l.span, .int .i64 l.press, .slice A LL.length c]) :: Iu4)) Try.info3 hsl M (by first | rfl | simp) T rfl rfl rfl rfl Try.underlying22 rfl rfl rfl (by omega) (T.ev 11 rfl) (T.ev 0 rfl) (nthE_mem (i := 0) rfl) rfl rfl ?_; clear M T; intro ga1 cga1 wc ac M T
  refine sh_out hK _ _ (M.perm [2, 3] rfl rfl) ?_; clear hK K
  refine g_q (v := (.slice (some ⟨ga1, 0, none⟩) (OL.length + 1) cga1)) (T := T.pick [0, 1, 2, 3, 4, 5, 6, 7, 8, 9, 10, 11, 12, 13, 14, 15, 17, 18] rfl) (i := 13) rfl (by kernel_rfl) (by kernel_rfl : (pbits 14 8191).setIfInBounds 13 true = pbits 14 16383) si_U (fun _ _ _ h => h) rfl rfl rfl rfl (fun _ _ _ _ _ => (rn_assign rfl (T.ev 0 rfl))) ?_; clear T ac; intro ac T
  refine g_done (by kernel_rfl) ?_
  replace T := T.pick [0, 15, 16, 17, 18] rfl
  replace M := M.mask [true, false, true, true] rfl
  refine nm_blk ?_
  refine nm_then ?_
  refine wp_region_lit ?_
  refine lq T (rn_add rfl (T.ev 4 rfl) evc (by omega)) ?_; clear T ac; intro ac T
  refine l_q (v := (.int .i64 ((k : Int) + 1))) (T.pick [0, 1, 2, 3, 4] rfl) rfl rfl rfl rfl (rn_move rfl (T.ev 0 rfl)) ?_; clear T ac; intro ac T
  refine wpList_nil ?_
  replace T := T.pick [0, 2, 3, 4, 5] rfl
  refine nm_then ?_
  have e9 : OL.length + 1 = (OL ++ [(keepsP l (l.first + l.step * (k : Int)) lvu4)]).length := by simp
  have e8 : ((ic OL) ++ [.int .i64 (keepsP l (l.first + l.step * (k : Int)) lvu4)]) = ic (OL ++ [(keepsP l (l.first + l.step * (k : Int)) lvu4)]) := by rw [← ic_snoc]
  rw [e9, e8] at M
  rw [e9] at T
  clear e9 e8
  exact ⟨_, by omega, k + 1, (OL ++ [(keepsP l (l.first + l.step * (k : Int)) lvu4)]), _, _, [(ga1, .row 3 1 (OL ++ [(keepsP l (l.first + l.step * (k : Int)) lvu4)]).length (ic (OL ++ [(keepsP l (l.first + l.step * (k : Int)) lvu4)])) cga1)], rfl, (by omega), (by rw [tremP_take (by omega), ← hO, hlvu4]), (by simp [hOl]), (Sl.row _ _ _ _ _ _), T.pick [2, 3, 1, 4, 0] rfl, ((M.permT [1, 2, 0] 3 rfl rfl rfl rfl).sub (List.sublist_append_left ([(g2, .cells [.int .i64 l.first, .int .i64 l.step, .int .i64 l.span, .int .i64 l.press, .slice A LL.length c, .slice G g.length d]), (g1, .cells [.int .i64 l.first, .int .i64 l.step, .int .i64 l.span, .int .i64 l.press, .slice A LL.length c]), (ga1, .row 3 1 (OL ++ [(keepsP l (l.first + l.step * (k : Int)) lvu4)]).length (ic (OL ++ [(keepsP l (l.first + l.step * (k : Int)) lvu4)])) cga1)] : List (Nat × BA)) _))⟩
 intro h2
 rw [List.take_of_length_le (by rw [tremP_length]; omega)] at hO
 refine wp_exit ?_
 refine ex_then ?_
 refine ex_then ?_
 refine ex_hit ?_
 refine nm_then ?_
 refine wp_seq ?_
 refine wp_region_lit ?_
 refine lq T (rn_move rfl (T.ev 3 rfl)) ?_; clear T ac; intro ac T
 refine lq T (rn_assign rfl (T.ev 0 rfl)) ?_; clear T ac; intro ac T
 refine lq T (rn_assign rfl evc) ?_; clear T ac; intro ac T
 refine wpList_nil ?_
 replace T := T.pick [0, 1] rfl
 replace M := M.mask [false, false] rfl
 refine nm_then ?_
 refine wp_ret ?_
 refine rt_2 T rfl (T.ev 1 rfl) (T.ev 0 rfl) ?_
 have e9 : tremE l (rowsOf LL) g = (OL, 0) := by unfold tremE; rw [if_pos (by simpa using h1), hO]
 rw [e9]
 obtain ⟨b9, o9, h9⟩ := hsl.spV (by rw [ic_length]; omega)
 replace M := M.mask [] rfl
 exact ⟨A3, c3, Io, rfl, hsl.capLe M (List.Sublist.refl _), ⟨b9, o9, h9⟩, M⟩
theorem TremC_reg (l : Lw) (A : Option Addr) (c : Nat) (LL : List LS) (G : Option Addr) (d : Nat) (g : List Int) (w : World) (hS : SGood l (rowsOf LL)) (ha : Asc (rowsOf LL).length g) (hA : Rd w w.heap.size 1 A LL.length (lsC LL)) (hE : ElsS w LL) (hG : Rd w w.heap.size 1 G g.length (ic g)) :
   Calls Try.prog 15 #[.agg #[.int .i64 l.first, .int .i64 l.step, .int .i64 l.span, .int .i64 l.press, .slice A LL.length c], .slice G g.length d] w fun e w' => ∃ A' c' I, e = .returned (.tuple #[.slice A' (tremP l (rowsOf LL) g).length c', .int .i64 0]) ∧ (tremP l (rowsOf LL) g).length ≤ c' ∧ (∃ b o, ∀ (w : World) (ex : Nat → Prop), Sp w ex I A' (tremP l (rowsOf LL) g).length 1 b o (ic (tremP l (rowsOf LL) g))) ∧ Mem w noEx w' I := by
 obtain ⟨h1, h2, h3⟩ := scale_len hS ha
 refine Calls.mono (TremCap_any l A c LL G d g w hA hE (by omega) h2 hG (by omega)) fun e w' h => ?_
 have e9 : tremE l (rowsOf LL) g = (tremP l (rowsOf LL) g, 0) := by unfold tremE; rw [if_pos (ha.check hS)]
 rw [e9] at h
 obtain ⟨A', c', I, rfl, h4, h5, h6⟩ := h
 exact ⟨A', c', I, rfl, h4, h5, h6⟩
set_option maxRecDepth 100000 in
set_option maxHeartbeats 4000000 in
theorem VoiceSpan_any (D : Option Addr) (n d : Nat) (l : List Int) (w : World) (hl : Rd w w.heap.size 1 D n (ic l)) (hm : n ≤ 9223372036854775807) :
   Calls Try.prog 10 #[.slice D n d] w fun e w' => e = .returned (.bool true) ∧ Below w.heap.size w w' := by
 have hll := hl.len1
 obtain ⟨bI, oI, SI⟩ := Sp.old hl
 refine px_enter noEx Try.func10 rfl 177 rfl [.slice D n d] rfl rfl (Mem.init w _) ?_
 intro ac wc T M
 refine wp_seq ?_
 refine wp_region_lit ?_
 refine lq T (rn_assign rfl evc) ?_; clear T ac; intro ac T
 refine wpList_nil ?_
 replace T := T.pick [1] rfl
 refine nm_then ?_
 refine wp_seq ?_
 refine wp_region_lit ?_
 refine lq T (rn_move rfl (T.ev 0 rfl)) ?_; clear T ac; intro ac T
 refine l_w rfl ?_; intro K hK
 refine ow_call (first := []) (cap := []) T rfl rfl rfl rfl evf (.cons (T.ev 0 rfl) .nil) Try.func12 rfl rfl ?_
 refine Calls.mono (newPot_any _ _ _ l _ (SI.rd M (List.nil_sublist _)) (by omega)) ?_
 clear T
 rintro e wc ⟨bpu1, su1, hsu1, rfl, N⟩
 intro ac T
 replace M := M.join N; clear N
 replace M := M.mask [true] rfl
 refine sh_out hK _ _ ?_; clear hK K
 refine lq T (rn_assign rfl (T.ev 0 rfl)) ?_; clear T ac; intro ac T
 refine wpList_nil ?_
 replace T := T.pick [0] rfl
 refine nm_then ?_
 refine wp_seq ?_
 refine wp_region_lit ?_
 refine lq T (rn_move rfl (T.ev 0 rfl)) ?_; clear T ac; intro ac T
 refine l_w rfl ?_; intro K hK
 refine ow_call (first := []) (cap := []) T rfl rfl rfl rfl evf (.cons (T.ev 0 rfl) (.cons evc (.cons evc (.cons evc .nil)))) Try.func13 rfl rfl ?_
 refine Calls.mono (scaleOf_any _ bpu1 4 4 1 _ (by omega) (by omega) (by omega) (M.nth 0 rfl) hsu1) ?_
 clear T
 rintro e wc ⟨lu2, LLu2, Au2, cu2, su2, Iu2, rfl, hSu2, hsu2, Su2, Eu2, N⟩
 intro ac T
 obtain ⟨bu2, ou2, Su2⟩ := Su2
 replace Su2 := Su2 w noEx
 replace M := (M.joinW .head N).swapI
 clear N
 replace M : Mem w noEx wc ((bpu1, .cells [.int .u64 su2]) :: Iu2) := M
 have hlenu2 := hSu2.len
 rw [show (rowsOf LLu2).length = LLu2.length by simp] at hlenu2
 have hNu2 := hSu2.notes
 refine sh_out hK _ _ ?_; clear hK K
 refine l_w rfl ?_; intro K hK
 refine ow_al M T rfl rfl rfl rfl ?_; clear M T; intro g1 wc ac M T
 refine sh_out hK _ _ ?_; clear hK K
 refine l_w rfl ?_; intro K hK
 refine ow_stO M T rfl rfl (T.ev 0 rfl) (T.ev 1 rfl) rfl .head rfl (by simp) rfl (by kernel_rfl) ?_; clear M T; intro wc ac M T
 refine sh_out hK _ _ ?_; clear hK K
 refine wpList_nil ?_
 replace T := T.pick [0, 3] rfl
 refine nm_then ?_
 refine wp_seq ?_
 refine wp_region_lit ?_
 refine lq T (rn_move rfl (T.ev 1 rfl)) ?_; clear T ac; intro ac T
 refine lq (v := (.pointer (some ⟨g1, 4, none⟩))) T (rn_fieldAddr (off := 4) rfl (T.ev 1 rfl) (fun _ _ _ => by kernel_rfl)) ?_; clear T ac; intro ac T
 refine lq T (rn_one (Mem.nth M 0 rfl) rfl (T.ev 0 rfl) rfl) ?_; clear T ac; intro ac T
 refine lq T (rn_lenS rfl Try.underlying27 (T.ev 0 rfl)) ?_; clear T ac; intro ac T
 refine l_w rfl ?_; intro K hK
 refine ow_call (first := []) (cap := []) T rfl rfl rfl rfl evf (.cons (T.ev 3 rfl) (.cons (T.ev 0 rfl) .nil)) Try.func14 rfl rfl ?_
 refine Calls.mono (pick_any _ bpu1 ((LLu2.length : Nat) : Int) _ (by omega) (M.nth 1 rfl) hsu2) ?_
 clear T
 rintro e wc ⟨gu3, Au3, cu3, su3, Iu3, rfl, hau3, hsu3, hcu3, Su3, N⟩
 intro ac T
 obtain ⟨bu3, ou3, Su3⟩ := Su3
 replace Su3 := Su3 w noEx
 replace M := (M.joinW (.tail .head) N).swapI
 clear N
 replace M : Mem w noEx wc ((g1, .cells [.int .i64 lu2.first, .int .i64 lu2.step, .int .i64 lu2.span, .int .i64 lu2.press, .slice Au2 LLu2.length cu2]) :: (bpu1, .cells [.int .u64 su3]) :: (Iu2 ++ Iu3)) := M
 replace hau3 : Asc ((rowsOf LLu2).length : Nat) gu3 := by rw [show (rowsOf LLu2).length = LLu2.length by simp]; exact hau3
 have hglu3 := hau3.short
 rw [show (rowsOf LLu2).length = LLu2.length by simp] at hglu3
 refine sh_out hK _ _ ?_; clear hK K
 refine lq T (rn_assign rfl (T.ev 0 rfl)) ?_; clear T ac; intro ac T
 refine wpList_nil ?_
 replace T := T.pick [0, 6] rfl
 replace M := M.mask [true, false] rfl
 refine nm_then ?_
 refine wp_seq ?_
 refine wp_region_lit ?_
 refine lq T (rn_rowO (Mem.nth M 0 rfl) rfl (T.ev 1 rfl) rfl) ?_; clear T ac; intro ac T
 refine lq T (rn_move rfl (T.ev 1 rfl)) ?_; clear T ac; intro ac T
 refine l_w rfl ?_; intro K hK
 refine ow_call (first := []) (cap := []) T rfl rfl rfl rfl evf (.cons (T.ev 1 rfl) (.cons (T.ev 0 rfl) .nil)) Try.func45 rfl rfl ?_
 refine Calls.mono (Span_reg lu2 _ _ LLu2 _ _ gu3 _ hSu2 hau3 (Su2.rd M (.cons _ (subL (List.Sublist.refl _)))) (fun x hx => by obtain ⟨b9, o9, h9⟩ := Eu2 x hx; exact (h9 w noEx).rd M (.cons _ (subL (List.Sublist.refl _)))) (Su3.rd M (.cons _ (List.sublist_append_right _ _)))) ?_
 clear T
 rintro e wc ⟨rfl, hb⟩
 intro ac T
 replace M := M.call hb; clear hb
 obtain ⟨sp, hsp⟩ : ∃ q, q = spanL lu2 (prsL (rowsOf LLu2) gu3) := ⟨_, rfl⟩
 rw [← hsp] at T
 have hsp0 : 0 ≤ sp := by rw [hsp]; exact (spanL_nonneg _ _).1
 have hspm : sp ≤ 3000 := by rw [hsp]; exact (span_bd hSu2 (fun r hr => hau3.2 r hr) (fun x hx => hx)).2
 refine sh_out hK _ _ ?_; clear hK K
 refine lq T (rn_move rfl (T.ev 0 rfl)) ?_; clear T ac; intro ac T
 refine lq T (rn_extract rfl (T.ev 0 rfl) rfl) ?_; clear T ac; intro ac T
 refine lq T (rn_extract rfl (T.ev 1 rfl) rfl) ?_; clear T ac; intro ac T
 refine lq T (rn_assign rfl (T.ev 1 rfl)) ?_; clear T ac; intro ac T
 refine lq T (rn_assign rfl (T.ev 1 rfl)) ?_; clear T ac; intro ac T
 refine wpList_nil ?_
 replace T := T.pick [0, 1, 8, 9] rfl
 refine nm_then ?_
 refine wp_seq ?_
 refine wp_seq ?_
 refine wp_region_lit ?_
 refine lq T (rn_move rfl (T.ev 0 rfl)) ?_; clear T ac; intro ac T
 refine lq (v := (.bool false)) T (rn_neqof (rn_neq rfl (T.ev 0 rfl) evc) (by simp)) ?_; clear T ac; intro ac T
 refine lq T (rn_move rfl (T.ev 0 rfl)) ?_; clear T ac; intro ac T
 refine lw T (wanted_yes rfl rfl (T.ev 0 rfl) rfl) (rn_move rfl (T.ev 4 rfl)) ?_; clear T ac; intro ac T
 refine lw T (wanted_yes rfl rfl (T.ev 1 rfl) rfl) (rn_lss rfl (T.ev 0 rfl) evc) ?_; clear T ac; intro ac T
 refine lq T (rn_pick0 rfl (T.ev 2 rfl) rfl (T.ev 0 rfl)) ?_; clear T ac; intro ac T
 refine wpList_nil ?_
 replace T := T.pick [0, 7, 8, 9] rfl
 refine nm_then ?_
 refine wp_cond_false ((T.ev 0 rfl).trans (congrArg Value.bool (decide_eq_false (by omega)))) ?_
 refine wp_skip ?_
 refine nm_then ?_
 refine wp_seq ?_
 refine wp_seq ?_
 refine wp_region_lit ?_
 refine lq T (rn_move rfl (T.ev 1 rfl)) ?_; clear T ac; intro ac T
 refine lq T (rn_leq rfl (T.ev 0 rfl) evc) ?_; clear T ac; intro ac T
 refine wpList_nil ?_
 replace T := T.pick [0, 3, 4, 5] rfl
 refine nm_then ?_
 refine wp_if (T.ev 0 rfl) ?_ ?_
 ·intro h1
  refine wp_seq ?_
  refine wp_region_lit ?_
  refine lq T (rn_move rfl (T.ev 1 rfl)) ?_; clear T ac; intro ac T
  refine lq (v := (.pointer (some ⟨g1, 0, none⟩))) T (rn_fieldAddr (off := 0) rfl (T.ev 4 rfl) (fun _ _ _ => by kernel_rfl)) ?_; clear T ac; intro ac T
  refine lq (v := (.pointer (some ⟨g1, 2, none⟩))) T (rn_fieldAddr (off := 2) rfl (T.ev 0 rfl) (fun _ _ _ => by kernel_rfl)) ?_; clear T ac; intro ac T
  refine l_w rfl ?_; intro K hK
  refine ow_stO M T rfl rfl (T.ev 0 rfl) (T.ev 2 rfl) rfl .head rfl (by simp) rfl (by kernel_rfl) ?_; clear M T; intro wc ac M T
  refine sh_out hK _ _ ?_; clear hK K
  refine wpList_nil ?_
  replace T := T.pick [4, 5, 6] rfl
  refine nm_then ?_
  refine wp_seq ?_
  refine wp_region_lit ?_
  refine lq T (rn_rowO (Mem.nth M 0 rfl) rfl (T.ev 2 rfl) rfl) ?_; clear T ac; intro ac T
  refine lq T (rn_move rfl (T.ev 2 rfl)) ?_; clear T ac; intro ac T
  refine l_w rfl ?_; intro K hK
  refine ow_call (first := []) (cap := []) T rfl rfl rfl rfl evf (.cons (T.ev 1 rfl) (.cons (T.ev 0 rfl) .nil)) Try.func15 rfl rfl ?_
  refine Calls.mono (TremC_reg (⟨lu2.first, lu2.step, sp, lu2.press⟩ : Lw) _ _ LLu2 _ _ gu3 _ (hSu2.span (by omega)) hau3 (Su2.rd M (.cons _ (subL (List.Sublist.refl _)))) (fun x hx => by obtain ⟨b9, o9, h9⟩ := Eu2 x hx; exact (h9 w noEx).rd M (.cons _ (subL (List.Sublist.refl _)))) (Su3.rd M (.cons _ (List.sublist_append_right _ _)))) ?_
  clear T
  rintro e wc ⟨Au5, cu5, Iu5, rfl, hcpu5, Su5, N⟩
  intro ac T
  obtain ⟨bu5, ou5, Su5⟩ := Su5
  replace Su5 := Su5 w noEx
  obtain ⟨tmu5, htmu5⟩ : ∃ q, q = tremP (⟨lu2.first, lu2.step, sp, lu2.press⟩ : Lw) (rowsOf LLu2) gu3 := ⟨_, rfl⟩
  rw [← htmu5] at Su5
  have ntmu5 : tmu5.length = notesP (rowsOf LLu2) := by rw [htmu5, tremP_length]
  replace M := (M.join N).swapI
  clear N
  replace M : Mem w noEx wc ((g1, .cells [.int .i64 lu2.first, .int .i64 lu2.step, .int .i64 sp, .int .i64 lu2.press, .slice Au2 LLu2.length cu2]) :: (Iu2 ++ Iu3 ++ Iu5)) := M
  rw [← htmu5] at hcpu5
  rw [← htmu5] at T
  refine sh_out hK _ _ ?_; clear hK K
  refine lq T (rn_move rfl (T.ev 0 rfl)) ?_; clear T ac; intro ac T
  refine lq T (rn_extract rfl (T.ev 0 rfl) rfl) ?_; clear T ac; intro ac T
  refine lq T (rn_extract rfl (T.ev 1 rfl) rfl) ?_; clear T ac; intro ac T
  refine lq T (rn_assign rfl (T.ev 1 rfl)) ?_; clear T ac; intro ac T
  refine lq T (rn_assign rfl (T.ev 1 rfl)) ?_; clear T ac; intro ac T
  refine wpList_nil ?_
  replace T := T.pick [0, 1, 8, 9, 10] rfl
  refine nm_then ?_
  refine wp_seq ?_
  refine wp_region_lit ?_
  refine lq T (rn_rowO (Mem.nth M 0 rfl) rfl (T.ev 4 rfl) rfl) ?_; clear T ac; intro ac T
  refine lq T (rn_move rfl (T.ev 4 rfl)) ?_; clear T ac; intro ac T
  refine l_w rfl ?_; intro K hK
  refine ow_call (first := []) (cap := []) T rfl rfl rfl rfl evf (.cons (T.ev 1 rfl) (.cons (T.ev 0 rfl) .nil)) Try.func46 rfl rfl ?_
  refine Calls.mono (Bad_reg (⟨lu2.first, lu2.step, sp, lu2.press⟩ : Lw) _ _ LLu2 _ _ gu3 _ (hSu2.span (by omega)) hau3 (Su2.rd M (.cons _ (subL (subL (List.Sublist.refl _))))) (fun x hx => by obtain ⟨b9, o9, h9⟩ := Eu2 x hx; exact (h9 w noEx).rd M (.cons _ (subL (subL (List.Sublist.refl _))))) (Su3.rd M (.cons _ (subL (List.sublist_append_right _ _)))) (span_ok hsp).2) ?_
  clear T
  rintro e wc ⟨rfl, hb⟩
  intro ac T
  replace M := M.call hb; clear hb
  dsimp only [badV] at T
  refine sh_out hK _ _ ?_; clear hK K
  refine lq T (rn_move rfl (T.ev 0 rfl)) ?_; clear T ac; intro ac T
  refine lq T (rn_extract rfl (T.ev 0 rfl) rfl) ?_; clear T ac; intro ac T
  refine lq T (rn_extract rfl (T.ev 1 rfl) rfl) ?_; clear T ac; intro ac T
  refine lq T (rn_extract rfl (T.ev 2 rfl) rfl) ?_; clear T ac; intro ac T
  refine lq T (rn_assign rfl (T.ev 2 rfl)) ?_; clear T ac; intro ac T
  refine lq T (rn_assign rfl (T.ev 2 rfl)) ?_; clear T ac; intro ac T
  refine lq T (rn_assign rfl (T.ev 2 rfl)) ?_; clear T ac; intro ac T
  refine wpList_nil ?_
  replace T := T.pick [0, 10, 11, 12, 13, 14] rfl
  refine nm_then ?_
  refine wp_seq ?_
  refine wp_region_lit ?_
  refine lq T (rn_move rfl (T.ev 1 rfl)) ?_; clear T ac; intro ac T
  refine lq (v := (.bool false)) T (rn_neqof (rn_neq rfl (T.ev 0 rfl) evc) (by simp)) ?_; clear T ac; intro ac T
  refine lq T (rn_move rfl (T.ev 0 rfl)) ?_; clear T ac; intro ac T
  refine lw T (wanted_yes rfl rfl (T.ev 0 rfl) rfl) (rn_move rfl (T.ev 3 rfl)) ?_; clear T ac; intro ac T
  refine lw (v := (.bool false)) T (wanted_yes rfl rfl (T.ev 1 rfl) rfl) (rn_neqof (rn_neq rfl (T.ev 0 rfl) evc) (by simp)) ?_; clear T ac; intro ac T
  refine lq T (rn_pick0 rfl (T.ev 2 rfl) rfl (T.ev 0 rfl)) ?_; clear T ac; intro ac T
  refine lq T (rn_move rfl (T.ev 0 rfl)) ?_; clear T ac; intro ac T
  refine lw T (wanted_yes rfl rfl (T.ev 0 rfl) rfl) (rn_move rfl (T.ev 9 rfl)) ?_; clear T ac; intro ac T
  refine l_w (wanted_yes rfl rfl (T.ev 1 rfl) rfl) ?_; intro K hK
  refine ow_call (first := []) (cap := []) T rfl rfl rfl rfl evf (.cons (T.ev 0 rfl) (.cons evc .nil)) Try.func16 rfl rfl ?_
  refine Calls.mono (only_true _ _ _ tmu5 1 _ (Su5.rd M (.cons _ (List.sublist_append_right _ _))) (by omega) (by rw [htmu5]; exact (span_ok hsp).1)) ?_
  clear T
  rintro e wc ⟨rfl, hb⟩
  intro ac T
  replace M := M.call hb; clear hb
  refine sh_out hK _ _ ?_; clear hK K
  refine lw (v := (.bool false)) T (wanted_yes rfl rfl (T.ev 2 rfl) rfl) (rn_neqof (rn_not rfl (T.ev 0 rfl)) (by simp)) ?_; clear T ac; intro ac T
  refine lq T (rn_pick0 rfl (T.ev 3 rfl) rfl (T.ev 0 rfl)) ?_; clear T ac; intro ac T
  refine wpList_nil ?_
  replace T := T.pick [0, 14, 15, 16] rfl
  refine nm_then ?_
  refine wp_cond_false (T.ev 0 rfl) ?_
  refine wp_skip ?_
  refine nm_then ?_
  refine wp_seq ?_
  refine wp_region_lit ?_
  refine lq T (rn_move rfl (T.ev 1 rfl)) ?_; clear T ac; intro ac T
  refine lq T (rn_sub rfl (T.ev 0 rfl) evc (by omega)) ?_; clear T ac; intro ac T
  refine lq T (rn_min2 rfl (T.ev 0 rfl) evc) ?_; clear T ac; intro ac T
  refine lq (v := (.pointer (some ⟨g1, 0, none⟩))) T (rn_fieldAddr (off := 0) rfl (T.ev 6 rfl) (fun _ _ _ => by kernel_rfl)) ?_; clear T ac; intro ac T
  refine lq (v := (.pointer (some ⟨g1, 2, none⟩))) T (rn_fieldAddr (off := 2) rfl (T.ev 0 rfl) (fun _ _ _ => by kernel_rfl)) ?_; clear T ac; intro ac T
  refine l_w rfl ?_; intro K hK
  refine ow_stO M T rfl rfl (T.ev 0 rfl) (T.ev 2 rfl) rfl .head rfl (by simp) rfl (by kernel_rfl) ?_; clear M T; intro wc ac M T
  refine sh_out hK _ _ ?_; clear hK K
  refine wpList_nil ?_
  replace T := T.pick [6, 7, 8] rfl
  refine nm_then ?_
  refine wp_seq ?_
  refine wp_seq ?_
  refine wp_region_lit ?_
  refine lq T (rn_move rfl (T.ev 0 rfl)) ?_; clear T ac; intro ac T
  refine lq T (rn_eql rfl (T.ev 0 rfl) evc) ?_; clear T ac; intro ac T
  refine wpList_nil ?_
  replace T := T.pick [0, 3, 4] rfl
  refine nm_then ?_
  refine wp_if (T.ev 0 rfl) ?_ ?_
  ·intro h2
   refine wp_seq ?_
   refine wp_region_lit ?_
   refine l_w rfl ?_; intro K hK
   refine ow_call (first := []) (cap := []) T rfl rfl rfl rfl evf .nil Try.func17 rfl rfl ?_
   refine Calls.mono (trembling_any _) ?_
   clear T
   rintro e wc ⟨rfl, hb⟩
   intro ac T
   replace M := M.call hb; clear hb
   refine sh_out hK _ _ ?_; clear hK K
   refine lq T (rn_assign rfl (T.ev 0 rfl)) ?_; clear T ac; intro ac T
   refine wpList_nil ?_
   replace T := T.pick [0] rfl
   replace M := M.mask [false] rfl
   refine nm_then ?_
   refine wp_ret ?_
   refine rt_then ?_
   refine rt_1 T rfl (T.ev 0 rfl) ?_
   exact ⟨rfl, M.below⟩
  intro h2
  refine wp_skip ?_
  refine nm_then ?_
  refine wp_seq ?_
  refine wp_region_lit ?_
  refine lq T (rn_rowO (Mem.nth M 0 rfl) rfl (T.ev 2 rfl) rfl) ?_; clear T ac; intro ac T
  refine lq T (rn_move rfl (T.ev 2 rfl)) ?_; clear T ac; intro ac T
  refine l_w rfl ?_; intro K hK
  refine ow_call (first := []) (cap := []) T rfl rfl rfl rfl evf (.cons (T.ev 1 rfl) (.cons (T.ev 0 rfl) .nil)) Try.func15 rfl rfl ?_
  refine Calls.mono (TremC_reg (⟨lu2.first, lu2.step, (min (sp - 1) 20), lu2.press⟩ : Lw) _ _ LLu2 _ _ gu3 _ (hSu2.span (by omega)) hau3 (Su2.rd M (.cons _ (subL (subL (List.Sublist.refl _))))) (fun x hx => by obtain ⟨b9, o9, h9⟩ := Eu2 x hx; exact (h9 w noEx).rd M (.cons _ (subL (subL (List.Sublist.refl _))))) (Su3.rd M (.cons _ (subL (List.sublist_append_right _ _))))) ?_
  clear T
  rintro e wc ⟨Au9, cu9, Iu9, rfl, hcpu9, Su9, N⟩
  intro ac T
  obtain ⟨bu9, ou9, Su9⟩ := Su9
  replace Su9 := Su9 w noEx
  obtain ⟨tmu9, htmu9⟩ : ∃ q, q = tremP (⟨lu2.first, lu2.step, (min (sp - 1) 20), lu2.press⟩ : Lw) (rowsOf LLu2) gu3 := ⟨_, rfl⟩
  rw [← htmu9] at Su9
  have ntmu9 : tmu9.length = notesP (rowsOf LLu2) := by rw [htmu9, tremP_length]
  replace M := (M.join N).swapI
  clear N
  replace M : Mem w noEx wc ((g1, .cells [.int .i64 lu2.first, .int .i64 lu2.step, .int .i64 (min (sp - 1) 20), .int .i64 lu2.press, .slice Au2 LLu2.length cu2]) :: (Iu2 ++ Iu3 ++ Iu5 ++ Iu9)) := M
  rw [← htmu9] at hcpu9
  rw [← htmu9] at T
  refine sh_out hK _ _ ?_; clear hK K
  refine lq T (rn_move rfl (T.ev 0 rfl)) ?_; clear T ac; intro ac T
  refine lq T (rn_extract rfl (T.ev 0 rfl) rfl) ?_; clear T ac; intro ac T
  refine lq T (rn_extract rfl (T.ev 1 rfl) rfl) ?_; clear T ac; intro ac T
  refine lq T (rn_assign rfl (T.ev 1 rfl)) ?_; clear T ac; intro ac T
  refine lq T (rn_assign rfl (T.ev 1 rfl)) ?_; clear T ac; intro ac T
  refine wpList_nil ?_
  replace T := T.pick [0, 1, 9, 10] rfl
  refine nm_then ?_
  refine wp_seq ?_
  refine wp_region_lit ?_
  refine lq T (rn_rowO (Mem.nth M 0 rfl) rfl (T.ev 3 rfl) rfl) ?_; clear T ac; intro ac T
  refine lq T (rn_move rfl (T.ev 3 rfl)) ?_; clear T ac; intro ac T
  refine l_w rfl ?_; intro K hK
  obtain ⟨k9, i9, r9, hk9, hi9, hr9, hb9, he1, he2, hon9, hv9, hpr9, hfi9⟩ := span_bad (l := lu2) (g := gu3) hsp (by omega)
  rw [← htmu9] at hon9 hv9 hpr9
  obtain ⟨v9, hkv9, -⟩ := ic_next (l := tmu9) (k := k9) (by omega)
  replace hv9 := hv9 v9 hkv9
  refine ow_call (first := []) (cap := []) T rfl rfl rfl rfl evf (.cons (T.ev 1 rfl) (.cons (T.ev 0 rfl) .nil)) Try.func46 rfl rfl ?_
  refine Calls.mono (Bad_reg (⟨lu2.first, lu2.step, (min (sp - 1) 20), lu2.press⟩ : Lw) _ _ LLu2 _ _ gu3 _ (hSu2.span (by omega)) hau3 (Su2.rd M (.cons _ (subL (subL (subL (List.Sublist.refl _)))))) (fun x hx => by obtain ⟨b9, o9, h9⟩ := Eu2 x hx; exact (h9 w noEx).rd M (.cons _ (subL (subL (subL (List.Sublist.refl _)))))) (Su3.rd M (.cons _ (subL (subL (List.sublist_append_right _ _))))) hb9) ?_
  clear T
  rintro e wc ⟨rfl, hb⟩
  intro ac T
  replace M := M.call hb; clear hb
  dsimp only [badV] at T
  rw [he1, he2] at T
  refine sh_out hK _ _ ?_; clear hK K
  refine lq T (rn_move rfl (T.ev 0 rfl)) ?_; clear T ac; intro ac T
  refine lq T (rn_extract rfl (T.ev 0 rfl) rfl) ?_; clear T ac; intro ac T
  refine lq T (rn_extract rfl (T.ev 1 rfl) rfl) ?_; clear T ac; intro ac T
  refine lq T (rn_extract rfl (T.ev 2 rfl) rfl) ?_; clear T ac; intro ac T
  refine lq T (rn_assign rfl (T.ev 2 rfl)) ?_; clear T ac; intro ac T
  refine lq T (rn_assign rfl (T.ev 2 rfl)) ?_; clear T ac; intro ac T
  refine lq T (rn_assign rfl (T.ev 2 rfl)) ?_; clear T ac; intro ac T
  refine wpList_nil ?_
  replace T := T.pick [0, 1, 2, 10, 11, 12, 13] rfl
  refine nm_then ?_
  refine wp_seq ?_
  refine wp_region_lit ?_
  refine lq T (rn_move rfl (T.ev 5 rfl)) ?_; clear T ac; intro ac T
  refine lq T (rn_move rfl (T.ev 2 rfl)) ?_; clear T ac; intro ac T
  refine l_w rfl ?_; intro K hK
  refine ow_call (first := []) (cap := []) T rfl rfl rfl rfl evf (.cons (T.ev 1 rfl) (.cons (T.ev 0 rfl) .nil)) Try.func30 rfl rfl ?_
  refine Calls.mono (Place_at _ _ _ gu3 i9 _ _ (Su3.rd M (.cons _ (subL (subL (List.sublist_append_right _ _))))) (by omega) hau3 hr9) ?_
  clear T
  rintro e wc ⟨rfl, hb⟩
  intro ac T
  replace M := M.call hb; clear hb
  refine sh_out hK _ _ ?_; clear hK K
  refine lq T (rn_assign rfl (T.ev 0 rfl)) ?_; clear T ac; intro ac T
  refine wpList_nil ?_
  replace T := T.pick [0, 4, 6, 7, 8, 9, 10] rfl
  refine nm_then ?_
  refine wp_seq ?_
  refine wp_seq ?_
  refine wp_region_lit ?_
  refine lq T (rn_move rfl (T.ev 3 rfl)) ?_; clear T ac; intro ac T
  refine lq (v := (.bool false)) T (rn_neqof (rn_neq rfl (T.ev 0 rfl) evc) (by simp)) ?_; clear T ac; intro ac T
  refine lq T (rn_move rfl (T.ev 0 rfl)) ?_; clear T ac; intro ac T
  refine lw T (wanted_yes rfl rfl (T.ev 0 rfl) rfl) (rn_move rfl (T.ev 4 rfl)) ?_; clear T ac; intro ac T
  refine lw (v := (.bool false)) T (wanted_yes rfl rfl (T.ev 1 rfl) rfl) (rn_neqof (rn_neq rfl (T.ev 0 rfl) evc) (by simp)) ?_; clear T ac; intro ac T
  refine lq T (rn_pick0 rfl (T.ev 2 rfl) rfl (T.ev 0 rfl)) ?_; clear T ac; intro ac T
  refine lq T (rn_move rfl (T.ev 0 rfl)) ?_; clear T ac; intro ac T
  refine lw T (wanted_yes rfl rfl (T.ev 0 rfl) rfl) (rn_move rfl (T.ev 11 rfl)) ?_; clear T ac; intro ac T
  refine l_w (wanted_yes rfl rfl (T.ev 1 rfl) rfl) ?_; intro K hK
  refine ow_call (first := []) (cap := []) T rfl rfl rfl rfl evf (.cons (T.ev 0 rfl) (.cons evc .nil)) Try.func16 rfl rfl ?_
  refine Calls.mono (only_false _ _ _ tmu9 1 _ (Su9.rd M (.cons _ (List.sublist_append_right _ _))) (by omega) hon9) ?_
  clear T
  rintro e wc ⟨rfl, hb⟩
  intro ac T
  replace M := M.call hb; clear hb
  refine sh_out hK _ _ ?_; clear hK K
  refine lq T (rn_pick0 rfl (T.ev 2 rfl) rfl (T.ev 0 rfl)) ?_; clear T ac; intro ac T
  refine lq T (rn_move rfl (T.ev 0 rfl)) ?_; clear T ac; intro ac T
  refine lw T (wanted_yes rfl rfl (T.ev 0 rfl) rfl) (rn_move rfl (T.ev 13 rfl)) ?_; clear T ac; intro ac T
  refine lw T (wanted_yes rfl rfl (T.ev 1 rfl) rfl) (rn_lss rfl (T.ev 0 rfl) evc) ?_; clear T ac; intro ac T
  refine lq T (rn_pick0 rfl (T.ev 2 rfl) rfl (T.ev 0 rfl)) ?_; clear T ac; intro ac T
  refine lq T (rn_move rfl (T.ev 0 rfl)) ?_; clear T ac; intro ac T
  refine lw T (wanted_yes rfl rfl (T.ev 0 rfl) (decide_eq_false (by omega))) (rn_move rfl (T.ev 17 rfl)) ?_; clear T ac; intro ac T
  refine lw T (wanted_yes rfl rfl (T.ev 1 rfl) (decide_eq_false (by omega))) (rn_move rfl (T.ev 20 rfl)) ?_; clear T ac; intro ac T
  refine lw T (wanted_yes rfl rfl (T.ev 2 rfl) (decide_eq_false (by omega))) (rn_lenS rfl Try.underlying22 (T.ev 0 rfl)) ?_; clear T ac; intro ac T
  refine lw T (wanted_yes rfl rfl (T.ev 3 rfl) (decide_eq_false (by omega))) (rn_geq rfl (T.ev 2 rfl) (T.ev 0 rfl)) ?_; clear T ac; intro ac T
  refine lq T (rn_pick0 rfl (T.ev 4 rfl) (decide_eq_false (by omega)) (T.ev 0 rfl)) ?_; clear T ac; intro ac T
  refine lq T (rn_move rfl (T.ev 0 rfl)) ?_; clear T ac; intro ac T
  refine lw T (wanted_yes rfl rfl (T.ev 0 rfl) (decide_eq_false (by omega))) (rn_move rfl (T.ev 25 rfl)) ?_; clear T ac; intro ac T
  refine lw T (wanted_yes rfl rfl (T.ev 1 rfl) (decide_eq_false (by omega))) (rn_move rfl (T.ev 24 rfl)) ?_; clear T ac; intro ac T
  refine lw T (wanted_yes rfl rfl (T.ev 2 rfl) (decide_eq_false (by omega))) (rn_indexAddr (size := 1) k9 rfl (T.ev 1 rfl) (T.ev 0 rfl) ⟨_, Try.underlying22, by kernel_rfl⟩ rfl (by omega) (Su9.at0 (by omega))) ?_; clear T ac; intro ac T
  refine lw T (wanted_yes rfl rfl (T.ev 3 rfl) (decide_eq_false (by omega))) (rn_cell (Sp.ic0 Su9 M (.cons _ (List.sublist_append_right _ _)) hkv9) rfl (T.ev 0 rfl)) ?_; clear T ac; intro ac T
  refine lw T (wanted_yes rfl rfl (T.ev 4 rfl) (decide_eq_false (by omega))) (rn_eql rfl (T.ev 0 rfl) evc) ?_; clear T ac; intro ac T
  refine lq T (rn_pick0 rfl (T.ev 5 rfl) (decide_eq_false (by omega)) (T.ev 0 rfl)) ?_; clear T ac; intro ac T
  refine lq T (rn_move rfl (T.ev 0 rfl)) ?_; clear T ac; intro ac T
  refine lw T (wanted_yes rfl rfl (T.ev 0 rfl) (decide_eq_false hv9)) (rn_move rfl (T.ev 32 rfl)) ?_; clear T ac; intro ac T
  refine lw T (wanted_yes rfl rfl (T.ev 1 rfl) (decide_eq_false hv9)) (rn_move rfl (T.ev 31 rfl)) ?_; clear T ac; intro ac T
  refine lw T (wanted_yes rfl rfl (T.ev 2 rfl) (decide_eq_false hv9)) (rn_slice (size := 1) (l := 0) (h := k9) rfl Try.underlying22 (by kernel_rfl) (T.ev 1 rfl) rfl (T.ev 0 rfl) (by omega) (by omega)) ?_; clear T ac; intro ac T
  obtain ⟨Aq1, hAq1⟩ : ∃ q : Option Addr, q = (if cu9 = 0 then Au9 else Option.map (fun x => x.add (0 * 1)) Au9) := ⟨_, rfl⟩
  rw [← hAq1] at T
  obtain ⟨lq1, hlq1⟩ : ∃ q, q = (tmu9.drop 0).take (k9 - 0) := ⟨_, rfl⟩
  have nlq1 : lq1.length = k9 - 0 := by rw [hlq1, List.length_take, List.length_drop]; (try simp only [List.length_cons, List.length_append, List.length_nil]); omega
  rw [← nlq1] at T
  have SAq1 : Sp w noEx Iu9 Aq1 lq1.length 1 bu9 (ou9 + 0 * 1) (ic lq1) := by rw [nlq1, hAq1, hlq1, ← ic_part]; exact Su9.sub (by omega) (by omega) (by omega)
  refine l_w (wanted_yes rfl rfl (T.ev 3 rfl) (decide_eq_false hv9)) ?_; intro K hK
  refine ow_call (first := []) (cap := []) T rfl rfl rfl rfl evf (.cons (T.ev 0 rfl) (.cons evc .nil)) Try.func16 rfl rfl ?_
  refine Calls.mono (only_true _ _ _ lq1 1 _ (SAq1.rd M (.cons _ (List.sublist_append_right _ _))) (by omega) (by rw [hlq1, List.drop_zero, Nat.sub_zero]; exact hpr9)) ?_
  clear T
  rintro e wc ⟨rfl, hb⟩
  intro ac T
  replace M := M.call hb; clear hb
  refine sh_out hK _ _ ?_; clear hK K
  refine lw (v := (.bool false)) T (wanted_yes rfl rfl (T.ev 4 rfl) (decide_eq_false hv9)) (rn_neqof (rn_not rfl (T.ev 0 rfl)) (by simp)) ?_; clear T ac; intro ac T
  refine lq T (rn_pick0 rfl (T.ev 5 rfl) (decide_eq_false hv9) (T.ev 0 rfl)) ?_; clear T ac; intro ac T
  refine lq T (rn_move rfl (T.ev 0 rfl)) ?_; clear T ac; intro ac T
  refine lw T (wanted_yes rfl rfl (T.ev 0 rfl) rfl) (rn_move rfl (T.ev 35 rfl)) ?_; clear T ac; intro ac T
  refine lw T (wanted_yes rfl rfl (T.ev 1 rfl) rfl) (rn_lss rfl (T.ev 0 rfl) evc) ?_; clear T ac; intro ac T
  refine lq T (rn_pick0 rfl (T.ev 2 rfl) rfl (T.ev 0 rfl)) ?_; clear T ac; intro ac T
  refine lq T (rn_move rfl (T.ev 0 rfl)) ?_; clear T ac; intro ac T
  refine lw T (wanted_yes rfl rfl (T.ev 0 rfl) (decide_eq_false (by omega))) (rn_move rfl (T.ev 39 rfl)) ?_; clear T ac; intro ac T
  refine lw T (wanted_yes rfl rfl (T.ev 1 rfl) (decide_eq_false (by omega))) (rn_add rfl (T.ev 0 rfl) evc (by omega)) ?_; clear T ac; intro ac T
  refine lw T (wanted_yes rfl rfl (T.ev 2 rfl) (decide_eq_false (by omega))) (rn_move rfl (T.ev 46 rfl)) ?_; clear T ac; intro ac T
  refine lw T (wanted_yes rfl rfl (T.ev 3 rfl) (decide_eq_false (by omega))) (rn_lenS rfl Try.underlying22 (T.ev 0 rfl)) ?_; clear T ac; intro ac T
  refine lw T (wanted_yes rfl rfl (T.ev 4 rfl) (decide_eq_false (by omega))) (rn_geq rfl (T.ev 2 rfl) (T.ev 0 rfl)) ?_; clear T ac; intro ac T
  refine lq T (rn_pick0 rfl (T.ev 5 rfl) (decide_eq_false (by omega)) (T.ev 0 rfl)) ?_; clear T ac; intro ac T
  refine wpList_nil ?_
  replace T := T.pick [0, 45, 47, 49, 50, 51] rfl
  refine nm_then ?_
  refine wp_cond_false ((T.ev 0 rfl).trans (congrArg Value.bool (decide_eq_false (by omega)))) ?_
  refine wp_skip ?_
  refine nm_then ?_
  refine wp_seq ?_
  refine wp_seq ?_
  refine wp_region_lit ?_
  refine lq T (rn_assign rfl evc) ?_; clear T ac; intro ac T
  refine wpList_nil ?_
  replace T := T.pick [0, 2, 3, 4, 5, 6] rfl
  refine nm_then ?_
  refine wp_block ?_
  refine wp_loop_n (fun mz ac wc => ∃ (f : Nat), mz = i9 + 1 - f ∧ (f ≤ i9 + 1) ∧ Tm ac 177 [(4, .pointer (some ⟨g1, 0, none⟩)), (5, .slice Au3 gu3.length cu3), (13, .slice Au9 tmu9.length cu9), (15, .int .i64 (k9 : Int)), (18, .int .i64 (i9 : Int)), (19, .int .i64 (f : Int))] ∧ Mem w noEx wc ((g1, .cells [.int .i64 lu2.first, .int .i64 lu2.step, .int .i64 (min (sp - 1) 20), .int .i64 lu2.press, .slice Au2 LLu2.length cu2]) :: (Iu2 ++ Iu3 ++ Iu5 ++ Iu9))) ?_ ?_
  ·exact ⟨_, 0, rfl, (Nat.zero_le _), T.pick [5, 4, 3, 2, 1, 0] rfl, M.mask [true] rfl⟩
  clear T M
  rintro mz ac wc ⟨f, hmm1, hf, T, M⟩
  refine wp_seq ?_
  refine wp_seq ?_
  refine wp_region_lit ?_
  refine lq T (rn_move rfl (T.ev 5 rfl)) ?_; clear T ac; intro ac T
  refine lq T (rn_move rfl (T.ev 5 rfl)) ?_; clear T ac; intro ac T
  refine lq T (rn_leq rfl (T.ev 1 rfl) (T.ev 0 rfl)) ?_; clear T ac; intro ac T
  refine wpList_nil ?_
  replace T := T.pick [0, 3, 4, 5, 6, 7, 8] rfl
  refine nm_then ?_
  refine wp_if (T.ev 0 rfl) ?_ ?_
  ·intro h3
   obtain ⟨f2, hf2⟩ : ∃ q : Nat, (f : Int) + 2 = (q : Int) := ⟨f + 2, by omega⟩
   refine wp_skip ?_
   refine nm_then ?_
   refine wp_seq ?_
   refine wp_block ?_
   refine wp_seq ?_
   refine g_start2 M (M.mask [true] rfl) 12 (by kernel_rfl) rfl (by kernel_rfl) ?_
   clear M; intro wc M
   refine gq T 0 1 rfl (fun B w' hD hl hS => (rn_rowO (Mem.nth (show Mem w noEx w' _ from hS) 0 rfl) rfl (T.ev 1 rfl) rfl)) ?_; clear T ac; intro ac T
   refine gq T 1 3 rfl (fun _ _ _ _ _ => (rn_move rfl (T.ev 3 rfl))) ?_; clear T ac; intro ac T
   refine gq T 2 7 rfl (fun _ _ _ _ _ => (rn_move rfl (T.ev 8 rfl))) ?_; clear T ac; intro ac T
   refine gq T 3 15 rfl (fun _ _ _ _ _ => (rn_move rfl (T.ev 9 rfl))) ?_; clear T ac; intro ac T
   refine gq T 4 31 rfl (fun _ _ _ _ _ => (rn_add rfl (T.ev 0 rfl) evc (by omega))) ?_; clear T ac; intro ac T
   refine gq T 5 63 rfl (fun _ _ _ _ _ => (rn_slice (size := 1) (l := f) (h := f2) rfl Try.underlying22 (by kernel_rfl) (T.ev 3 rfl) (T.ev 2 rfl) ((T.ev 0 rfl).trans (congrArg (Value.int .i64) hf2)) (by omega) (by omega))) ?_; clear T ac; intro ac T
   obtain ⟨Aq2, hAq2⟩ : ∃ q : Option Addr, q = (if cu3 = f then Au3 else Option.map (fun x => x.add (f * 1)) Au3) := ⟨_, rfl⟩
   rw [← hAq2] at T
   obtain ⟨lq2, hlq2⟩ : ∃ q, q = (gu3.drop f).take (f2 - f) := ⟨_, rfl⟩
   have nlq2 : lq2.length = f2 - f := by rw [hlq2, List.length_take, List.length_drop]; (try simp only [List.length_cons, List.length_append, List.length_nil]); omega
   rw [← nlq2] at T
   have SAq2 : Sp w noEx Iu3 Aq2 lq2.length 1 bu3 (ou3 + f * 1) (ic lq2) := by rw [nlq2, hAq2, hlq2, ← ic_part]; exact Su3.sub (by omega) (by omega) (by omega)
   refine gw 6 127 ?_; intro K hK
   refine ow_call (first := []) (cap := []) T rfl rfl rfl rfl evf (.cons (T.ev 5 rfl) (.cons (T.ev 0 rfl) .nil)) Try.func15 rfl rfl ?_
   refine Calls.mono (TremC_reg (⟨lu2.first, lu2.step, (min (sp - 1) 20), lu2.press⟩ : Lw) _ _ LLu2 _ _ lq2 _ (hSu2.span (by omega)) (by rw [hlq2]; exact hau3.sub ((List.take_sublist _ _).trans (List.drop_sublist _ _))) (Su2.rd M (.cons _ (subL (subL (subL (List.Sublist.refl _)))))) (fun x hx => by obtain ⟨b9, o9, h9⟩ := Eu2 x hx; exact (h9 w noEx).rd M (.cons _ (subL (subL (subL (List.Sublist.refl _)))))) (SAq2.rd M (.cons _ (subL (subL (List.sublist_append_right _ _)))))) ?_
   clear T
   rintro e wc ⟨Au14, cu14, Iu14, rfl, hcpu14, Su14, N⟩
   intro ac T
   obtain ⟨bu14, ou14, Su14⟩ := Su14
   replace Su14 := Su14 w noEx
   obtain ⟨tmu14, htmu14⟩ : ∃ q, q = tremP (⟨lu2.first, lu2.step, (min (sp - 1) 20), lu2.press⟩ : Lw) (rowsOf LLu2) lq2 := ⟨_, rfl⟩
   rw [← htmu14] at Su14
   have ntmu14 : tmu14.length = notesP (rowsOf LLu2) := by rw [htmu14, tremP_length]
   replace M := (M.join N).swapI
   clear N
   replace M : Mem w noEx wc ((g1, .cells [.int .i64 lu2.first, .int .i64 lu2.step, .int .i64 (min (sp - 1) 20), .int .i64 lu2.press, .slice Au2 LLu2.length cu2]) :: (Iu2 ++ Iu3 ++ Iu5 ++ Iu9 ++ Iu14)) := M
   obtain ⟨x9, hkx9, -⟩ := ic_next (l := tmu14) (k := k9) (by omega)
   have hq9 : (gu3.drop f).take 2 = lq2 := by rw [hlq2, show f2 - f = 2 by omega]
   have hxi9 := hfi9 f (by omega) x9 (by rw [hq9, ← htmu14]; exact hkx9)
   have hxe9 : (decide (x9 = 1) == decide ((f : Int) < (i9 : Int))) = true := beq_iff_eq.2 (decide_eq_decide.2 (show x9 = 1 ↔ (f : Int) < (i9 : Int) from ⟨fun h => by have := hxi9.1 h; omega, fun h => hxi9.2 (by omega)⟩))
   rw [← htmu14] at hcpu14
   rw [← htmu14] at T
   refine sh_out hK _ _ ((M.mask [true] rfl).sub (List.Sublist.cons_cons _ (List.sublist_append_left _ _))) ?_; clear hK K
   refine gq T 7 255 rfl (fun _ _ _ _ _ => (rn_move rfl (T.ev 0 rfl))) ?_; clear T ac; intro ac T
   refine gq T 8 511 rfl (fun _ _ _ _ _ => (rn_extract rfl (T.ev 0 rfl) rfl)) ?_; clear T ac; intro ac T
   refine gq T 9 1023 rfl (fun _ _ _ _ _ => (rn_extract rfl (T.ev 1 rfl) rfl)) ?_; clear T ac; intro ac T
   refine gq T 10 2047 rfl (fun _ _ _ _ _ => (rn_assign rfl (T.ev 1 rfl))) ?_; clear T ac; intro ac T
   refine gq T 11 4095 rfl (fun _ _ _ _ _ => (rn_assign rfl (T.ev 1 rfl))) ?_; clear T ac; intro ac T
   refine g_done (by kernel_rfl) ?_
   replace T := T.pick [0, 1, 13, 14, 15, 16, 17, 18] rfl
   refine nm_then ?_
   refine wp_seq ?_
   refine wp_region_lit ?_
   refine lq T (rn_move rfl (T.ev 0 rfl)) ?_; clear T ac; intro ac T
   refine lq (v := (.bool false)) T (rn_neqof (rn_neq rfl (T.ev 0 rfl) evc) (by simp)) ?_; clear T ac; intro ac T
   refine lq T (rn_move rfl (T.ev 0 rfl)) ?_; clear T ac; intro ac T
   refine lw T (wanted_yes rfl rfl (T.ev 0 rfl) rfl) (rn_move rfl (T.ev 4 rfl)) ?_; clear T ac; intro ac T
   refine lw T (wanted_yes rfl rfl (T.ev 1 rfl) rfl) (rn_lenS rfl Try.underlying22 (T.ev 0 rfl)) ?_; clear T ac; intro ac T
   refine lw T (wanted_yes rfl rfl (T.ev 2 rfl) rfl) (rn_move rfl (T.ev 9 rfl)) ?_; clear T ac; intro ac T
   refine lw T (wanted_yes rfl rfl (T.ev 3 rfl) rfl) (rn_lenS rfl Try.underlying22 (T.ev 0 rfl)) ?_; clear T ac; intro ac T
   refine lw T (wanted_yes rfl rfl (T.ev 4 rfl) rfl) (rn_neq rfl (T.ev 2 rfl) (T.ev 0 rfl)) ?_; clear T ac; intro ac T
   refine lq T (rn_pick0 rfl (T.ev 5 rfl) rfl (T.ev 0 rfl)) ?_; clear T ac; intro ac T
   refine lq T (rn_move rfl (T.ev 0 rfl)) ?_; clear T ac; intro ac T
   refine lw T (wanted_yes rfl rfl (T.ev 0 rfl) (by rw [show (decide (((tmu14.length : Nat) : Int) = ((tmu9.length : Nat) : Int))) = true from (decide_eq_true (by omega))]; rfl)) (rn_move rfl (T.ev 11 rfl)) ?_; clear T ac; intro ac T
   refine lw T (wanted_yes rfl rfl (T.ev 1 rfl) (by rw [show (decide (((tmu14.length : Nat) : Int) = ((tmu9.length : Nat) : Int))) = true from (decide_eq_true (by omega))]; rfl)) (rn_move rfl (T.ev 16 rfl)) ?_; clear T ac; intro ac T
   refine lw T (wanted_yes rfl rfl (T.ev 2 rfl) (by rw [show (decide (((tmu14.length : Nat) : Int) = ((tmu9.length : Nat) : Int))) = true from (decide_eq_true (by omega))]; rfl)) (rn_indexAddr (size := 1) k9 rfl (T.ev 1 rfl) (T.ev 0 rfl) ⟨_, Try.underlying22, by kernel_rfl⟩ rfl (by omega) (Su14.at0 (by omega))) ?_; clear T ac; intro ac T
   refine lw T (wanted_yes rfl rfl (T.ev 3 rfl) (by rw [show (decide (((tmu14.length : Nat) : Int) = ((tmu9.length : Nat) : Int))) = true from (decide_eq_true (by omega))]; rfl)) (rn_cell (Sp.ic0 Su14 M (.cons _ (List.sublist_append_right _ _)) hkx9) rfl (T.ev 0 rfl)) ?_; clear T ac; intro ac T
   refine lw T (wanted_yes rfl rfl (T.ev 4 rfl) (by rw [show (decide (((tmu14.length : Nat) : Int) = ((tmu9.length : Nat) : Int))) = true from (decide_eq_true (by omega))]; rfl)) (rn_eql rfl (T.ev 0 rfl) evc) ?_; clear T ac; intro ac T
   refine lw T (wanted_yes rfl rfl (T.ev 5 rfl) (by rw [show (decide (((tmu14.length : Nat) : Int) = ((tmu9.length : Nat) : Int))) = true from (decide_eq_true (by omega))]; rfl)) (rn_move rfl (T.ev 22 rfl)) ?_; clear T ac; intro ac T
   refine lw T (wanted_yes rfl rfl (T.ev 6 rfl) (by rw [show (decide (((tmu14.length : Nat) : Int) = ((tmu9.length : Nat) : Int))) = true from (decide_eq_true (by omega))]; rfl)) (rn_move rfl (T.ev 22 rfl)) ?_; clear T ac; intro ac T
   refine lw T (wanted_yes rfl rfl (T.ev 7 rfl) (by rw [show (decide (((tmu14.length : Nat) : Int) = ((tmu9.length : Nat) : Int))) = true from (decide_eq_true (by omega))]; rfl)) (rn_lss rfl (T.ev 1 rfl) (T.ev 0 rfl)) ?_; clear T ac; intro ac T
   refine lw (v := (.bool (!((decide (x9 = 1)) == (decide ((f : Int) < (i9 : Int))))))) T (wanted_yes rfl rfl (T.ev 8 rfl) (by rw [show (decide (((tmu14.length : Nat) : Int) = ((tmu9.length : Nat) : Int))) = true from (decide_eq_true (by omega))]; rfl)) (rn_bin rfl (T.ev 3 rfl) (T.ev 0 rfl) (by kernel_rfl)) ?_; clear T ac; intro ac T
   refine lq T (rn_pick0 rfl (T.ev 9 rfl) (by rw [show (decide (((tmu14.length : Nat) : Int) = ((tmu9.length : Nat) : Int))) = true from (decide_eq_true (by omega))]; rfl) (T.ev 0 rfl)) ?_; clear T ac; intro ac T
   refine wpList_nil ?_
   replace T := T.pick [0, 1, 2, 3, 4, 5, 6, 7, 8, 9, 12, 13, 14, 15, 16, 22, 23, 24, 25, 26, 27] rfl
   refine nm_then ?_
   refine wp_cond_false ((T.ev 0 rfl).trans (congrArg Value.bool (by rw [show ((decide (x9 = 1)) == (decide ((f : Int) < (i9 : Int)))) = true from hxe9]; rfl))) ?_
   refine wp_skip ?_
   refine nm_blk ?_
   refine nm_then ?_
   refine wp_region_lit ?_
   refine lq T (rn_move rfl (T.ev 20 rfl)) ?_; clear T ac; intro ac T
   refine lq T (rn_add rfl (T.ev 0 rfl) evc (by omega)) ?_; clear T ac; intro ac T
   refine l_q (v := (.int .i64 ((f : Int) + 1))) (T.pick [0, 1, 2, 3, 4, 5, 6, 7, 8, 9, 10, 11, 12, 13, 14, 15, 16, 17, 18, 19, 20, 21] rfl) rfl rfl rfl rfl (rn_assign rfl (T.ev 0 rfl)) ?_; clear T ac; intro ac T
   refine wpList_nil ?_
   replace T := T.pick [0, 4, 5, 6, 7, 8, 9, 10, 11, 12, 13, 14, 15, 16, 17, 18, 19, 20, 21, 22] rfl
   refine nm_then ?_
   exact ⟨_, by omega, f + 1, rfl, (by omega), T.pick [15, 16, 17, 18, 19, 0] rfl, (M.sub (List.Sublist.cons_cons _ (List.sublist_append_left _ _)))⟩
  intro h3
  refine wp_exit ?_
  refine ex_then ?_
  refine ex_then ?_
  refine ex_hit ?_
  refine nm_then ?_
  refine wp_seq ?_
  refine wp_region_lit ?_
  refine l_w rfl ?_; intro K hK
  refine ow_call (first := []) (cap := []) T rfl rfl rfl rfl evf .nil Try.func17 rfl rfl ?_
  refine Calls.mono (trembling_any _) ?_
  clear T
  rintro e wc ⟨rfl, hb⟩
  intro ac T
  replace M := M.call hb; clear hb
  refine sh_out hK _ _ ?_; clear hK K
  refine lq T (rn_assign rfl (T.ev 0 rfl)) ?_; clear T ac; intro ac T
  refine wpList_nil ?_
  replace T := T.pick [0] rfl
  replace M := M.mask [false] rfl
  refine nm_then ?_
  refine wp_ret ?_
  refine rt_1 T rfl (T.ev 0 rfl) ?_
  exact ⟨rfl, M.below⟩
 intro h1
 refine wp_skip ?_
 refine nm_then ?_
 refine wp_seq ?_
 refine wp_region_lit ?_
 refine lq T (rn_move rfl (T.ev 1 rfl)) ?_; clear T ac; intro ac T
 refine lq T (rn_sub rfl (T.ev 0 rfl) evc (by omega)) ?_; clear T ac; intro ac T
 refine lq T (rn_min2 rfl (T.ev 0 rfl) evc) ?_; clear T ac; intro ac T
 refine lq (v := (.pointer (some ⟨g1, 0, none⟩))) T (rn_fieldAddr (off := 0) rfl (T.ev 6 rfl) (fun _ _ _ => by kernel_rfl)) ?_; clear T ac; intro ac T
 refine lq (v := (.pointer (some ⟨g1, 2, none⟩))) T (rn_fieldAddr (off := 2) rfl (T.ev 0 rfl) (fun _ _ _ => by kernel_rfl)) ?_; clear T ac; intro ac T
 refine l_w rfl ?_; intro K hK
 refine ow_stO M T rfl rfl (T.ev 0 rfl) (T.ev 2 rfl) rfl .head rfl (by simp) rfl (by kernel_rfl) ?_; clear M T; intro wc ac M T
 refine sh_out hK _ _ ?_; clear hK K
 refine wpList_nil ?_
 replace T := T.pick [6, 7, 8] rfl
 refine nm_then ?_
 refine wp_seq ?_
 refine wp_seq ?_
 refine wp_region_lit ?_
 refine lq T (rn_move rfl (T.ev 0 rfl)) ?_; clear T ac; intro ac T
 refine lq T (rn_eql rfl (T.ev 0 rfl) evc) ?_; clear T ac; intro ac T
 refine wpList_nil ?_
 replace T := T.pick [0, 3, 4] rfl
 refine nm_then ?_
 refine wp_if (T.ev 0 rfl) ?_ ?_
 ·intro h4
  refine wp_seq ?_
  refine wp_region_lit ?_
  refine l_w rfl ?_; intro K hK
  refine ow_call (first := []) (cap := []) T rfl rfl rfl rfl evf .nil Try.func17 rfl rfl ?_
  refine Calls.mono (trembling_any _) ?_
  clear T
  rintro e wc ⟨rfl, hb⟩
  intro ac T
  replace M := M.call hb; clear hb
  refine sh_out hK _ _ ?_; clear hK K
  refine lq T (rn_assign rfl (T.ev 0 rfl)) ?_; clear T ac; intro ac T
  refine wpList_nil ?_
  replace T := T.pick [0] rfl
  replace M := M.mask [false] rfl
  refine nm_then ?_
  refine wp_ret ?_
  refine rt_then ?_
  refine rt_1 T rfl (T.ev 0 rfl) ?_
  exact ⟨rfl, M.below⟩
 intro h4
 refine wp_skip ?_
 refine nm_then ?_
 refine wp_seq ?_
 refine wp_region_lit ?_
 refine lq T (rn_rowO (Mem.nth M 0 rfl) rfl (T.ev 2 rfl) rfl) ?_; clear T ac; intro ac T
 refine lq T (rn_move rfl (T.ev 2 rfl)) ?_; clear T ac; intro ac T
 refine l_w rfl ?_; intro K hK
 refine ow_call (first := []) (cap := []) T rfl rfl rfl rfl evf (.cons (T.ev 1 rfl) (.cons (T.ev 0 rfl) .nil)) Try.func15 rfl rfl ?_
 refine Calls.mono (TremC_reg (⟨lu2.first, lu2.step, (min (sp - 1) 20), lu2.press⟩ : Lw) _ _ LLu2 _ _ gu3 _ (hSu2.span (by omega)) hau3 (Su2.rd M (.cons _ (subL (List.Sublist.refl _)))) (fun x hx => by obtain ⟨b9, o9, h9⟩ := Eu2 x hx; exact (h9 w noEx).rd M (.cons _ (subL (List.Sublist.refl _)))) (Su3.rd M (.cons _ (List.sublist_append_right _ _)))) ?_
 clear T
 rintro e wc ⟨Au17, cu17, Iu17, rfl, hcpu17, Su17, N⟩
 intro ac T
 obtain ⟨bu17, ou17, Su17⟩ := Su17
 replace Su17 := Su17 w noEx
 obtain ⟨tmu17, htmu17⟩ : ∃ q, q = tremP (⟨lu2.first, lu2.step, (min (sp - 1) 20), lu2.press⟩ : Lw) (rowsOf LLu2) gu3 := ⟨_, rfl⟩
 rw [← htmu17] at Su17
 have ntmu17 : tmu17.length = notesP (rowsOf LLu2) := by rw [htmu17, tremP_length]
 replace M := (M.join N).swapI
 clear N
 replace M : Mem w noEx wc ((g1, .cells [.int .i64 lu2.first, .int .i64 lu2.step, .int .i64 (min (sp - 1) 20), .int .i64 lu2.press, .slice Au2 LLu2.length cu2]) :: (Iu2 ++ Iu3 ++ Iu17)) := M
 rw [← htmu17] at hcpu17
 rw [← htmu17] at T
 refine sh_out hK _ _ ?_; clear hK K
 refine lq T (rn_move rfl (T.ev 0 rfl)) ?_; clear T ac; intro ac T
 refine lq T (rn_extract rfl (T.ev 0 rfl) rfl) ?_; clear T ac; intro ac T
 refine lq T (rn_extract rfl (T.ev 1 rfl) rfl) ?_; clear T ac; intro ac T
 refine lq T (rn_assign rfl (T.ev 1 rfl)) ?_; clear T ac; intro ac T
 refine lq T (rn_assign rfl (T.ev 1 rfl)) ?_; clear T ac; intro ac T
 refine wpList_nil ?_
 replace T := T.pick [0, 1, 9, 10] rfl
 refine nm_then ?_
 refine wp_seq ?_
 refine wp_region_lit ?_
 refine lq T (rn_rowO (Mem.nth M 0 rfl) rfl (T.ev 3 rfl) rfl) ?_; clear T ac; intro ac T
 refine lq T (rn_move rfl (T.ev 3 rfl)) ?_; clear T ac; intro ac T
 refine l_w rfl ?_; intro K hK
 obtain ⟨k9, i9, r9, hk9, hi9, hr9, hb9, he1, he2, hon9, hv9, hpr9, hfi9⟩ := span_bad (l := lu2) (g := gu3) hsp (by omega)
 rw [← htmu17] at hon9 hv9 hpr9
 obtain ⟨v9, hkv9, -⟩ := ic_next (l := tmu17) (k := k9) (by omega)
 replace hv9 := hv9 v9 hkv9
 refine ow_call (first := []) (cap := []) T rfl rfl rfl rfl evf (.cons (T.ev 1 rfl) (.cons (T.ev 0 rfl) .nil)) Try.func46 rfl rfl ?_
 refine Calls.mono (Bad_reg (⟨lu2.first, lu2.step, (min (sp - 1) 20), lu2.press⟩ : Lw) _ _ LLu2 _ _ gu3 _ (hSu2.span (by omega)) hau3 (Su2.rd M (.cons _ (subL (subL (List.Sublist.refl _))))) (fun x hx => by obtain ⟨b9, o9, h9⟩ := Eu2 x hx; exact (h9 w noEx).rd M (.cons _ (subL (subL (List.Sublist.refl _))))) (Su3.rd M (.cons _ (subL (List.sublist_append_right _ _)))) hb9) ?_
 clear T
 rintro e wc ⟨rfl, hb⟩
 intro ac T
 replace M := M.call hb; clear hb
 dsimp only [badV] at T
 rw [he1, he2] at T
 refine sh_out hK _ _ ?_; clear hK K
 refine lq T (rn_move rfl (T.ev 0 rfl)) ?_; clear T ac; intro ac T
 refine lq T (rn_extract rfl (T.ev 0 rfl) rfl) ?_; clear T ac; intro ac T
 refine lq T (rn_extract rfl (T.ev 1 rfl) rfl) ?_; clear T ac; intro ac T
 refine lq T (rn_extract rfl (T.ev 2 rfl) rfl) ?_; clear T ac; intro ac T
 refine lq T (rn_assign rfl (T.ev 2 rfl)) ?_; clear T ac; intro ac T
 refine lq T (rn_assign rfl (T.ev 2 rfl)) ?_; clear T ac; intro ac T
 refine lq T (rn_assign rfl (T.ev 2 rfl)) ?_; clear T ac; intro ac T
 refine wpList_nil ?_
 replace T := T.pick [0, 1, 2, 10, 11, 12, 13] rfl
 refine nm_then ?_
 refine wp_seq ?_
 refine wp_region_lit ?_
 refine lq T (rn_move rfl (T.ev 5 rfl)) ?_; clear T ac; intro ac T
 refine lq T (rn_move rfl (T.ev 2 rfl)) ?_; clear T ac; intro ac T
 refine l_w rfl ?_; intro K hK
 refine ow_call (first := []) (cap := []) T rfl rfl rfl rfl evf (.cons (T.ev 1 rfl) (.cons (T.ev 0 rfl) .nil)) Try.func30 rfl rfl ?_
 refine Calls.mono (Place_at _ _ _ gu3 i9 _ _ (Su3.rd M (.cons _ (subL (List.sublist_append_right _ _)))) (by omega) hau3 hr9) ?_
 clear T
 rintro e wc ⟨rfl, hb⟩
 intro ac T
 replace M := M.call hb; clear hb
 refine sh_out hK _ _ ?_; clear hK K
 refine lq T (rn_assign rfl (T.ev 0 rfl)) ?_; clear T ac; intro ac T
 refine wpList_nil ?_
 replace T := T.pick [0, 4, 6, 7, 8, 9, 10] rfl
 refine nm_then ?_
 refine wp_seq ?_
 refine wp_seq ?_
 refine wp_region_lit ?_
 refine lq T (rn_move rfl (T.ev 3 rfl)) ?_; clear T ac; intro ac T
 refine lq (v := (.bool false)) T (rn_neqof (rn_neq rfl (T.ev 0 rfl) evc) (by simp)) ?_; clear T ac; intro ac T
 refine lq T (rn_move rfl (T.ev 0 rfl)) ?_; clear T ac; intro ac T
 refine lw T (wanted_yes rfl rfl (T.ev 0 rfl) rfl) (rn_move rfl (T.ev 4 rfl)) ?_; clear T ac; intro ac T
 refine lw (v := (.bool false)) T (wanted_yes rfl rfl (T.ev 1 rfl) rfl) (rn_neqof (rn_neq rfl (T.ev 0 rfl) evc) (by simp)) ?_; clear T ac; intro ac T
 refine lq T (rn_pick0 rfl (T.ev 2 rfl) rfl (T.ev 0 rfl)) ?_; clear T ac; intro ac T
 refine lq T (rn_move rfl (T.ev 0 rfl)) ?_; clear T ac; intro ac T
 refine lw T (wanted_yes rfl rfl (T.ev 0 rfl) rfl) (rn_move rfl (T.ev 11 rfl)) ?_; clear T ac; intro ac T
 refine l_w (wanted_yes rfl rfl (T.ev 1 rfl) rfl) ?_; intro K hK
 refine ow_call (first := []) (cap := []) T rfl rfl rfl rfl evf (.cons (T.ev 0 rfl) (.cons evc .nil)) Try.func16 rfl rfl ?_
 refine Calls.mono (only_false _ _ _ tmu17 1 _ (Su17.rd M (.cons _ (List.sublist_append_right _ _))) (by omega) hon9) ?_
 clear T
 rintro e wc ⟨rfl, hb⟩
 intro ac T
 replace M := M.call hb; clear hb
 refine sh_out hK _ _ ?_; clear hK K
 refine lq T (rn_pick0 rfl (T.ev 2 rfl) rfl (T.ev 0 rfl)) ?_; clear T ac; intro ac T
 refine lq T (rn_move rfl (T.ev 0 rfl)) ?_; clear T ac; intro ac T
 refine lw T (wanted_yes rfl rfl (T.ev 0 rfl) rfl) (rn_move rfl (T.ev 13 rfl)) ?_; clear T ac; intro ac T
 refine lw T (wanted_yes rfl rfl (T.ev 1 rfl) rfl) (rn_lss rfl (T.ev 0 rfl) evc) ?_; clear T ac; intro ac T
 refine lq T (rn_pick0 rfl (T.ev 2 rfl) rfl (T.ev 0 rfl)) ?_; clear T ac; intro ac T
 refine lq T (rn_move rfl (T.ev 0 rfl)) ?_; clear T ac; intro ac T
 refine lw T (wanted_yes rfl rfl (T.ev 0 rfl) (decide_eq_false (by omega))) (rn_move rfl (T.ev 17 rfl)) ?_; clear T ac; intro ac T
 refine lw T (wanted_yes rfl rfl (T.ev 1 rfl) (decide_eq_false (by omega))) (rn_move rfl (T.ev 20 rfl)) ?_; clear T ac; intro ac T
 refine lw T (wanted_yes rfl rfl (T.ev 2 rfl) (decide_eq_false (by omega))) (rn_lenS rfl Try.underlying22 (T.ev 0 rfl)) ?_; clear T ac; intro ac T
 refine lw T (wanted_yes rfl rfl (T.ev 3 rfl) (decide_eq_false (by omega))) (rn_geq rfl (T.ev 2 rfl) (T.ev 0 rfl)) ?_; clear T ac; intro ac T
 refine lq T (rn_pick0 rfl (T.ev 4 rfl) (decide_eq_false (by omega)) (T.ev 0 rfl)) ?_; clear T ac; intro ac T
 refine lq T (rn_move rfl (T.ev 0 rfl)) ?_; clear T ac; intro ac T
 refine lw T (wanted_yes rfl rfl (T.ev 0 rfl) (decide_eq_false (by omega))) (rn_move rfl (T.ev 25 rfl)) ?_; clear T ac; intro ac T
 refine lw T (wanted_yes rfl rfl (T.ev 1 rfl) (decide_eq_false (by omega))) (rn_move rfl (T.ev 24 rfl)) ?_; clear T ac; intro ac T
 refine lw T (wanted_yes rfl rfl (T.ev 2 rfl) (decide_eq_false (by omega))) (rn_indexAddr (size := 1) k9 rfl (T.ev 1 rfl) (T.ev 0 rfl) ⟨_, Try.underlying22, by kernel_rfl⟩ rfl (by omega) (Su17.at0 (by omega))) ?_; clear T ac; intro ac T
 refine lw T (wanted_yes rfl rfl (T.ev 3 rfl) (decide_eq_false (by omega))) (rn_cell (Sp.ic0 Su17 M (.cons _ (List.sublist_append_right _ _)) hkv9) rfl (T.ev 0 rfl)) ?_; clear T ac; intro ac T
 refine lw T (wanted_yes rfl rfl (T.ev 4 rfl) (decide_eq_false (by omega))) (rn_eql rfl (T.ev 0 rfl) evc) ?_; clear T ac; intro ac T
 refine lq T (rn_pick0 rfl (T.ev 5 rfl) (decide_eq_false (by omega)) (T.ev 0 rfl)) ?_; clear T ac; intro ac T
 refine lq T (rn_move rfl (T.ev 0 rfl)) ?_; clear T ac; intro ac T
 refine lw T (wanted_yes rfl rfl (T.ev 0 rfl) (decide_eq_false hv9)) (rn_move rfl (T.ev 32 rfl)) ?_; clear T ac; intro ac T
 refine lw T (wanted_yes rfl rfl (T.ev 1 rfl) (decide_eq_false hv9)) (rn_move rfl (T.ev 31 rfl)) ?_; clear T ac; intro ac T
 refine lw T (wanted_yes rfl rfl (T.ev 2 rfl) (decide_eq_false hv9)) (rn_slice (size := 1) (l := 0) (h := k9) rfl Try.underlying22 (by kernel_rfl) (T.ev 1 rfl) rfl (T.ev 0 rfl) (by omega) (by omega)) ?_; clear T ac; intro ac T
 obtain ⟨Aq3, hAq3⟩ : ∃ q : Option Addr, q = (if cu17 = 0 then Au17 else Option.map (fun x => x.add (0 * 1)) Au17) := ⟨_, rfl⟩
 rw [← hAq3] at T
 obtain ⟨lq3, hlq3⟩ : ∃ q, q = (tmu17.drop 0).take (k9 - 0) := ⟨_, rfl⟩
 have nlq3 : lq3.length = k9 - 0 := by rw [hlq3, List.length_take, List.length_drop]; (try simp only [List.length_cons, List.length_append, List.length_nil]); omega
 rw [← nlq3] at T
 have SAq3 : Sp w noEx Iu17 Aq3 lq3.length 1 bu17 (ou17 + 0 * 1) (ic lq3) := by rw [nlq3, hAq3, hlq3, ← ic_part]; exact Su17.sub (by omega) (by omega) (by omega)
 refine l_w (wanted_yes rfl rfl (T.ev 3 rfl) (decide_eq_false hv9)) ?_; intro K hK
 refine ow_call (first := []) (cap := []) T rfl rfl rfl rfl evf (.cons (T.ev 0 rfl) (.cons evc .nil)) Try.func16 rfl rfl ?_
 refine Calls.mono (only_true _ _ _ lq3 1 _ (SAq3.rd M (.cons _ (List.sublist_append_right _ _))) (by omega) (by rw [hlq3, List.drop_zero, Nat.sub_zero]; exact hpr9)) ?_
 clear T
 rintro e wc ⟨rfl, hb⟩
 intro ac T
 replace M := M.call hb; clear hb
 refine sh_out hK _ _ ?_; clear hK K
 refine lw (v := (.bool false)) T (wanted_yes rfl rfl (T.ev 4 rfl) (decide_eq_false hv9)) (rn_neqof (rn_not rfl (T.ev 0 rfl)) (by simp)) ?_; clear T ac; intro ac T
 refine lq T (rn_pick0 rfl (T.ev 5 rfl) (decide_eq_false hv9) (T.ev 0 rfl)) ?_; clear T ac; intro ac T
 refine lq T (rn_move rfl (T.ev 0 rfl)) ?_; clear T ac; intro ac T
 refine lw T (wanted_yes rfl rfl (T.ev 0 rfl) rfl) (rn_move rfl (T.ev 35 rfl)) ?_; clear T ac; intro ac T
 refine lw T (wanted_yes rfl rfl (T.ev 1 rfl) rfl) (rn_lss rfl (T.ev 0 rfl) evc) ?_; clear T ac; intro ac T
 refine lq T (rn_pick0 rfl (T.ev 2 rfl) rfl (T.ev 0 rfl)) ?_; clear T ac; intro ac T
 refine lq T (rn_move rfl (T.ev 0 rfl)) ?_; clear T ac; intro ac T
 refine lw T (wanted_yes rfl rfl (T.ev 0 rfl) (decide_eq_false (by omega))) (rn_move rfl (T.ev 39 rfl)) ?_; clear T ac; intro ac T
 refine lw T (wanted_yes rfl rfl (T.ev 1 rfl) (decide_eq_false (by omega))) (rn_add rfl (T.ev 0 rfl) evc (by omega)) ?_; clear T ac; intro ac T
 refine lw T (wanted_yes rfl rfl (T.ev 2 rfl) (decide_eq_false (by omega))) (rn_move rfl (T.ev 46 rfl)) ?_; clear T ac; intro ac T
 refine lw T (wanted_yes rfl rfl (T.ev 3 rfl) (decide_eq_false (by omega))) (rn_lenS rfl Try.underlying22 (T.ev 0 rfl)) ?_; clear T ac; intro ac T
 refine lw T (wanted_yes rfl rfl (T.ev 4 rfl) (decide_eq_false (by omega))) (rn_geq rfl (T.ev 2 rfl) (T.ev 0 rfl)) ?_; clear T ac; intro ac T
 refine lq T (rn_pick0 rfl (T.ev 5 rfl) (decide_eq_false (by omega)) (T.ev 0 rfl)) ?_; clear T ac; intro ac T
 refine wpList_nil ?_
 replace T := T.pick [0, 45, 47, 49, 50, 51] rfl
 refine nm_then ?_
 refine wp_cond_false ((T.ev 0 rfl).trans (congrArg Value.bool (decide_eq_false (by omega)))) ?_
 refine wp_skip ?_
 refine nm_then ?_
 refine wp_seq ?_
 refine wp_seq ?_
 refine wp_region_lit ?_
 refine lq T (rn_assign rfl evc) ?_; clear T ac; intro ac T
 refine wpList_nil ?_
 replace T := T.pick [0, 2, 3, 4, 5, 6] rfl
 refine nm_then ?_
 refine wp_block ?_
 refine wp_loop_n (fun mz ac wc => ∃ (f : Nat), mz = i9 + 1 - f ∧ (f ≤ i9 + 1) ∧ Tm ac 177 [(4, .pointer (some ⟨g1, 0, none⟩)), (5, .slice Au3 gu3.length cu3), (13, .slice Au17 tmu17.length cu17), (15, .int .i64 (k9 : Int)), (18, .int .i64 (i9 : Int)), (19, .int .i64 (f : Int))] ∧ Mem w noEx wc ((g1, .cells [.int .i64 lu2.first, .int .i64 lu2.step, .int .i64 (min (sp - 1) 20), .int .i64 lu2.press, .slice Au2 LLu2.length cu2]) :: (Iu2 ++ Iu3 ++ Iu17))) ?_ ?_
 ·exact ⟨_, 0, rfl, (Nat.zero_le _), T.pick [5, 4, 3, 2, 1, 0] rfl, M.mask [true] rfl⟩
 clear T M
 rintro mz ac wc ⟨f, hmm1, hf, T, M⟩
 refine wp_seq ?_
 refine wp_seq ?_
 refine wp_region_lit ?_
 refine lq T (rn_move rfl (T.ev 5 rfl)) ?_; clear T ac; intro ac T
 refine lq T (rn_move rfl (T.ev 5 rfl)) ?_; clear T ac; intro ac T
 refine lq T (rn_leq rfl (T.ev 1 rfl) (T.ev 0 rfl)) ?_; clear T ac; intro ac T
 refine wpList_nil ?_
 replace T := T.pick [0, 3, 4, 5, 6, 7, 8] rfl
 refine nm_then ?_
 refine wp_if (T.ev 0 rfl) ?_ ?_
 ·intro h5
  obtain ⟨f2, hf2⟩ : ∃ q : Nat, (f : Int) + 2 = (q : Int) := ⟨f + 2, by omega⟩
  refine wp_skip ?_
  refine nm_then ?_
  refine wp_seq ?_
  refine wp_block ?_
  refine wp_seq ?_
  refine g_start2 M (M.mask [true] rfl) 12 (by kernel_rfl) rfl (by kernel_rfl) ?_
  clear M; intro wc M
  refine gq T 0 1 rfl (fun B w' hD hl hS => (rn_rowO (Mem.nth (show Mem w noEx w' _ from hS) 0 rfl) rfl (T.ev 1 rfl) rfl)) ?_; clear T ac; intro ac T
  refine gq T 1 3 rfl (fun _ _ _ _ _ => (rn_move rfl (T.ev 3 rfl))) ?_; clear T ac; intro ac T
  refine gq T 2 7 rfl (fun _ _ _ _ _ => (rn_move rfl (T.ev 8 rfl))) ?_; clear T ac; intro ac T
  refine gq T 3 15 rfl (fun _ _ _ _ _ => (rn_move rfl (T.ev 9 rfl))) ?_; clear T ac; intro ac T
  refine gq T 4 31 rfl (fun _ _ _ _ _ => (rn_add rfl (T.ev 0 rfl) evc (by omega))) ?_; clear T ac; intro ac T
  refine gq T 5 63 rfl (fun _ _ _ _ _ => (rn_slice (size := 1) (l := f) (h := f2) rfl Try.underlying22 (by kernel_rfl) (T.ev 3 rfl) (T.ev 2 rfl) ((T.ev 0 rfl).trans (congrArg (Value.int .i64) hf2)) (by omega) (by omega))) ?_; clear T ac; intro ac T
  obtain ⟨Aq4, hAq4⟩ : ∃ q : Option Addr, q = (if cu3 = f then Au3 else Option.map (fun x => x.add (f * 1)) Au3) := ⟨_, rfl⟩
  rw [← hAq4] at T
  obtain ⟨lq4, hlq4⟩ : ∃ q, q = (gu3.drop f).take (f2 - f) := ⟨_, rfl⟩
  have nlq4 : lq4.length = f2 - f := by rw [hlq4, List.length_take, List.length_drop]; (try simp only [List.length_cons, List.length_append, List.length_nil]); omega
  rw [← nlq4] at T
  have SAq4 : Sp w noEx Iu3 Aq4 lq4.length 1 bu3 (ou3 + f * 1) (ic lq4) := by rw [nlq4, hAq4, hlq4, ← ic_part]; exact Su3.sub (by omega) (by omega) (by omega)
  refine gw 6 127 ?_; intro K hK
  refine ow_call (first := []) (cap := []) T rfl rfl rfl rfl evf (.cons (T.ev 5 rfl) (.cons (T.ev 0 rfl) .nil)) Try.func15 rfl rfl ?_
  refine Calls.mono (TremC_reg (⟨lu2.first, lu2.step, (min (sp - 1) 20), lu2.press⟩ : Lw) _ _ LLu2 _ _ lq4 _ (hSu2.span (by omega)) (by rw [hlq4]; exact hau3.sub ((List.take_sublist _ _).trans (List.drop_sublist _ _))) (Su2.rd M (.cons _ (subL (subL (List.Sublist.refl _))))) (fun x hx => by obtain ⟨b9, o9, h9⟩ := Eu2 x hx; exact (h9 w noEx).rd M (.cons _ (subL (subL (List.Sublist.refl _))))) (SAq4.rd M (.cons _ (subL (List.sublist_append_right _ _))))) ?_
  clear T
  rintro e wc ⟨Au22, cu22, Iu22, rfl, hcpu22, Su22, N⟩
  intro ac T
  obtain ⟨bu22, ou22, Su22⟩ := Su22
  replace Su22 := Su22 w noEx
  obtain ⟨tmu22, htmu22⟩ : ∃ q, q = tremP (⟨lu2.first, lu2.step, (min (sp - 1) 20), lu2.press⟩ : Lw) (rowsOf LLu2) lq4 := ⟨_, rfl⟩
  rw [← htmu22] at Su22
  have ntmu22 : tmu22.length = notesP (rowsOf LLu2) := by rw [htmu22, tremP_length]
  replace M := (M.join N).swapI
  clear N
  replace M : Mem w noEx wc ((g1, .cells [.int .i64 lu2.first, .int .i64 lu2.step, .int .i64 (min (sp - 1) 20), .int .i64 lu2.press, .slice Au2 LLu2.length cu2]) :: (Iu2 ++ Iu3 ++ Iu17 ++ Iu22)) := M
  obtain ⟨x9, hkx9, -⟩ := ic_next (l := tmu22) (k := k9) (by omega)
  have hq9 : (gu3.drop f).take 2 = lq4 := by rw [hlq4, show f2 - f = 2 by omega]
  have hxi9 := hfi9 f (by omega) x9 (by rw [hq9, ← htmu22]; exact hkx9)
  have hxe9 : (decide (x9 = 1) == decide ((f : Int) < (i9 : Int))) = true := beq_iff_eq.2 (decide_eq_decide.2 (show x9 = 1 ↔ (f : Int) < (i9 : Int) from ⟨fun h => by have := hxi9.1 h; omega, fun h => hxi9.2 (by omega)⟩))
  rw [← htmu22] at hcpu22
  rw [← htmu22] at T
  refine sh_out hK _ _ ((M.mask [true] rfl).sub (List.Sublist.cons_cons _ (List.sublist_append_left _ _))) ?_; clear hK K
  refine gq T 7 255 rfl (fun _ _ _ _ _ => (rn_move rfl (T.ev 0 rfl))) ?_; clear T ac; intro ac T
  refine gq T 8 511 rfl (fun _ _ _ _ _ => (rn_extract rfl (T.ev 0 rfl) rfl)) ?_; clear T ac; intro ac T
  refine gq T 9 1023 rfl (fun _ _ _ _ _ => (rn_extract rfl (T.ev 1 rfl) rfl)) ?_; clear T ac; intro ac T
  refine gq T 10 2047 rfl (fun _ _ _ _ _ => (rn_assign rfl (T.ev 1 rfl))) ?_; clear T ac; intro ac T
  refine gq T 11 4095 rfl (fun _ _ _ _ _ => (rn_assign rfl (T.ev 1 rfl))) ?_; clear T ac; intro ac T
  refine g_done (by kernel_rfl) ?_
  replace T := T.pick [0, 1, 13, 14, 15, 16, 17, 18] rfl
  refine nm_then ?_
  refine wp_seq ?_
  refine wp_region_lit ?_
  refine lq T (rn_move rfl (T.ev 0 rfl)) ?_; clear T ac; intro ac T
  refine lq (v := (.bool false)) T (rn_neqof (rn_neq rfl (T.ev 0 rfl) evc) (by simp)) ?_; clear T ac; intro ac T
  refine lq T (rn_move rfl (T.ev 0 rfl)) ?_; clear T ac; intro ac T
  refine lw T (wanted_yes rfl rfl (T.ev 0 rfl) rfl) (rn_move rfl (T.ev 4 rfl)) ?_; clear T ac; intro ac T
  refine lw T (wanted_yes rfl rfl (T.ev 1 rfl) rfl) (rn_lenS rfl Try.underlying22 (T.ev 0 rfl)) ?_; clear T ac; intro ac T
  refine lw T (wanted_yes rfl rfl (T.ev 2 rfl) rfl) (rn_move rfl (T.ev 9 rfl)) ?_; clear T ac; intro ac T
  refine lw T (wanted_yes rfl rfl (T.ev 3 rfl) rfl) (rn_lenS rfl Try.underlying22 (T.ev 0 rfl)) ?_; clear T ac; intro ac T
  refine lw T (wanted_yes rfl rfl (T.ev 4 rfl) rfl) (rn_neq rfl (T.ev 2 rfl) (T.ev 0 rfl)) ?_; clear T ac; intro ac T
  refine lq T (rn_pick0 rfl (T.ev 5 rfl) rfl (T.ev 0 rfl)) ?_; clear T ac; intro ac T
  refine lq T (rn_move rfl (T.ev 0 rfl)) ?_; clear T ac; intro ac T
  refine lw T (wanted_yes rfl rfl (T.ev 0 rfl) (by rw [show (decide (((tmu22.length : Nat) : Int) = ((tmu17.length : Nat) : Int))) = true from (decide_eq_true (by omega))]; rfl)) (rn_move rfl (T.ev 11 rfl)) ?_; clear T ac; intro ac T
  refine lw T (wanted_yes rfl rfl (T.ev 1 rfl) (by rw [show (decide (((tmu22.length : Nat) : Int) = ((tmu17.length : Nat) : Int))) = true from (decide_eq_true (by omega))]; rfl)) (rn_move rfl (T.ev 16 rfl)) ?_; clear T ac; intro ac T
  refine lw T (wanted_yes rfl rfl (T.ev 2 rfl) (by rw [show (decide (((tmu22.length : Nat) : Int) = ((tmu17.length : Nat) : Int))) = true from (decide_eq_true (by omega))]; rfl)) (rn_indexAddr (size := 1) k9 rfl (T.ev 1 rfl) (T.ev 0 rfl) ⟨_, Try.underlying22, by kernel_rfl⟩ rfl (by omega) (Su22.at0 (by omega))) ?_; clear T ac; intro ac T
  refine lw T (wanted_yes rfl rfl (T.ev 3 rfl) (by rw [show (decide (((tmu22.length : Nat) : Int) = ((tmu17.length : Nat) : Int))) = true from (decide_eq_true (by omega))]; rfl)) (rn_cell (Sp.ic0 Su22 M (.cons _ (List.sublist_append_right _ _)) hkx9) rfl (T.ev 0 rfl)) ?_; clear T ac; intro ac T
  refine lw T (wanted_yes rfl rfl (T.ev 4 rfl) (by rw [show (decide (((tmu22.length : Nat) : Int) = ((tmu17.length : Nat) : Int))) = true from (decide_eq_true (by omega))]; rfl)) (rn_eql rfl (T.ev 0 rfl) evc) ?_; clear T ac; intro ac T
  refine lw T (wanted_yes rfl rfl (T.ev 5 rfl) (by rw [show (decide (((tmu22.length : Nat) : Int) = ((tmu17.length : Nat) : Int))) = true from (decide_eq_true (by omega))]; rfl)) (rn_move rfl (T.ev 22 rfl)) ?_; clear T ac; intro ac T
  refine lw T (wanted_yes rfl rfl (T.ev 6 rfl) (by rw [show (decide (((tmu22.length : Nat) : Int) = ((tmu17.length : Nat) : Int))) = true from (decide_eq_true (by omega))]; rfl)) (rn_move rfl (T.ev 22 rfl)) ?_; clear T ac; intro ac T
  refine lw T (wanted_yes rfl rfl (T.ev 7 rfl) (by rw [show (decide (((tmu22.length : Nat) : Int) = ((tmu17.length : Nat) : Int))) = true from (decide_eq_true (by omega))]; rfl)) (rn_lss rfl (T.ev 1 rfl) (T.ev 0 rfl)) ?_; clear T ac; intro ac T
  refine lw (v := (.bool (!((decide (x9 = 1)) == (decide ((f : Int) < (i9 : Int))))))) T (wanted_yes rfl rfl (T.ev 8 rfl) (by rw [show (decide (((tmu22.length : Nat) : Int) = ((tmu17.length : Nat) : Int))) = true from (decide_eq_true (by omega))]; rfl)) (rn_bin rfl (T.ev 3 rfl) (T.ev 0 rfl) (by kernel_rfl)) ?_; clear T ac; intro ac T
  refine lq T (rn_pick0 rfl (T.ev 9 rfl) (by rw [show (decide (((tmu22.length : Nat) : Int) = ((tmu17.length : Nat) : Int))) = true from (decide_eq_true (by omega))]; rfl) (T.ev 0 rfl)) ?_; clear T ac; intro ac T
  refine wpList_nil ?_
  replace T := T.pick [0, 1, 2, 3, 4, 5, 6, 7, 8, 9, 12, 13, 14, 15, 16, 22, 23, 24, 25, 26, 27] rfl
  refine nm_then ?_
  refine wp_cond_false ((T.ev 0 rfl).trans (congrArg Value.bool (by rw [show ((decide (x9 = 1)) == (decide ((f : Int) < (i9 : Int)))) = true from hxe9]; rfl))) ?_
  refine wp_skip ?_
  refine nm_blk ?_
  refine nm_then ?_
  refine wp_region_lit ?_
  refine lq T (rn_move rfl (T.ev 20 rfl)) ?_; clear T ac; intro ac T
  refine lq T (rn_add rfl (T.ev 0 rfl) evc (by omega)) ?_; clear T ac; intro ac T
  refine l_q (v := (.int .i64 ((f : Int) + 1))) (T.pick [0, 1, 2, 3, 4, 5, 6, 7, 8, 9, 10, 11, 12, 13, 14, 15, 16, 17, 18, 19, 20, 21] rfl) rfl rfl rfl rfl (rn_assign rfl (T.ev 0 rfl)) ?_; clear T ac; intro ac T
  refine wpList_nil ?_
  replace T := T.pick [0, 4, 5, 6, 7, 8, 9, 10, 11, 12, 13, 14, 15, 16, 17, 18, 19, 20, 21, 22] rfl
  refine nm_then ?_
  exact ⟨_, by omega, f + 1, rfl, (by omega), T.pick [15, 16, 17, 18, 19, 0] rfl, (M.sub (List.Sublist.cons_cons _ (List.sublist_append_left _ _)))⟩
 intro h5
 refine wp_exit ?_
 refine ex_then ?_
 refine ex_then ?_
 refine ex_hit ?_
 refine nm_then ?_
 refine wp_seq ?_
 refine wp_region_lit ?_
 refine l_w rfl ?_; intro K hK
 refine ow_call (first := []) (cap := []) T rfl rfl rfl rfl evf .nil Try.func17 rfl rfl ?_
 refine Calls.mono (trembling_any _) ?_
 clear T
 rintro e wc ⟨rfl, hb⟩
 intro ac T
 replace M := M.call hb; clear hb
 refine sh_out hK _ _ ?_; clear hK K
 refine lq T (rn_assign rfl (T.ev 0 rfl)) ?_; clear T ac; intro ac T
 refine wpList_nil ?_
 replace T := T.pick [0] rfl
 replace M := M.mask [false] rfl
 refine nm_then ?_
 refine wp_ret ?_
 refine rt_1 T rfl (T.ev 0 rfl) ?_
 exact ⟨rfl, M.below⟩
end Go.Proofs.Ytlahdenlmmlplaa

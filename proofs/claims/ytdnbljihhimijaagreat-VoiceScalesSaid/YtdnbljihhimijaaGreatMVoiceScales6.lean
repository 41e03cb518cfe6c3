/-
  Walks of functions, and plain laws (texts put together). No condition.
-/
import Derived.Test.YtdnbljihhimijaaGreatMVoiceScales1
import Derived.Test.YtdnbljihhimijaaGreatMVoiceScales2
import Derived.Test.YtdnbljihhimijaaGreatMVoiceScales3
import Derived.Test.YtdnbljihhimijaaGreatMVoiceScales4
import Derived.Test.YtdnbljihhimijaaGreatMVoiceScales5
set_option maxRecDepth 100000
set_option maxHeartbeats 1000000
set_option linter.unusedSimpArgs false
set_option linter.unusedVariables false
namespace Go.Proofs.YtdnbljihhimijaaGreat
open Go.RowKit
theorem can_any (l : Lw) (A : Option Addr) (c : Nat) (LL : List LS) (nt : Nat) (gS : SGood l (rowsOf LL)) (hnt : nt < notesP (rowsOf LL)) : ∀ m : Nat, m ≤ 999 → CanSpec l A c LL nt m
 | 0, _ => fun G d g w h1 h2 hA hE hG hgL => can_step l A c LL G d g nt 0 w hA hE gS hG h1 h2 (by omega) hgL hnt fun m1 e => by omega
 | m + 1, hm => fun G d g w h1 h2 hA hE hG hgL => can_step l A c LL G d g nt (m + 1) w hA hE gS hG h1 h2 (by omega) hgL hnt fun m1 e => by
  obtain rfl : m = m1 := by omega
  exact can_any l A c LL nt gS hnt m (by omega)
theorem nexts_step {l : Lw} {due : Int} {ts : List Snd} {i : Nat} {a b : Snd} (h1 : ts[i]? = some a) (h2 : ts[i + 1]? = some b) : nexts8 l due (ts.drop i) = (decide (keeps8 l due a b = 1) && nexts8 l due (ts.drop (i + 1))) := by
 have e1 := List.getElem?_eq_some_iff.1 h1
 have e2 := List.getElem?_eq_some_iff.1 h2
 have d2 : ts.drop (i + 1) = b :: ts.drop (i + 2) := by rw [List.drop_eq_getElem_cons e2.1, e2.2]
 rw [List.drop_eq_getElem_cons e1.1, e1.2, d2]
 rfl
theorem nexts_end {l : Lw} {due : Int} {ts : List Snd} {i : Nat} (h : ts.length ≤ i + 1) : nexts8 l due (ts.drop i) = true := by
 have hl : (ts.drop i).length ≤ 1 := by rw [List.length_drop]; omega
 match ts.drop i, hl with
 | [], _ => rfl
 | [_], _ => rfl
theorem voices_get {R : List (List Snd)} {g : List Int} {n i : Nat} {r : Int} (h : g[i]? = some r) : (voicesP R g n)[i]? = some (voiceP R n r) := by
 unfold voicesP
 rw [List.getElem?_map, h]; rfl
theorem getD_at {g : List Int} {i : Nat} {r : Int} (h : g[i]? = some r) : g.getD i 0 = r := by
 rw [List.getD_eq_getElem?_getD, h]; rfl
theorem keeps_pair8 {l : Lw} {due : Int} {a b : Snd} (gl : l.good) (ga : a.good) (gb : b.good) : keeps8 l due a b = keepsP l due [a, b] := keeps8_eq gl.span.1 ⟨ga.t.2.1, ga.s.2.1⟩ ⟨gb.t.2.1, gb.s.2.1⟩
theorem holds5_any (l : Lw) (A : Option Addr) (c : Nat) (LL : List LS) (G : Option Addr) (d : Nat) (g : List Int) (nt : Nat) (w : World) (hA : Rd w w.heap.size 1 A LL.length (lsC LL)) (hE : ElsS w LL) (gS : SGood l (rowsOf LL)) (hG : Rd w w.heap.size 1 G g.length (ic g)) (hgd : g.length ≤ d) (hg6 : g.length ≤ 999) (hgL : ∀ r ∈ g, 0 ≤ r ∧ r < LL.length) (hnt : nt < notesP (rowsOf LL))  :
   Calls Tryz.prog 94 #[.agg #[Zi l.first, Zi l.step, Zi l.span, Zi l.press, .slice A LL.length c], .slice G g.length d, Zi (nt : Int)] w fun e w' => e = .returned (Zi (keepsP l (l.first + l.step * (nt : Int)) (voicesP (rowsOf LL) g nt))) ∧ Below w.heap.size w w' := by
 obtain ⟨bA, oA, SA⟩ := Sp.old hA
 obtain ⟨bG, oG, SG⟩ := Sp.old hG
 have hnt6 := gS.notes
 have nE : ∀ x ∈ LL, x.1.length ≤ 1000000 := fun x hx => by have := (gS.rows x.1 (List.mem_map.2 ⟨x, hx, rfl⟩)).1; omega
 have gd := gS.dues nt hnt
 simp only [dueO, decide_eq_true_eq] at gd
 have gl := gS.law
 have hnt9 : 0 ≤ (nt : Int) ∧ (nt : Int) ≤ 11 := by omega
 have hgood : ∀ s ∈ (voicesP (rowsOf LL) g nt), s.good := voicesP_good gS (fun r hr => by have := hgL r hr; simpa using this) (by omega)
 refine Zpx noEx Tryz.func94 rfl 63 rfl [.agg #[Zi l.first, Zi l.step, Zi l.span, Zi l.press, .slice A LL.length c], .slice G g.length d, Zi (nt : Int)] rfl rfl (Mem.init w _) ?_
 intro ac wc T M
 refine Zsr ?_
 refine Zl2 ?_
 refine Zob M T rfl rfl rfl rfl (T.e 0 rfl) rfl ?_; clear M T; intro g1 wc ac M T
 refine lq T (Zra rfl evc) ?_; clear T ac; intro ac T
 replace T := T.pick [1, 3, 4] rfl
 refine Zln ?_
 refine Zsr ?_
 refine lq T (Zra rfl evc) ?_; clear T ac; intro ac T
 refine Zln ?_
 refine wp_seq ?_
 refine Zsr ?_
 refine lq T (Zra rfl evc) ?_; clear T ac; intro ac T
 refine Zln ?_
 refine wp_block ?_
 refine wp_loop_n (fun mz ac wc => ∃ (i : Nat) (al : Bool), mz = g.length - i ∧ (i ≤ g.length) ∧ (nexts8 l (l.first + l.step * (nt : Int)) (voicesP (rowsOf LL) g nt) = (al && nexts8 l (l.first + l.step * (nt : Int)) ((voicesP (rowsOf LL) g nt).drop i))) ∧ Tm ac 63 [(1, .slice G g.length d), (2, Zi (nt : Int)), (3, Zj g1), (7, .bool al), (8, Zi ((i + 1 : Nat) : Int))] ∧ Mem w noEx wc [(g1, .cells [Zi l.first, Zi l.step, Zi l.span, Zi l.press, .slice A LL.length c])]) ?_ ?_
 ·exact ⟨_, 0, true, rfl, (Nat.zero_le _), (by rw [List.drop_zero, Bool.true_and]), T.pick [3, 4, 2, 1, 0] rfl, M.mask [true] rfl⟩
 clear T M
 rintro mz ac wc ⟨i, al, hmm1, hi, H, T, M⟩
 refine wp_seq ?_
 refine Zsr ?_
 refine Zg4 T (Zq (Zrm rfl (T.e 4 rfl))) rfl (Zm 1 rfl rfl) rfl (Zl Tryz.underlying33 0 rfl rfl) rfl (fun _ T => Zq (rn_lss rfl (T.e 2 rfl) (T.e 0 rfl))) rfl ?_; clear T ac; intro ac T
 replace T := T.pick [0, 4, 5, 6, 7, 8] rfl
 refine Zln ?_
 refine wp_if (T.e 0 rfl) ?_ ?_
 ·intro h1
  obtain ⟨ra, hkra, -⟩ := ic_next (l := g) (k := i) (by omega)
  obtain ⟨rb, hkrb, -⟩ := ic_next (l := g) (k := i + 1) (by omega)
  have hba := hgL ra (List.mem_of_getElem? hkra)
  have hbb := hgL rb (List.mem_of_getElem? hkrb)
  obtain ⟨ka, hka⟩ : ∃ q : Nat, ra = (q : Int) := ⟨ra.toNat, by omega⟩
  obtain ⟨kb, hkb⟩ : ∃ q : Nat, rb = (q : Int) := ⟨rb.toNat, by omega⟩
  obtain ⟨⟨x1, B1, d1⟩, hk1⟩ : ∃ x, LL[ka]? = some x := ⟨_, List.getElem?_eq_getElem (by omega)⟩
  obtain ⟨bs1, os1, Ss1⟩ := Sp.old (hE _ (List.mem_of_getElem? hk1))
  dsimp only at Ss1
  have nx1 := nE _ (List.mem_of_getElem? hk1)
  dsimp only at nx1
  obtain ⟨⟨x2, B2, d2⟩, hk2⟩ : ∃ x, LL[kb]? = some x := ⟨_, List.getElem?_eq_getElem (by omega)⟩
  obtain ⟨bs2, os2, Ss2⟩ := Sp.old (hE _ (List.mem_of_getElem? hk2))
  dsimp only at Ss2
  have nx2 := nE _ (List.mem_of_getElem? hk2)
  dsimp only at nx2
  have hrw1 := gS.rows x1 (List.mem_map.2 ⟨_, List.mem_of_getElem? hk1, rfl⟩)
  have hrw2 := gS.rows x2 (List.mem_map.2 ⟨_, List.mem_of_getElem? hk2, rfl⟩)
  obtain ⟨ya, hkya, -⟩ := sc_next (l := x1) (k := nt) (by omega)
  obtain ⟨yb, hkyb, -⟩ := sc_next (l := x2) (k := nt) (by omega)
  have gya := hrw1.2.2 ya (List.mem_of_getElem? hkya)
  have gyb := hrw2.2.2 yb (List.mem_of_getElem? hkyb)
  have hva := voiceP_at hk1 hka hkya
  have hvb := voiceP_at hk2 hkb hkyb
  have hm1 : (((i + 1 : Nat) : Int) - 1) = (i : Int) := by omega
  rw [nexts_step ((voices_get hkra).trans (by rw [hva])) ((voices_get hkrb).trans (by rw [hvb])), keeps_pair8 gl gya gyb] at H
  refine Zsk ?_
  refine wp_seq ?_
  refine wp_block ?_
  refine Zgs M (M.mask [true] rfl) 32 (by kernel_rfl) rfl (by kernel_rfl) ?_
  clear M; intro wc M
  refine gq T 0 1 rfl (fun _ _ _ _ _ => (Zrm rfl (T.e 4 rfl))) ?_; clear T ac; intro ac T
  refine gq T 1 3 rfl (fun _ _ _ _ _ => (Zrm rfl (T.e 0 rfl))) ?_; clear T ac; intro ac T
  rcases Bool.eq_false_or_eq_true al with h2 | h2
  ·refine g_q (v := (Zj g1)) (T := T) (i := 2) rfl (by kernel_rfl) (by kernel_rfl : (Zpb 32 3).setIfInBounds 2 true = Zpb 32 7) si_U (fun _ _ _ h => h) (Zwy rfl rfl (T.e 0 rfl) h2) rfl rfl rfl (fun _ _ _ _ _ => (Zrf (off := 0) rfl (T.e 5 rfl) (fun _ _ _ => by kernel_rfl))) ?_; clear T ac; intro ac T
   refine g_q (T := T) (i := 3) rfl (by kernel_rfl) (by kernel_rfl : (Zpb 32 7).setIfInBounds 3 true = Zpb 32 15) si_U (fun _ _ _ h => h) (Zwy rfl rfl (T.e 1 rfl) h2) rfl rfl rfl (fun B w' hD hl hS => (Zrr (Mem.nth (show Mem w noEx w' _ from hS) 0 rfl) rfl (T.e 0 rfl) rfl)) ?_; clear T ac; intro ac T
   refine g_q (T := T) (i := 4) rfl (by kernel_rfl) (by kernel_rfl : (Zpb 32 15).setIfInBounds 4 true = Zpb 32 31) si_U (fun _ _ _ h => h) (Zwy rfl rfl (T.e 2 rfl) h2) rfl rfl rfl (fun _ _ _ _ _ => (Zrm rfl (T.e 6 rfl))) ?_; clear T ac; intro ac T
   refine g_q (v := (.pointer (some ⟨g1, 4, none⟩))) (T := T) (i := 5) rfl (by kernel_rfl) (by kernel_rfl : (Zpb 32 31).setIfInBounds 5 true = Zpb 32 63) si_U (fun _ _ _ h => h) (Zwy rfl rfl (T.e 3 rfl) h2) rfl rfl rfl (fun _ _ _ _ _ => (Zrf (off := 4) rfl (T.e 8 rfl) (fun _ _ _ => by kernel_rfl))) ?_; clear T ac; intro ac T
   refine g_q (T := T) (i := 6) rfl (by kernel_rfl) (by kernel_rfl : (Zpb 32 63).setIfInBounds 6 true = Zpb 32 127) si_U (fun _ _ _ h => h) (Zwy rfl rfl (T.e 4 rfl) h2) rfl rfl rfl (fun B w' hD hl hS => (Zro (Mem.nth (show Mem w noEx w' _ from hS) 0 rfl) rfl (T.e 0 rfl) rfl)) ?_; clear T ac; intro ac T
   refine g_q (T := T) (i := 7) rfl (by kernel_rfl) (by kernel_rfl : (Zpb 32 127).setIfInBounds 7 true = Zpb 32 255) si_U (fun _ _ _ h => h) (Zwy rfl rfl (T.e 5 rfl) h2) rfl rfl rfl (fun _ _ _ _ _ => (Zrm rfl (T.e 8 rfl))) ?_; clear T ac; intro ac T
   refine g_q (T := T) (i := 8) rfl (by kernel_rfl) (by kernel_rfl : (Zpb 32 255).setIfInBounds 8 true = Zpb 32 511) si_U (fun _ _ _ h => h) (Zwy rfl rfl (T.e 6 rfl) h2) rfl rfl rfl (fun _ _ _ _ _ => (Zrm rfl (T.e 13 rfl))) ?_; clear T ac; intro ac T
   refine g_q (T := T) (i := 9) rfl (by kernel_rfl) (by kernel_rfl : (Zpb 32 511).setIfInBounds 9 true = Zpb 32 1023) si_U (fun _ _ _ h => h) (Zwy rfl rfl (T.e 7 rfl) h2) rfl rfl rfl (fun _ _ _ _ _ => (rn_sub rfl (T.e 0 rfl) evc (by omega))) ?_; clear T ac; intro ac T
   refine g_q (T := T) (i := 10) rfl (by kernel_rfl) (by kernel_rfl : (Zpb 32 1023).setIfInBounds 10 true = Zpb 32 2047) si_U (fun _ _ _ h => h) (Zwy rfl rfl (T.e 8 rfl) h2) rfl rfl rfl (fun _ _ _ _ _ => (Zri (size := 1) i rfl (T.e 2 rfl) (T.e 0 rfl) ⟨_, Tryz.underlying33, by kernel_rfl⟩ hm1 (by omega) (SG.at0 (by omega)))) ?_; clear T ac; intro ac T
   refine g_q (T := T) (i := 11) rfl (by kernel_rfl) (by kernel_rfl : (Zpb 32 2047).setIfInBounds 11 true = Zpb 32 4095) si_U (fun _ _ _ h => h) (Zwy rfl rfl (T.e 9 rfl) h2) rfl rfl rfl (fun B w' hD hl hS => (rn_cell (Sp.ic0 SG (show Mem w noEx w' _ from hS) (Zz9 _) hkra) rfl (T.e 0 rfl))) ?_; clear T ac; intro ac T
   refine g_q (T := T) (i := 12) rfl (by kernel_rfl) (by kernel_rfl : (Zpb 32 4095).setIfInBounds 12 true = Zpb 32 8191) si_U (fun _ _ _ h => h) (Zwy rfl rfl (T.e 10 rfl) h2) rfl rfl rfl (fun _ _ _ _ _ => (Zri (size := 1) ka rfl (T.e 5 rfl) (T.e 0 rfl) ⟨_, Tryz.underlying62, by kernel_rfl⟩ hka (by omega) (SA.at0 (by omega)))) ?_; clear T ac; intro ac T
   refine g_q (v := (.slice B1 x1.length d1)) (T := T) (i := 13) rfl (by kernel_rfl) (by kernel_rfl : (Zpb 32 8191).setIfInBounds 13 true = Zpb 32 16383) si_U (fun _ _ _ h => h) (Zwy rfl rfl (T.e 11 rfl) h2) rfl rfl rfl (fun B w' hD hl hS => (rn_cell (Sp.ls0 SA (show Mem w noEx w' _ from hS) (Zz9 _) hk1) rfl (T.e 0 rfl))) ?_; clear T ac; intro ac T
   refine g_q (T := T) (i := 14) rfl (by kernel_rfl) (by kernel_rfl : (Zpb 32 16383).setIfInBounds 14 true = Zpb 32 32767) si_U (fun _ _ _ h => h) (Zwy rfl rfl (T.e 12 rfl) h2) rfl rfl rfl (fun _ _ _ _ _ => (Zrm rfl (T.e 16 rfl))) ?_; clear T ac; intro ac T
   refine g_q (T := T) (i := 15) rfl (by kernel_rfl) (by kernel_rfl : (Zpb 32 32767).setIfInBounds 15 true = Zpb 32 65535) si_U (fun _ _ _ h => h) (Zwy rfl rfl (T.e 13 rfl) h2) rfl rfl rfl (fun _ _ _ _ _ => (Zri (size := 4) nt rfl (T.e 1 rfl) (T.e 0 rfl) ⟨_, Tryz.underlying24, by kernel_rfl⟩ rfl (by omega) (Ss1.at0 (by omega)))) ?_; clear T ac; intro ac T
   refine g_q (v := (.agg #[Zi ya.t0, Zi ya.t1, Zi ya.s0, Zi ya.s1])) (T := T) (i := 16) rfl (by kernel_rfl) (by kernel_rfl : (Zpb 32 65535).setIfInBounds 16 true = Zpb 32 131071) si_U (fun _ _ _ h => h) (Zwy rfl rfl (T.e 14 rfl) h2) rfl rfl rfl (fun B w' hD hl hS => (rn_rowat (Sp.scR4 Ss1 (show Mem w noEx w' _ from hS) (Zz9 _) hkya) rfl (T.e 0 rfl) rfl)) ?_; clear T ac; intro ac T
   refine g_q (v := (.pointer (some ⟨g1, 4, none⟩))) (T := T) (i := 17) rfl (by kernel_rfl) (by kernel_rfl : (Zpb 32 131071).setIfInBounds 17 true = Zpb 32 262143) si_U (fun _ _ _ h => h) (Zwy rfl rfl (T.e 15 rfl) h2) rfl rfl rfl (fun _ _ _ _ _ => (Zrf (off := 4) rfl (T.e 20 rfl) (fun _ _ _ => by kernel_rfl))) ?_; clear T ac; intro ac T
   refine g_q (T := T) (i := 18) rfl (by kernel_rfl) (by kernel_rfl : (Zpb 32 262143).setIfInBounds 18 true = Zpb 32 524287) si_U (fun _ _ _ h => h) (Zwy rfl rfl (T.e 16 rfl) h2) rfl rfl rfl (fun B w' hD hl hS => (Zro (Mem.nth (show Mem w noEx w' _ from hS) 0 rfl) rfl (T.e 0 rfl) rfl)) ?_; clear T ac; intro ac T
   refine g_q (T := T) (i := 19) rfl (by kernel_rfl) (by kernel_rfl : (Zpb 32 524287).setIfInBounds 19 true = Zpb 32 1048575) si_U (fun _ _ _ h => h) (Zwy rfl rfl (T.e 17 rfl) h2) rfl rfl rfl (fun _ _ _ _ _ => (Zrm rfl (T.e 20 rfl))) ?_; clear T ac; intro ac T
   refine g_q (T := T) (i := 20) rfl (by kernel_rfl) (by kernel_rfl : (Zpb 32 1048575).setIfInBounds 20 true = Zpb 32 2097151) si_U (fun _ _ _ h => h) (Zwy rfl rfl (T.e 18 rfl) h2) rfl rfl rfl (fun _ _ _ _ _ => (Zrm rfl (T.e 25 rfl))) ?_; clear T ac; intro ac T
   refine g_q (T := T) (i := 21) rfl (by kernel_rfl) (by kernel_rfl : (Zpb 32 2097151).setIfInBounds 21 true = Zpb 32 4194303) si_U (fun _ _ _ h => h) (Zwy rfl rfl (T.e 19 rfl) h2) rfl rfl rfl (fun _ _ _ _ _ => (Zri (size := 1) (i + 1) rfl (T.e 1 rfl) (T.e 0 rfl) ⟨_, Tryz.underlying33, by kernel_rfl⟩ rfl (by omega) (SG.at0 (by omega)))) ?_; clear T ac; intro ac T
   refine g_q (T := T) (i := 22) rfl (by kernel_rfl) (by kernel_rfl : (Zpb 32 4194303).setIfInBounds 22 true = Zpb 32 8388607) si_U (fun _ _ _ h => h) (Zwy rfl rfl (T.e 20 rfl) h2) rfl rfl rfl (fun B w' hD hl hS => (rn_cell (Sp.ic0 SG (show Mem w noEx w' _ from hS) (Zz9 _) hkrb) rfl (T.e 0 rfl))) ?_; clear T ac; intro ac T
   refine g_q (T := T) (i := 23) rfl (by kernel_rfl) (by kernel_rfl : (Zpb 32 8388607).setIfInBounds 23 true = Zpb 32 16777215) si_U (fun _ _ _ h => h) (Zwy rfl rfl (T.e 21 rfl) h2) rfl rfl rfl (fun _ _ _ _ _ => (Zri (size := 1) kb rfl (T.e 4 rfl) (T.e 0 rfl) ⟨_, Tryz.underlying62, by kernel_rfl⟩ hkb (by omega) (SA.at0 (by omega)))) ?_; clear T ac; intro ac T
   refine g_q (v := (.slice B2 x2.length d2)) (T := T) (i := 24) rfl (by kernel_rfl) (by kernel_rfl : (Zpb 32 16777215).setIfInBounds 24 true = Zpb 32 33554431) si_U (fun _ _ _ h => h) (Zwy rfl rfl (T.e 22 rfl) h2) rfl rfl rfl (fun B w' hD hl hS => (rn_cell (Sp.ls0 SA (show Mem w noEx w' _ from hS) (Zz9 _) hk2) rfl (T.e 0 rfl))) ?_; clear T ac; intro ac T
   refine g_q (T := T) (i := 25) rfl (by kernel_rfl) (by kernel_rfl : (Zpb 32 33554431).setIfInBounds 25 true = Zpb 32 67108863) si_U (fun _ _ _ h => h) (Zwy rfl rfl (T.e 23 rfl) h2) rfl rfl rfl (fun _ _ _ _ _ => (Zrm rfl (T.e 27 rfl))) ?_; clear T ac; intro ac T
   refine g_q (T := T) (i := 26) rfl (by kernel_rfl) (by kernel_rfl : (Zpb 32 67108863).setIfInBounds 26 true = Zpb 32 134217727) si_U (fun _ _ _ h => h) (Zwy rfl rfl (T.e 24 rfl) h2) rfl rfl rfl (fun _ _ _ _ _ => (Zri (size := 4) nt rfl (T.e 1 rfl) (T.e 0 rfl) ⟨_, Tryz.underlying24, by kernel_rfl⟩ rfl (by omega) (Ss2.at0 (by omega)))) ?_; clear T ac; intro ac T
   refine g_q (v := (.agg #[Zi yb.t0, Zi yb.t1, Zi yb.s0, Zi yb.s1])) (T := T) (i := 27) rfl (by kernel_rfl) (by kernel_rfl : (Zpb 32 134217727).setIfInBounds 27 true = Zpb 32 268435455) si_U (fun _ _ _ h => h) (Zwy rfl rfl (T.e 25 rfl) h2) rfl rfl rfl (fun B w' hD hl hS => (rn_rowat (Sp.scR4 Ss2 (show Mem w noEx w' _ from hS) (Zz9 _) hkyb) rfl (T.e 0 rfl) rfl)) ?_; clear T ac; intro ac T
   refine g_w (i := 28) (by kernel_rfl) rfl (by kernel_rfl : (Zpb 32 268435455).setIfInBounds 28 true = Zpb 32 536870911) (Zwy rfl rfl (T.e 26 rfl) h2) ?_; intro K hK
   refine Zoc (first := []) (cap := []) T rfl rfl rfl rfl evf (.cons (T.e 24 rfl) (.cons (T.e 23 rfl) (.cons (T.e 11 rfl) (.cons (T.e 0 rfl) .nil)))) Tryz.func81 rfl rfl ?_
   refine Calls.mono (keeps5_any l (nt : Int) ya yb _ gl hnt9 gd gya gyb) ?_
   clear T; rintro e wc ⟨rfl, hb⟩ ac T
   replace M := M.call hb; clear hb
   refine Zso hK _ _ (M.mask [true] rfl) ?_; clear hK K
   refine g_q (T := T) (i := 29) rfl (by kernel_rfl) (by kernel_rfl : (Zpb 32 536870911).setIfInBounds 29 true = Zpb 32 1073741823) si_U (fun _ _ _ h => h) (Zwy rfl rfl (T.e 27 rfl) h2) rfl rfl rfl (fun _ _ _ _ _ => (rn_eql rfl (T.e 0 rfl) evc)) ?_; clear T ac; intro ac T
   refine gq T 30 2147483647 rfl (fun _ _ _ _ _ => (Zr1 rfl (T.e 28 rfl) h2 (T.e 0 rfl))) ?_; clear T ac; intro ac T
   refine g_q (v := (.bool (decide ((keepsP l (l.first + l.step * (nt : Int)) [ya, yb]) = 1)))) (T := T.pick [0, 1, 2, 3, 4, 5, 6, 7, 8, 9, 10, 11, 12, 13, 14, 15, 16, 17, 18, 19, 20, 21, 22, 23, 24, 25, 26, 27, 28, 29, 30, 31, 32, 33, 34, 36] rfl) (i := 31) rfl (by kernel_rfl) (by kernel_rfl : (Zpb 32 2147483647).setIfInBounds 31 true = Zpb 32 4294967295) si_U (fun _ _ _ h => h) rfl rfl rfl rfl (fun _ _ _ _ _ => (Zra rfl (T.e 0 rfl))) ?_; clear T ac; intro ac T
   refine Zgd (by kernel_rfl) ?_
   replace T := T.pick [0, 2, 3, 4, 5, 6, 7, 8, 9, 10, 11, 12, 13, 14, 15, 16, 17, 18, 19, 20, 21, 22, 23, 24, 25, 26, 27, 28, 29, 33, 34, 35, 36] rfl
   refine Znb ?_
   refine nm_then ?_
   refine wp_region_lit ?_
   refine Zg2 T (Zq (Zrm rfl (T.e 32 rfl))) rfl (fun _ T => Zq (rn_add rfl (T.e 0 rfl) evc (by omega))) rfl ?_; clear T ac; intro ac T
   refine l_q (v := (Zi (((i + 1 : Nat) : Int) + 1))) (T.pick [0, 1, 2, 3, 4, 5, 6, 7, 8, 9, 10, 11, 12, 13, 14, 15, 16, 17, 18, 19, 20, 21, 22, 23, 24, 25, 26, 27, 28, 29, 30, 31, 32, 33] rfl) rfl rfl rfl rfl (Zra rfl (T.e 0 rfl)) ?_; clear T ac; intro ac T
   replace T := T.pick [0, 3, 4, 5, 6, 7, 8, 9, 10, 11, 12, 13, 14, 15, 16, 17, 18, 19, 20, 21, 22, 23, 24, 25, 26, 27, 28, 29, 30, 31, 32, 33, 34] rfl
   refine Zln ?_
   exact ⟨_, by omega, i + 1, _, rfl, (by omega), (by rw [H]; first | (rw [show al = true by assumption, Bool.true_and]; done) | (rw [show al = true by assumption, Bool.true_and, Bool.true_and]; done) | (rw [show al = true by assumption]; rfl) | (rw [show al = false by assumption]; rfl)), T.pick [30, 31, 32, 1, 0] rfl, M.mask [true] rfl⟩
  refine g_pass (T := T) (i := 2) rfl (by kernel_rfl) (by kernel_rfl : (Zpb 32 3).setIfInBounds 2 true = Zpb 32 7) si_U (fun _ _ _ h => h) (Zwn rfl rfl (T.e 0 rfl) h2) rfl rfl rfl ?_; clear T ac; intro ac T
  refine g_pass (T := T) (i := 3) rfl (by kernel_rfl) (by kernel_rfl : (Zpb 32 7).setIfInBounds 3 true = Zpb 32 15) si_U (fun _ _ _ h => h) (Zwn rfl rfl (T.e 1 rfl) h2) rfl rfl rfl ?_; clear T ac; intro ac T
  refine g_pass (T := T) (i := 4) rfl (by kernel_rfl) (by kernel_rfl : (Zpb 32 15).setIfInBounds 4 true = Zpb 32 31) si_U (fun _ _ _ h => h) (Zwn rfl rfl (T.e 2 rfl) h2) rfl rfl rfl ?_; clear T ac; intro ac T
  refine g_pass (T := T) (i := 5) rfl (by kernel_rfl) (by kernel_rfl : (Zpb 32 31).setIfInBounds 5 true = Zpb 32 63) si_U (fun _ _ _ h => h) (Zwn rfl rfl (T.e 3 rfl) h2) rfl rfl rfl ?_; clear T ac; intro ac T
  refine g_pass (T := T) (i := 6) rfl (by kernel_rfl) (by kernel_rfl : (Zpb 32 63).setIfInBounds 6 true = Zpb 32 127) si_U (fun _ _ _ h => h) (Zwn rfl rfl (T.e 4 rfl) h2) rfl rfl rfl ?_; clear T ac; intro ac T
  refine g_pass (T := T) (i := 7) rfl (by kernel_rfl) (by kernel_rfl : (Zpb 32 127).setIfInBounds 7 true = Zpb 32 255) si_U (fun _ _ _ h => h) (Zwn rfl rfl (T.e 5 rfl) h2) rfl rfl rfl ?_; clear T ac; intro ac T
  refine g_pass (T := T) (i := 8) rfl (by kernel_rfl) (by kernel_rfl : (Zpb 32 255).setIfInBounds 8 true = Zpb 32 511) si_U (fun _ _ _ h => h) (Zwn rfl rfl (T.e 6 rfl) h2) rfl rfl rfl ?_; clear T ac; intro ac T
  refine g_pass (T := T) (i := 9) rfl (by kernel_rfl) (by kernel_rfl : (Zpb 32 511).setIfInBounds 9 true = Zpb 32 1023) si_U (fun _ _ _ h => h) (Zwn rfl rfl (T.e 7 rfl) h2) rfl rfl rfl ?_; clear T ac; intro ac T
  refine g_pass (T := T) (i := 10) rfl (by kernel_rfl) (by kernel_rfl : (Zpb 32 1023).setIfInBounds 10 true = Zpb 32 2047) si_U (fun _ _ _ h => h) (Zwn rfl rfl (T.e 8 rfl) h2) rfl rfl rfl ?_; clear T ac; intro ac T
  refine g_pass (T := T) (i := 11) rfl (by kernel_rfl) (by kernel_rfl : (Zpb 32 2047).setIfInBounds 11 true = Zpb 32 4095) si_U (fun _ _ _ h => h) (Zwn rfl rfl (T.e 9 rfl) h2) rfl rfl rfl ?_; clear T ac; intro ac T
  refine g_pass (T := T) (i := 12) rfl (by kernel_rfl) (by kernel_rfl : (Zpb 32 4095).setIfInBounds 12 true = Zpb 32 8191) si_U (fun _ _ _ h => h) (Zwn rfl rfl (T.e 10 rfl) h2) rfl rfl rfl ?_; clear T ac; intro ac T
  refine g_pass (T := T) (i := 13) rfl (by kernel_rfl) (by kernel_rfl : (Zpb 32 8191).setIfInBounds 13 true = Zpb 32 16383) si_U (fun _ _ _ h => h) (Zwn rfl rfl (T.e 11 rfl) h2) rfl rfl rfl ?_; clear T ac; intro ac T
  refine g_pass (T := T) (i := 14) rfl (by kernel_rfl) (by kernel_rfl : (Zpb 32 16383).setIfInBounds 14 true = Zpb 32 32767) si_U (fun _ _ _ h => h) (Zwn rfl rfl (T.e 12 rfl) h2) rfl rfl rfl ?_; clear T ac; intro ac T
  refine g_pass (T := T) (i := 15) rfl (by kernel_rfl) (by kernel_rfl : (Zpb 32 32767).setIfInBounds 15 true = Zpb 32 65535) si_U (fun _ _ _ h => h) (Zwn rfl rfl (T.e 13 rfl) h2) rfl rfl rfl ?_; clear T ac; intro ac T
  refine g_pass (T := T) (i := 16) rfl (by kernel_rfl) (by kernel_rfl : (Zpb 32 65535).setIfInBounds 16 true = Zpb 32 131071) si_U (fun _ _ _ h => h) (Zwn rfl rfl (T.e 14 rfl) h2) rfl rfl rfl ?_; clear T ac; intro ac T
  refine g_pass (T := T) (i := 17) rfl (by kernel_rfl) (by kernel_rfl : (Zpb 32 131071).setIfInBounds 17 true = Zpb 32 262143) si_U (fun _ _ _ h => h) (Zwn rfl rfl (T.e 15 rfl) h2) rfl rfl rfl ?_; clear T ac; intro ac T
  refine g_pass (T := T) (i := 18) rfl (by kernel_rfl) (by kernel_rfl : (Zpb 32 262143).setIfInBounds 18 true = Zpb 32 524287) si_U (fun _ _ _ h => h) (Zwn rfl rfl (T.e 16 rfl) h2) rfl rfl rfl ?_; clear T ac; intro ac T
  refine g_pass (T := T) (i := 19) rfl (by kernel_rfl) (by kernel_rfl : (Zpb 32 524287).setIfInBounds 19 true = Zpb 32 1048575) si_U (fun _ _ _ h => h) (Zwn rfl rfl (T.e 17 rfl) h2) rfl rfl rfl ?_; clear T ac; intro ac T
  refine g_pass (T := T) (i := 20) rfl (by kernel_rfl) (by kernel_rfl : (Zpb 32 1048575).setIfInBounds 20 true = Zpb 32 2097151) si_U (fun _ _ _ h => h) (Zwn rfl rfl (T.e 18 rfl) h2) rfl rfl rfl ?_; clear T ac; intro ac T
  refine g_pass (T := T) (i := 21) rfl (by kernel_rfl) (by kernel_rfl : (Zpb 32 2097151).setIfInBounds 21 true = Zpb 32 4194303) si_U (fun _ _ _ h => h) (Zwn rfl rfl (T.e 19 rfl) h2) rfl rfl rfl ?_; clear T ac; intro ac T
  refine g_pass (T := T) (i := 22) rfl (by kernel_rfl) (by kernel_rfl : (Zpb 32 4194303).setIfInBounds 22 true = Zpb 32 8388607) si_U (fun _ _ _ h => h) (Zwn rfl rfl (T.e 20 rfl) h2) rfl rfl rfl ?_; clear T ac; intro ac T
  refine g_pass (T := T) (i := 23) rfl (by kernel_rfl) (by kernel_rfl : (Zpb 32 8388607).setIfInBounds 23 true = Zpb 32 16777215) si_U (fun _ _ _ h => h) (Zwn rfl rfl (T.e 21 rfl) h2) rfl rfl rfl ?_; clear T ac; intro ac T
  refine g_pass (T := T) (i := 24) rfl (by kernel_rfl) (by kernel_rfl : (Zpb 32 16777215).setIfInBounds 24 true = Zpb 32 33554431) si_U (fun _ _ _ h => h) (Zwn rfl rfl (T.e 22 rfl) h2) rfl rfl rfl ?_; clear T ac; intro ac T
  refine g_pass (T := T) (i := 25) rfl (by kernel_rfl) (by kernel_rfl : (Zpb 32 33554431).setIfInBounds 25 true = Zpb 32 67108863) si_U (fun _ _ _ h => h) (Zwn rfl rfl (T.e 23 rfl) h2) rfl rfl rfl ?_; clear T ac; intro ac T
  refine g_pass (T := T) (i := 26) rfl (by kernel_rfl) (by kernel_rfl : (Zpb 32 67108863).setIfInBounds 26 true = Zpb 32 134217727) si_U (fun _ _ _ h => h) (Zwn rfl rfl (T.e 24 rfl) h2) rfl rfl rfl ?_; clear T ac; intro ac T
  refine g_pass (T := T) (i := 27) rfl (by kernel_rfl) (by kernel_rfl : (Zpb 32 134217727).setIfInBounds 27 true = Zpb 32 268435455) si_U (fun _ _ _ h => h) (Zwn rfl rfl (T.e 25 rfl) h2) rfl rfl rfl ?_; clear T ac; intro ac T
  refine g_pass (T := T) (i := 28) rfl (by kernel_rfl) (by kernel_rfl : (Zpb 32 268435455).setIfInBounds 28 true = Zpb 32 536870911) si_U (fun _ _ _ h => h) (Zwn rfl rfl (T.e 26 rfl) h2) rfl rfl rfl ?_; clear T ac; intro ac T
  refine g_pass (T := T) (i := 29) rfl (by kernel_rfl) (by kernel_rfl : (Zpb 32 536870911).setIfInBounds 29 true = Zpb 32 1073741823) si_U (fun _ _ _ h => h) (Zwn rfl rfl (T.e 27 rfl) h2) rfl rfl rfl ?_; clear T ac; intro ac T
  refine gq T 30 2147483647 rfl (fun _ _ _ _ _ => (Zr0 rfl (T.e 28 rfl) h2 evc)) ?_; clear T ac; intro ac T
  refine g_q (v := (.bool false)) (T := T.pick [0, 1, 2, 3, 4, 5, 6, 7, 8, 9, 10, 11, 12, 13, 14, 15, 16, 17, 18, 19, 20, 21, 22, 23, 24, 25, 26, 27, 28, 29, 30, 31, 32, 33, 34, 36] rfl) (i := 31) rfl (by kernel_rfl) (by kernel_rfl : (Zpb 32 2147483647).setIfInBounds 31 true = Zpb 32 4294967295) si_U (fun _ _ _ h => h) rfl rfl rfl rfl (fun _ _ _ _ _ => (Zra rfl (T.e 0 rfl))) ?_; clear T ac; intro ac T
  refine Zgd (by kernel_rfl) ?_
  replace T := T.pick [0, 2, 3, 4, 5, 6, 7, 8, 9, 10, 11, 12, 13, 14, 15, 16, 17, 18, 19, 20, 21, 22, 23, 24, 25, 26, 27, 28, 29, 33, 34, 35, 36] rfl
  refine Znb ?_
  refine nm_then ?_
  refine wp_region_lit ?_
  refine Zg2 T (Zq (Zrm rfl (T.e 32 rfl))) rfl (fun _ T => Zq (rn_add rfl (T.e 0 rfl) evc (by omega))) rfl ?_; clear T ac; intro ac T
  refine l_q (v := (Zi (((i + 1 : Nat) : Int) + 1))) (T.pick [0, 1, 2, 3, 4, 5, 6, 7, 8, 9, 10, 11, 12, 13, 14, 15, 16, 17, 18, 19, 20, 21, 22, 23, 24, 25, 26, 27, 28, 29, 30, 31, 32, 33] rfl) rfl rfl rfl rfl (Zra rfl (T.e 0 rfl)) ?_; clear T ac; intro ac T
  replace T := T.pick [0, 3, 4, 5, 6, 7, 8, 9, 10, 11, 12, 13, 14, 15, 16, 17, 18, 19, 20, 21, 22, 23, 24, 25, 26, 27, 28, 29, 30, 31, 32, 33, 34] rfl
  refine Zln ?_
  exact ⟨_, by omega, i + 1, _, rfl, (by omega), (by rw [H]; first | (rw [show al = true by assumption, Bool.true_and]; done) | (rw [show al = true by assumption, Bool.true_and, Bool.true_and]; done) | (rw [show al = true by assumption]; rfl) | (rw [show al = false by assumption]; rfl)), T.pick [30, 31, 32, 1, 0] rfl, M.mask [true] rfl⟩
 intro h1
 rw [nexts_end (by rw [show (voicesP (rowsOf LL) g nt).length = g.length by simp [voicesP]]; omega), Bool.and_true] at H
 refine wp_exit ?_
 refine Zet ?_
 refine Zet ?_
 refine ex_hit ?_
 refine Zns ?_
 refine Zsr ?_
 refine lq T (Zrm rfl (T.e 4 rfl)) ?_; clear T ac; intro ac T
 replace T := T.pick [0, 2, 3, 4] rfl
 refine Zln ?_
 refine wp_cond_split (T.e 0 rfl) ?_ ?_
 ·intro h3
  refine Zsr ?_
  refine lq T (Zra rfl evc) ?_; clear T ac; intro ac T
  refine wpList_nil ?_
  replace T := T.pick [0] rfl
  replace M := M.mask [false] rfl
  refine Znr ?_
  refine Zrt ?_
  refine rt_1 T rfl (T.e 0 rfl) ?_
  have e9 : keepsP l (l.first + l.step * (nt : Int)) (voicesP (rowsOf LL) g nt) = 1 := by rw [← holds8_eq gl.span.1 hgood]; unfold holds8; rw [if_pos (H.trans h3)]
  rw [e9]
  exact ⟨rfl, M.below⟩
 intro h3
 have hal9 : al = false := h3
 have hg1 : 1 ≤ g.length := by rcases Nat.eq_zero_or_pos g.length with h0 | h0; (rw [List.eq_nil_of_length_eq_zero h0, hal9] at H; cases H); exact h0
 refine Zsk ?_
 refine Zsr ?_
 refine Zg3 T (Zq (Zrr (Mem.nth M 0 rfl) rfl (T.e 3 rfl) rfl)) rfl (Zm 2 rfl rfl) rfl (Zm 4 rfl rfl) rfl ?_; clear T ac; intro ac T
 refine Zl2 ?_
 obtain ⟨m9, hm9⟩ : ∃ k, g.length = k + 1 := ⟨g.length - 1, by omega⟩
 refine Zoc (first := []) (cap := []) T rfl rfl rfl rfl evf (.cons (T.e 2 rfl) (.cons (T.e 1 rfl) (.cons (T.e 0 rfl) .nil))) Tryz.func125 rfl rfl ?_
 refine Calls.mono (can_any l A c LL nt gS hnt m9 (by omega) _ _ g _ hm9 hgd (SA.rd M (Zz9 _)) (fun x hx => M.rd (hE x hx) (Nat.le_refl _)) (SG.rd M (Zz9 _)) hgL) ?_
 clear T; rintro e wc ⟨ACu2, cCu2, ICu2, rfl, SVCu2, N⟩ ac T
 obtain ⟨bACu2, oACu2, SVCu2⟩ := SVCu2
 have SACu2 := SVCu2 w noEx
 replace M := (M.join N).swapI
 clear N
 replace M : Mem w noEx wc ((g1, .cells [Zi l.first, Zi l.step, Zi l.span, Zi l.press, .slice A LL.length c]) :: ICu2) := M
 refine lq T (Zra rfl (T.e 0 rfl)) ?_; clear T ac; intro ac T
 refine wpList_nil ?_
 replace T := T.pick [0] rfl
 replace M := M.mask [false] rfl
 refine Zns ?_
 refine Zsr ?_
 refine lq T (Zra rfl evc) ?_; clear T ac; intro ac T
 refine Zln ?_
 refine wp_block ?_
 refine wp_loop_n (fun mz ac wc => ∃ (j : Nat), mz = 427 - j ∧ (j ≤ 427) ∧ (∀ q, q < j → canF l (l.first + l.step * (nt : Int)) (voicesP (rowsOf LL) g nt) q = false) ∧ Tm ac 63 [(9, .slice ACu2 427 cCu2), (10, Zi (j : Int))] ∧ Mem w noEx wc (ICu2)) ?_ ?_
 ·exact ⟨_, 0, rfl, (Nat.zero_le _), (fun q h => by omega), T.pick [1, 0] rfl, M.mask [] rfl⟩
 clear T M
 rintro mz ac wc ⟨j, hmm2, hj, H2, T, M⟩
 refine wp_seq ?_
 refine Zsr ?_
 refine Zg4 (v3 := (Zi 427)) T (Zq (Zrm rfl (T.e 1 rfl))) rfl (Zm 1 rfl rfl) rfl (Zl Tryz.underlying155 0 rfl rfl) rfl (fun _ T => Zq (rn_lss rfl (T.e 2 rfl) (T.e 0 rfl))) rfl ?_; clear T ac; intro ac T
 replace T := T.pick [0, 4, 5] rfl
 refine Zln ?_
 refine wp_if (T.e 0 rfl) ?_ ?_
 ·intro h4
  obtain ⟨bv, hbv⟩ : ∃ q, q = canF l (l.first + l.step * (nt : Int)) (voicesP (rowsOf LL) g nt) j := ⟨_, rfl⟩
  have hkb := canB_at (l := l) (due := (l.first + l.step * (nt : Int))) (ts := (voicesP (rowsOf LL) g nt)) (i := j) (by omega)
  rw [← hbv] at hkb
  refine Zsk ?_
  refine wp_seq ?_
  refine wp_block ?_
  refine Zsr ?_
  refine Zg4 T (Zq (Zrm rfl (T.e 1 rfl))) rfl (Zm 3 rfl rfl) rfl (fun _ T => Zq (Zri (size := 1) j rfl (T.e 1 rfl) (T.e 0 rfl) ⟨_, Tryz.underlying155, by kernel_rfl⟩ rfl (by omega) (SACu2.at0 (by omega)))) rfl (fun _ T => Zq (rn_cell (Sp.boC0 SACu2 M (List.Sublist.refl _) hkb) rfl (T.e 0 rfl))) rfl ?_; clear T ac; intro ac T
  replace T := T.pick [0, 5, 6] rfl
  refine Zln ?_
  refine wp_cond_split (T.e 0 rfl) ?_ ?_
  ·intro h5
   refine Zsr ?_
   refine lq T (Zra rfl evc) ?_; clear T ac; intro ac T
   replace T := T.pick [0] rfl
   refine Zln ?_
   refine wp_ret ?_
   refine Zrb ?_
   refine Zrt ?_
   refine Zrt ?_
   refine Zrb ?_
   refine Zrt ?_
   refine rt_1 T rfl (T.e 0 rfl) ?_
   have e9 : keepsP l (l.first + l.step * (nt : Int)) (voicesP (rowsOf LL) g nt) = 3 := by rw [← holds8_eq gl.span.1 hgood]; unfold holds8; rw [if_neg (by rw [H, hal9]; decide), if_pos (List.any_eq_true.2 ⟨j, List.mem_range.2 (by omega), by rw [← hbv]; exact h5⟩)]
   rw [e9]
   exact ⟨rfl, M.below⟩
  intro h5
  refine wp_skip ?_
  refine Znb ?_
  refine nm_then ?_
  refine wp_region_lit ?_
  refine Zg2 T (Zq (Zrm rfl (T.e 2 rfl))) rfl (fun _ T => Zq (rn_add rfl (T.e 0 rfl) evc (by omega))) rfl ?_; clear T ac; intro ac T
  refine l_q (v := (Zi ((j : Int) + 1))) (T.pick [0, 1, 2, 3] rfl) rfl rfl rfl rfl (Zra rfl (T.e 0 rfl)) ?_; clear T ac; intro ac T
  replace T := T.pick [0, 4] rfl
  refine Zln ?_
  exact ⟨_, by omega, j + 1, rfl, (by omega), (fun q hq => by rcases Nat.lt_or_eq_of_le (Nat.le_of_lt_succ hq) with h9 | rfl; exact H2 q h9; rw [← hbv]; exact h5), T.pick [1, 0] rfl, M.mask [] rfl⟩
 intro h4
 refine wp_exit ?_
 refine Zet ?_
 refine Zet ?_
 refine ex_hit ?_
 refine nm_then ?_
 refine Zsr ?_
 refine lq T (Zra rfl evc) ?_; clear T ac; intro ac T
 replace T := T.pick [0] rfl
 refine Zln ?_
 refine wp_ret ?_
 refine rt_1 T rfl (T.e 0 rfl) ?_
 have e9 : keepsP l (l.first + l.step * (nt : Int)) (voicesP (rowsOf LL) g nt) = 2 := by rw [← holds8_eq gl.span.1 hgood]; unfold holds8; rw [if_neg (by rw [H, hal9]; decide), if_neg (by rw [Bool.not_eq_true, List.any_eq_false]; intro q hq; rw [H2 q (by have := List.mem_range.1 hq; omega)]; decide)]
 rw [e9]
 exact ⟨rfl, M.below⟩
set_option maxHeartbeats 4000000 in
theorem Tremolo5_any (l : Lw) (A : Option Addr) (c : Nat) (LL : List LS) (G : Option Addr) (d : Nat) (g : List Int)  (w : World) (hA : Rd w w.heap.size 1 A LL.length (lsC LL)) (hE : ElsS w LL) (nL : LL.length ≤ 1000000) (nE : ∀ x ∈ LL, x.1.length ≤ 1000000) (hG : Rd w w.heap.size 1 G g.length (ic g)) (hgd : g.length ≤ d) (nG : g.length ≤ 999)  :
   Calls Tryz.prog 38 #[.agg #[Zi l.first, Zi l.step, Zi l.span, Zi l.press, .slice A LL.length c], .slice G g.length d] w (LEPost (tremE l (rowsOf LL) g).1 (tremE l (rowsOf LL) g).2 w) := by
 obtain ⟨bA, oA, SA⟩ := Sp.old hA
 obtain ⟨bG, oG, SG⟩ := Sp.old hG
 refine Zpx noEx Tryz.func38 rfl 29 rfl [.agg #[Zi l.first, Zi l.step, Zi l.span, Zi l.press, .slice A LL.length c], .slice G g.length d] rfl rfl (Mem.init w _) ?_
 intro ac wc T M
 refine Zsr ?_
 refine Zl2 ?_
 refine Zob M T rfl rfl rfl rfl (T.e 0 rfl) rfl ?_; clear M T; intro g1 wc ac M T
 refine Zg2 T (Zq (Zra rfl evc)) rfl (Zc rfl) rfl ?_; clear T ac; intro ac T
 replace T := T.pick [2, 4] rfl
 refine Zln ?_
 refine wp_seq ?_
 refine Zsr ?_
 refine Zg2 T (Zq (Zrr (Mem.nth M 0 rfl) rfl (T.e 0 rfl) rfl)) rfl (Zm 2 rfl rfl) rfl ?_; clear T ac; intro ac T
 refine Zl2 ?_
 refine Zoc (first := []) (cap := []) T rfl rfl rfl rfl evf (.cons (T.e 1 rfl) (.cons (T.e 0 rfl) .nil)) Tryz.func92 rfl rfl ?_
 refine Calls.mono (checkRegister5_any l A c LL G d g _ (SA.rd M (Zz9 _)) (fun x hx => M.rd (hE x hx) (Nat.le_refl _)) (by omega) nE (SG.rd M (Zz9 _)) (by omega)) ?_
 clear T; rintro e wc ⟨rfl, hb⟩ ac T
 replace M := M.call hb; clear hb
 refine lq T (Zra rfl (T.e 0 rfl)) ?_; clear T ac; intro ac T
 replace T := T.pick [0, 4, 5] rfl
 refine Zln ?_
 refine Zsr ?_
 refine Zg2 T (Zq (Zrm rfl (T.e 0 rfl))) rfl (fun _ T => Zq (rn_neq rfl (T.e 0 rfl) evc)) rfl ?_; clear T ac; intro ac T
 replace T := T.pick [0, 2, 3, 4] rfl
 refine Zln ?_
 refine wp_ifn (T.e 0 rfl) ?_ ?_
 ·intro h1
  refine Zsr ?_
  refine Zg3 T (Zq (Zrm rfl (T.e 1 rfl))) rfl (Zc rfl) rfl (Za 1 rfl rfl) rfl ?_; clear T ac; intro ac T
  refine wpList_nil ?_
  replace T := T.pick [0, 1] rfl
  replace M := M.mask [false] rfl
  refine Znr ?_
  refine Zrt ?_
  refine rt_2 T rfl (T.e 1 rfl) (T.e 0 rfl) ?_
  have e9 : tremE l (rowsOf LL) g = ([], checkR l (rowsOf LL) g) := by unfold tremE; rw [if_neg (by simpa using h1)]
  rw [e9]
  exact LEPost.nil rfl M
 intro h1
 obtain ⟨gS, gR⟩ := checkR_good (l := l) (R := rowsOf LL) (g := g) (by simpa using h1)
 have hgL : ∀ r ∈ g, 0 ≤ r ∧ r < LL.length := fun r hr => by have := gR r hr; rw [show (rowsOf LL).length = LL.length by simp] at this; exact this
 have hN6 := gS.notes
 have gl := gS.law
 have ⟨gl1, gl2, gl3, gl4⟩ := gS.law
 refine Zsk ?_
 refine Zsr ?_
 refine lq T (Zra rfl evc) ?_; clear T ac; intro ac T
 replace T := T.pick [0, 3, 4] rfl
 refine Zln ?_
 refine wp_seq ?_
 refine Zsr ?_
 refine lq T (Zra rfl evc) ?_; clear T ac; intro ac T
 refine Zln ?_
 refine wp_block ?_
 refine wp_loop_n (fun mz ac wc => ∃ (k : Nat) (OL : List Int) (A3 : Option Addr) (c3 : Nat) (Io : List (Nat × BA)), mz = notesP (rowsOf LL) - k ∧ (k ≤ notesP (rowsOf LL)) ∧ (OL = (tremP l (rowsOf LL) g).take k) ∧ (OL.length = k) ∧ (Sl 3 1 (.slice A3 OL.length c3) OL.length (ic OL) Io) ∧ Tm ac 29 [(1, .slice G g.length d), (2, Zj g1), (7, .slice A3 OL.length c3), (8, Zi (k : Int))] ∧ Mem w noEx wc ((g1, .cells [Zi l.first, Zi l.step, Zi l.span, Zi l.press, .slice A LL.length c]) :: Io)) ?_ ?_
 ·exact ⟨_, 0, [], none, 0, [], rfl, (Nat.zero_le _), rfl, rfl, (Sl.nil _ _), T.pick [3, 2, 1, 0] rfl, ((M.mask [true] rfl).as (by simp))⟩
 clear T M
 rintro mz ac wc ⟨k, OL, A3, c3, Io, hmm1, hk, hO, hOl, hsl, T, M⟩
 refine wp_seq ?_
 refine Zsr ?_
 refine Zg2 T (Zq (Zrm rfl (T.e 3 rfl))) rfl (Zr M 0 2 rfl rfl rfl rfl) rfl ?_; clear T ac; intro ac T
 refine Zl2 ?_
 refine Zoc (first := []) (cap := []) T rfl rfl rfl rfl evf (.cons (T.e 0 rfl) .nil) Tryz.func93 rfl rfl ?_
 refine Calls.mono (notes5_any l A c LL _ (SA.rd M (Zz9 _)) (fun x hx => M.rd (hE x hx) (Nat.le_refl _)) (by omega) nE) ?_
 clear T; rintro e wc ⟨rfl, hb⟩ ac T
 replace M := M.call hb; clear hb
 refine lq T (rn_lss rfl (T.e 2 rfl) (T.e 0 rfl)) ?_; clear T ac; intro ac T
 replace T := T.pick [0, 4, 5, 6, 7] rfl
 refine Zln ?_
 refine wp_if (T.e 0 rfl) ?_ ?_
 ·intro h2
  refine Zsk ?_
  refine wp_seq ?_
  refine wp_block ?_
  refine wp_region_lit ?_
  refine Zg4 T (Zq (Zrm rfl (T.e 3 rfl))) rfl (Zr M 0 3 rfl rfl rfl rfl) rfl (Zm 3 rfl rfl) rfl (Zm 7 rfl rfl) rfl ?_; clear T ac; intro ac T
  refine Zl2 ?_
  refine Zoc (first := []) (cap := []) T rfl rfl rfl rfl evf (.cons (T.e 2 rfl) (.cons (T.e 1 rfl) (.cons (T.e 0 rfl) .nil))) Tryz.func94 rfl rfl ?_
  refine Calls.mono (holds5_any l A c LL G d g k _ (SA.rd M (Zz9 _)) (fun x hx => M.rd (hE x hx) (Nat.le_refl _)) gS (SG.rd M (Zz9 _)) hgd (by omega) hgL (by omega)) ?_
  clear T; rintro e wc ⟨rfl, hb⟩ ac T
  replace M := M.call hb; clear hb
  refine Zl2 ?_
  refine ow_bs (e := 3) [Zi (keepsP l (l.first + l.step * (k : Int)) (voicesP (rowsOf LL) g k))] M T rfl rfl rfl rfl (.cons (T.e 0 rfl) .nil) (fun _ => by kernel_rfl) ?_; clear M T; intro g2 wc ac M T
  refine Zl2 ?_
  refine ow_app ([(g2, .cells [Zi (keepsP l (l.first + l.step * (k : Int)) (voicesP (rowsOf LL) g k))]), (g1, .cells [Zi l.first, Zi l.step, Zi l.span, Zi l.press, .slice A LL.length c])]) Tryz.info3 hsl M (by first | rfl | simp) T rfl rfl rfl rfl Tryz.underlying33 rfl rfl rfl (by omega) (T.e 5 rfl) (T.e 0 rfl) (Zne (i := 0) rfl) rfl rfl ?_; clear M T; intro ga1 cga1 wc ac M T
  refine l_q (v := (.slice (some ⟨ga1, 0, none⟩) (OL.length + 1) cga1)) (T.pick [0, 1, 2, 3, 4, 5, 6, 7, 8, 9, 11] rfl) rfl rfl rfl rfl (Zra rfl (T.e 0 rfl)) ?_; clear T ac; intro ac T
  refine wpList_nil ?_
  replace T := T.pick [0, 9, 10, 11] rfl
  replace M := M.mask [true, false, true] rfl
  refine Znb ?_
  refine nm_then ?_
  refine wp_region_lit ?_
  refine Zg2 T (Zq (Zrm rfl (T.e 3 rfl))) rfl (fun _ T => Zq (rn_add rfl (T.e 0 rfl) evc (by omega))) rfl ?_; clear T ac; intro ac T
  refine l_q (v := (Zi ((k : Int) + 1))) (T.pick [0, 1, 2, 3, 4] rfl) rfl rfl rfl rfl (Zra rfl (T.e 0 rfl)) ?_; clear T ac; intro ac T
  replace T := T.pick [0, 3, 4, 5] rfl
  refine Zln ?_
  have e9 : OL.length + 1 = (OL ++ [keepsP l (l.first + l.step * (k : Int)) (voicesP (rowsOf LL) g k)]).length := by simp
  have e8 : ((ic OL) ++ [Zi (keepsP l (l.first + l.step * (k : Int)) (voicesP (rowsOf LL) g k))]) = ic (OL ++ [keepsP l (l.first + l.step * (k : Int)) (voicesP (rowsOf LL) g k)]) := ic_snoc _ _
  rw [e9, e8] at M
  rw [e9] at T
  clear e9 e8
  exact ⟨_, by omega, k + 1, (OL ++ [keepsP l (l.first + l.step * (k : Int)) (voicesP (rowsOf LL) g k)]), _, _, [(ga1, .row 3 1 (OL ++ [keepsP l (l.first + l.step * (k : Int)) (voicesP (rowsOf LL) g k)]).length (ic (OL ++ [keepsP l (l.first + l.step * (k : Int)) (voicesP (rowsOf LL) g k)])) cga1)], rfl, (by omega), (by rw [tremP_take (by omega), ← hO]), (by simp [hOl]), (Sl.row _ _ _ _ _ _), T.pick [2, 3, 1, 0] rfl, M.perm [1, 0] rfl rfl⟩
 intro h2
 rw [List.take_of_length_le (by rw [tremP_length]; omega)] at hO
 refine wp_exit ?_
 refine Zet ?_
 refine Zet ?_
 refine ex_hit ?_
 refine nm_then ?_
 refine Zsr ?_
 refine Zg3 T (Zq (Zrm rfl (T.e 3 rfl))) rfl (Za 0 rfl rfl) rfl (Zc rfl) rfl ?_; clear T ac; intro ac T
 refine wpList_nil ?_
 replace T := T.pick [0, 1] rfl
 replace M := M.mask [false] rfl
 refine Znr ?_
 refine rt_2 T rfl (T.e 1 rfl) (T.e 0 rfl) ?_
 have e9 : tremE l (rowsOf LL) g = (OL, 0) := by unfold tremE; rw [if_pos (by simpa using h1), hO]
 rw [e9]
 obtain ⟨b9, o9, h9⟩ := hsl.spV (by rw [ic_length]; omega)
 exact ⟨A3, c3, Io, rfl, by show OL.length ≤ 6; omega, ⟨b9, o9, h9⟩, M.mask [] rfl⟩
set_option maxHeartbeats 4000000 in
theorem Span5_any (l : Lw) (A : Option Addr) (c : Nat) (LL : List LS) (G : Option Addr) (d : Nat) (g : List Int)  (w : World) (hA : Rd w w.heap.size 1 A LL.length (lsC LL)) (hE : ElsS w LL) (nL : LL.length ≤ 1000000) (nE : ∀ x ∈ LL, x.1.length ≤ 1000000) (hG : Rd w w.heap.size 1 G g.length (ic g)) (hgd : g.length ≤ d) (nG : g.length ≤ 999)  :
   Calls Tryz.prog 40 #[.agg #[Zi l.first, Zi l.step, Zi l.span, Zi l.press, .slice A LL.length c], .slice G g.length d] w fun e w' => e = .returned (.tuple #[Zi ((spanE l (rowsOf LL) g).1), Zi ((spanE l (rowsOf LL) g).2)]) ∧ Below w.heap.size w w' := by
 obtain ⟨bA, oA, SA⟩ := Sp.old hA
 obtain ⟨bG, oG, SG⟩ := Sp.old hG
 refine Zpx noEx Tryz.func40 rfl 79 rfl [.agg #[Zi l.first, Zi l.step, Zi l.span, Zi l.press, .slice A LL.length c], .slice G g.length d] rfl rfl (Mem.init w _) ?_
 intro ac wc T M
 refine Zsr ?_
 refine Zl2 ?_
 refine Zob M T rfl rfl rfl rfl (T.e 0 rfl) rfl ?_; clear M T; intro g1 wc ac M T
 refine Zg2 T (Zq (Zra rfl evc)) rfl (Zc rfl) rfl ?_; clear T ac; intro ac T
 replace T := T.pick [2, 4] rfl
 refine Zln ?_
 refine wp_seq ?_
 refine Zsr ?_
 refine Zg2 T (Zq (Zrr (Mem.nth M 0 rfl) rfl (T.e 0 rfl) rfl)) rfl (Zm 2 rfl rfl) rfl ?_; clear T ac; intro ac T
 refine Zl2 ?_
 refine Zoc (first := []) (cap := []) T rfl rfl rfl rfl evf (.cons (T.e 1 rfl) (.cons (T.e 0 rfl) .nil)) Tryz.func92 rfl rfl ?_
 refine Calls.mono (checkRegister5_any l A c LL G d g _ (SA.rd M (Zz9 _)) (fun x hx => M.rd (hE x hx) (Nat.le_refl _)) (by omega) nE (SG.rd M (Zz9 _)) (by omega)) ?_
 clear T; rintro e wc ⟨rfl, hb⟩ ac T
 replace M := M.call hb; clear hb
 refine lq T (Zra rfl (T.e 0 rfl)) ?_; clear T ac; intro ac T
 replace T := T.pick [0, 4, 5] rfl
 refine Zln ?_
 refine Zsr ?_
 refine Zg2 T (Zq (Zrm rfl (T.e 0 rfl))) rfl (fun _ T => Zq (rn_neq rfl (T.e 0 rfl) evc)) rfl ?_; clear T ac; intro ac T
 replace T := T.pick [0, 2, 3, 4] rfl
 refine Zln ?_
 refine wp_ifn (T.e 0 rfl) ?_ ?_
 ·intro h1
  refine Zsr ?_
  refine Zg3 T (Zq (Zrm rfl (T.e 1 rfl))) rfl (Zc rfl) rfl (Za 1 rfl rfl) rfl ?_; clear T ac; intro ac T
  refine wpList_nil ?_
  replace T := T.pick [0, 1] rfl
  replace M := M.mask [false] rfl
  refine Znr ?_
  refine Zrt ?_
  refine rt_2 T rfl (T.e 1 rfl) (T.e 0 rfl) ?_
  have e9 : spanE l (rowsOf LL) g = (0, checkR l (rowsOf LL) g) := by unfold spanE; rw [if_neg (by simpa using h1)]
  rw [e9]
  exact ⟨rfl, M.below⟩
 intro h1
 obtain ⟨gS, gR⟩ := checkR_good (l := l) (R := rowsOf LL) (g := g) (by simpa using h1)
 have hgL : ∀ r ∈ g, 0 ≤ r ∧ r < LL.length := fun r hr => by have := gR r hr; rw [show (rowsOf LL).length = LL.length by simp] at this; exact this
 have hN6 := gS.notes
 have gl := gS.law
 have ⟨gl1, gl2, gl3, gl4⟩ := gS.law
 refine Zsk ?_
 refine Zsr ?_
 refine lq T (Zra rfl evc) ?_; clear T ac; intro ac T
 replace T := T.pick [0, 3, 4] rfl
 refine Zln ?_
 refine wp_seq ?_
 refine Zsr ?_
 refine lq T (Zra rfl evc) ?_; clear T ac; intro ac T
 refine Zln ?_
 refine wp_block ?_
 refine wp_loop_n (fun mz ac wc => ∃ (k : Nat) (q : Int), mz = notesP (rowsOf LL) - k ∧ (k ≤ notesP (rowsOf LL)) ∧ (q = (spanL l (prsQ (rowsOf LL) g k 0))) ∧ Tm ac 79 [(1, .slice G g.length d), (2, Zj g1), (7, Zi q), (8, Zi (k : Int))] ∧ Mem w noEx wc [(g1, .cells [Zi l.first, Zi l.step, Zi l.span, Zi l.press, .slice A LL.length c])]) ?_ ?_
 ·exact ⟨_, 0, 0, rfl, (Nat.zero_le _), rfl, T.pick [3, 2, 1, 0] rfl, M.mask [true] rfl⟩
 clear T M
 rintro mz ac wc ⟨k, q, hmm1, hk, hq, T, M⟩
 refine wp_seq ?_
 refine Zsr ?_
 refine Zg2 T (Zq (Zrm rfl (T.e 3 rfl))) rfl (Zr M 0 2 rfl rfl rfl rfl) rfl ?_; clear T ac; intro ac T
 refine Zl2 ?_
 refine Zoc (first := []) (cap := []) T rfl rfl rfl rfl evf (.cons (T.e 0 rfl) .nil) Tryz.func93 rfl rfl ?_
 refine Calls.mono (notes5_any l A c LL _ (SA.rd M (Zz9 _)) (fun x hx => M.rd (hE x hx) (Nat.le_refl _)) (by omega) nE) ?_
 clear T; rintro e wc ⟨rfl, hb⟩ ac T
 replace M := M.call hb; clear hb
 refine lq T (rn_lss rfl (T.e 2 rfl) (T.e 0 rfl)) ?_; clear T ac; intro ac T
 replace T := T.pick [0, 4, 5, 6, 7] rfl
 refine Zln ?_
 refine wp_if (T.e 0 rfl) ?_ ?_
 ·intro h2
  have gd := gS.dues k (by omega)
  simp only [dueO, decide_eq_true_eq] at gd
  have hnt9 : 0 ≤ (k : Int) ∧ (k : Int) ≤ 11 := by omega
  refine Zsk ?_
  refine wp_seq ?_
  refine wp_block ?_
  refine Zsr ?_
  refine lq T (Zra rfl evc) ?_; clear T ac; intro ac T
  replace T := T.pick [0, 2, 3, 4, 5] rfl
  refine Zln ?_
  refine wp_block ?_
  refine wp_loop_n (fun mz ac wc => ∃ (m : Nat) (q2 : Int), mz = g.length - m ∧ (m ≤ g.length) ∧ (q2 = (spanL l (prsQ (rowsOf LL) g k m))) ∧ Tm ac 79 [(1, .slice G g.length d), (2, Zj g1), (7, Zi q2), (8, Zi (k : Int)), (9, Zi ((m + 1 : Nat) : Int))] ∧ Mem w noEx wc [(g1, .cells [Zi l.first, Zi l.step, Zi l.span, Zi l.press, .slice A LL.length c])]) ?_ ?_
  ·exact ⟨_, 0, q, rfl, (Nat.zero_le _), hq, T.pick [1, 2, 3, 4, 0] rfl, M.mask [true] rfl⟩
  clear T M
  rintro mz ac wc ⟨m, q2, hmm2, hm, hq2, T, M⟩
  refine wp_seq ?_
  refine Zsr ?_
  refine Zg4 T (Zq (Zrm rfl (T.e 4 rfl))) rfl (Zm 1 rfl rfl) rfl (Zl Tryz.underlying33 0 rfl rfl) rfl (fun _ T => Zq (rn_lss rfl (T.e 2 rfl) (T.e 0 rfl))) rfl ?_; clear T ac; intro ac T
  replace T := T.pick [0, 4, 5, 6, 7, 8] rfl
  refine Zln ?_
  refine wp_if (T.e 0 rfl) ?_ ?_
  ·intro h3
   obtain ⟨ra, hkra, -⟩ := ic_next (l := g) (k := m) (by omega)
   obtain ⟨rb, hkrb, -⟩ := ic_next (l := g) (k := m + 1) (by omega)
   have hba := hgL ra (List.mem_of_getElem? hkra)
   have hbb := hgL rb (List.mem_of_getElem? hkrb)
   obtain ⟨ka, hka⟩ : ∃ q : Nat, ra = (q : Int) := ⟨ra.toNat, by omega⟩
   obtain ⟨kb, hkb⟩ : ∃ q : Nat, rb = (q : Int) := ⟨rb.toNat, by omega⟩
   obtain ⟨⟨x1, B1, d1⟩, hk1⟩ : ∃ x, LL[ka]? = some x := ⟨_, List.getElem?_eq_getElem (by omega)⟩
   obtain ⟨bs1, os1, Ss1⟩ := Sp.old (hE _ (List.mem_of_getElem? hk1))
   dsimp only at Ss1
   have nx1 := nE _ (List.mem_of_getElem? hk1)
   dsimp only at nx1
   obtain ⟨⟨x2, B2, d2⟩, hk2⟩ : ∃ x, LL[kb]? = some x := ⟨_, List.getElem?_eq_getElem (by omega)⟩
   obtain ⟨bs2, os2, Ss2⟩ := Sp.old (hE _ (List.mem_of_getElem? hk2))
   dsimp only at Ss2
   have nx2 := nE _ (List.mem_of_getElem? hk2)
   dsimp only at nx2
   have hrw1 := gS.rows x1 (List.mem_map.2 ⟨_, List.mem_of_getElem? hk1, rfl⟩)
   have hrw2 := gS.rows x2 (List.mem_map.2 ⟨_, List.mem_of_getElem? hk2, rfl⟩)
   obtain ⟨ya, hkya, -⟩ := sc_next (l := x1) (k := k) (by omega)
   obtain ⟨yb, hkyb, -⟩ := sc_next (l := x2) (k := k) (by omega)
   have gya := hrw1.2.2 ya (List.mem_of_getElem? hkya)
   have gyb := hrw2.2.2 yb (List.mem_of_getElem? hkyb)
   have hva := voiceP_at hk1 hka hkya
   have hvb := voiceP_at hk2 hkb hkyb
   have hm1 : (((m + 1 : Nat) : Int) - 1) = (m : Int) := by omega
   have htl : (twoAt (rowsOf LL) g k m).lo = ya := by show voiceP _ _ _ = _; rw [getD_at hkra]; exact hva
   have hth : (twoAt (rowsOf LL) g k m).hi = yb := by show voiceP _ _ _ = _; rw [getD_at hkrb]; exact hvb
   refine Zsk ?_
   refine wp_seq ?_
   refine wp_block ?_
   refine Zsr ?_
   refine lq T (Zra rfl evc) ?_; clear T ac; intro ac T
   replace T := T.pick [0, 2, 3, 4, 5, 6] rfl
   refine Zln ?_
   refine wp_block ?_
   refine wp_loop_n (fun mz ac wc => ∃ (p : Nat) (q3 : Int), mz = (l.press + 1 - p).toNat ∧ ((p : Int) ≤ l.press + 1) ∧ (q3 = spanQ l (rowsOf LL) g k m p) ∧ Tm ac 79 [(1, .slice G g.length d), (2, Zj g1), (7, Zi q3), (8, Zi (k : Int)), (9, Zi ((m + 1 : Nat) : Int)), (10, Zi (p : Int))] ∧ Mem w noEx wc [(g1, .cells [Zi l.first, Zi l.step, Zi l.span, Zi l.press, .slice A LL.length c])]) ?_ ?_
   ·exact ⟨_, 0, q2, rfl, (by omega), (by rw [spanQ_zero]; exact hq2), T.pick [1, 2, 3, 4, 5, 0] rfl, M.mask [true] rfl⟩
   clear T M
   rintro mz ac wc ⟨p, q3, hmm3, hp, hq3, T, M⟩
   refine wp_seq ?_
   refine Zsr ?_
   refine Zg5 (v2 := (Zj g1)) (v3 := (.pointer (some ⟨g1, 3, none⟩))) T (Zq (Zrm rfl (T.e 5 rfl))) rfl (Zf 0 2 rfl rfl) rfl (Zf 3 0 rfl rfl) rfl (Zo M 0 0 rfl rfl rfl rfl) rfl (fun _ T => Zq (rn_leq rfl (T.e 3 rfl) (T.e 0 rfl))) rfl ?_; clear T ac; intro ac T
   replace T := T.pick [0, 5, 6, 7, 8, 9, 10] rfl
   refine Zln ?_
   refine wp_if (T.e 0 rfl) ?_ ?_
   ·intro h4
    have hbd := beatP_bd gya gyb (p := (p : Int)) (by omega)
    refine Zsk ?_
    refine wp_seq ?_
    refine wp_block ?_
    refine wp_seq ?_
    refine Zgs M (M.mask [true] rfl) 27 (by kernel_rfl) rfl (by kernel_rfl) ?_
    clear M; intro wc M
    refine g_have (fun ac wc => ∃ (gr14_25 : Nat), Tm ac 79 [(11, Zj gr14_25), (61, .agg #[Zi ((beatP ya yb (p : Int)).1), Zi ((beatP ya yb (p : Int)).2)]), (60, Zi (p : Int)), (59, .agg #[Zi yb.t0, Zi yb.t1, Zi yb.s0, Zi yb.s1]), (58, .pointer (some ⟨bs2, os2 + k * 4, none⟩)), (57, Zi (k : Int)), (56, .slice B2 x2.length d2), (55, .pointer (some ⟨bA, oA + kb * 1, none⟩)), (54, Zi rb), (53, .pointer (some ⟨bG, oG + (m + 1) * 1, none⟩)), (52, Zi ((m + 1 : Nat) : Int)), (51, .slice G g.length d), (50, .slice A LL.length c), (49, .pointer (some ⟨g1, 4, none⟩)), (48, .agg #[Zi ya.t0, Zi ya.t1, Zi ya.s0, Zi ya.s1]), (47, .pointer (some ⟨bs1, os1 + k * 4, none⟩)), (46, Zi (k : Int)), (45, .slice B1 x1.length d1), (44, .pointer (some ⟨bA, oA + ka * 1, none⟩)), (43, Zi ra), (42, .pointer (some ⟨bG, oG + m * 1, none⟩)), (41, Zi (((m + 1 : Nat) : Int) - 1)), (40, Zi ((m + 1 : Nat) : Int)), (39, .slice G g.length d), (38, .slice A LL.length c), (37, .pointer (some ⟨g1, 4, none⟩)), (34, .bool (decide ((p : Int) ≤ l.press))), (1, .slice G g.length d), (2, Zj g1), (7, Zi q3), (8, Zi (k : Int)), (9, Zi ((m + 1 : Nat) : Int)), (10, Zi (p : Int))] ∧ Mem w noEx wc [(gr14_25, .cells [Zi 0, Zi 0]), (g1, .cells [Zi l.first, Zi l.step, Zi l.span, Zi l.press, .slice A LL.length c])]) (Zpb 27 67108863) 1 ?_ ?_
    ·clear T M
     rintro ac wc ⟨gr14_25, T, M⟩
     refine gw 26 134217727 ?_; intro K hK
     refine Zos M T rfl rfl (T.e 0 rfl) (T.e 1 rfl) rfl .head rfl (by simp) rfl (by kernel_rfl) ?_; clear M T; intro wc ac M T
     refine Zso hK _ _ (M.mask [false, true] rfl) ?_; clear hK K
     refine Zgd (by kernel_rfl) ?_
     replace T := T.pick [0, 27, 28, 29, 30, 31, 32] rfl
     refine nm_then ?_
     refine Zgs M (M.mask [true, true] rfl) 17 (by kernel_rfl) rfl (by kernel_rfl) ?_
     clear M; intro wc M
     refine gq T 0 1 rfl (fun _ _ _ _ _ => (Zrm rfl (T.e 3 rfl))) ?_; clear T ac; intro ac T
     refine gq (v := (.pointer (some ⟨gr14_25, 1, none⟩))) T 1 3 rfl (fun _ _ _ _ _ => (Zrf (off := 1) rfl (T.e 1 rfl) (fun _ _ _ => by kernel_rfl))) ?_; clear T ac; intro ac T
     refine gq T 2 7 rfl (fun B w' hD hl hS => (Zro (Mem.nth (show Mem w noEx w' _ from hS) 0 rfl) rfl (T.e 0 rfl) rfl)) ?_; clear T ac; intro ac T
     refine gq (v := (Zj g1)) T 3 15 rfl (fun _ _ _ _ _ => (Zrf (off := 0) rfl (T.e 5 rfl) (fun _ _ _ => by kernel_rfl))) ?_; clear T ac; intro ac T
     refine gq T 4 31 rfl (fun B w' hD hl hS => (Zrr (Mem.nth (show Mem w noEx w' _ from hS) 1 rfl) rfl (T.e 0 rfl) rfl)) ?_; clear T ac; intro ac T
     refine gq T 5 63 rfl (fun _ _ _ _ _ => (Zrm rfl (T.e 9 rfl))) ?_; clear T ac; intro ac T
     refine gq (v := (Zj g1)) T 8 319 rfl (fun _ _ _ _ _ => (Zrf (off := 0) rfl (T.e 8 rfl) (fun _ _ _ => by kernel_rfl))) ?_; clear T ac; intro ac T
     refine gq T 9 831 rfl (fun B w' hD hl hS => (Zrr (Mem.nth (show Mem w noEx w' _ from hS) 1 rfl) rfl (T.e 0 rfl) rfl)) ?_; clear T ac; intro ac T
     refine gq T 10 1855 rfl (fun _ _ _ _ _ => (Zrm rfl (T.e 12 rfl))) ?_; clear T ac; intro ac T
     refine gq (v := (Zj gr14_25)) T 12 5951 rfl (fun _ _ _ _ _ => (Zrf (off := 0) rfl (T.e 9 rfl) (fun _ _ _ => by kernel_rfl))) ?_; clear T ac; intro ac T
     refine gq T 13 14143 rfl (fun B w' hD hl hS => (Zro (Mem.nth (show Mem w noEx w' _ from hS) 0 rfl) rfl (T.e 0 rfl) rfl)) ?_; clear T ac; intro ac T
     refine gw 6 14207 ?_; intro K hK
     refine Zoc (first := []) (cap := []) T rfl rfl rfl rfl evf (.cons (T.e 6 rfl) (.cons (T.e 5 rfl) .nil)) Tryz.func74 rfl rfl ?_
     refine Calls.mono (due5_any l (k : Int) _ (by (try dsimp only); omega) (by (try dsimp only); omega) (by (try dsimp only); omega)) ?_
     clear T; rintro e wc ⟨rfl, hb⟩ ac T
     replace M := M.call hb; clear hb
     refine Zso hK _ _ (M.mask [true, true] rfl) ?_; clear hK K
     refine gq T 7 14335 rfl (fun _ _ _ _ _ => (rn_sub rfl (T.e 9 rfl) (T.e 0 rfl) (by omega))) ?_; clear T ac; intro ac T
     refine gw 11 16383 ?_; intro K hK
     refine Zoc (first := []) (cap := []) T rfl rfl rfl rfl evf (.cons (T.e 5 rfl) (.cons (T.e 4 rfl) .nil)) Tryz.func74 rfl rfl ?_
     refine Calls.mono (due5_any l (k : Int) _ (by (try dsimp only); omega) (by (try dsimp only); omega) (by (try dsimp only); omega)) ?_
     clear T; rintro e wc ⟨rfl, hb⟩ ac T
     replace M := M.call hb; clear hb
     refine Zso hK _ _ (M.mask [true, true] rfl) ?_; clear hK K
     refine gq T 14 32767 rfl (fun _ _ _ _ _ => (rn_sub rfl (T.e 0 rfl) (T.e 3 rfl) (by omega))) ?_; clear T ac; intro ac T
     refine gq T 15 65535 rfl (fun _ _ _ _ _ => (rn_max3 rfl (T.e 14 rfl) (T.e 2 rfl) (T.e 0 rfl))) ?_; clear T ac; intro ac T
     refine g_q (v := (Zi (max (max q3 (((beatP ya yb (p : Int)).2) - (l.first + l.step * (k : Int)))) ((l.first + l.step * (k : Int)) - ((beatP ya yb (p : Int)).1))))) (T := T.pick [0, 1, 2, 3, 4, 5, 6, 7, 8, 9, 10, 11, 12, 13, 14, 15, 16, 17, 18, 20, 21, 22] rfl) (i := 16) rfl (by kernel_rfl) (by kernel_rfl : (Zpb 17 65535).setIfInBounds 16 true = Zpb 17 131071) si_U (fun _ _ _ h => h) rfl rfl rfl rfl (fun _ _ _ _ _ => (Zra rfl (T.e 0 rfl))) ?_; clear T ac; intro ac T
     refine Zgd (by kernel_rfl) ?_
     replace T := T.pick [0, 18, 19, 20, 21, 22] rfl
     replace M := M.mask [false, true] rfl
     refine Znb ?_
     refine nm_then ?_
     refine wp_region_lit ?_
     refine Zg2 T (Zq (Zrm rfl (T.e 5 rfl))) rfl (fun _ T => Zq (rn_add rfl (T.e 0 rfl) evc (by omega))) rfl ?_; clear T ac; intro ac T
     refine l_q (v := (Zi ((p : Int) + 1))) (T.pick [0, 1, 2, 3, 4, 5, 6] rfl) rfl rfl rfl rfl (Zra rfl (T.e 0 rfl)) ?_; clear T ac; intro ac T
     replace T := T.pick [0, 3, 4, 5, 6, 7] rfl
     refine Zln ?_
     exact ⟨_, by omega, p + 1, _, rfl, (by omega), (by rw [spanQ_step (by omega), htl, hth, ← hq3]), T.pick [2, 3, 1, 4, 5, 0] rfl, M.mask [true] rfl⟩
    intro H0
    refine gq (v := (.pointer (some ⟨g1, 4, none⟩))) T 0 1 rfl (fun _ _ _ _ _ => (Zrf (off := 4) rfl (T.e 2 rfl) (fun _ _ _ => by kernel_rfl))) ?_; clear T ac; intro ac T
    refine gq T 1 3 rfl (fun B w' hD hl hS => (Zro (Mem.nth (show Mem w noEx w' _ from hS) 0 rfl) rfl (T.e 0 rfl) rfl)) ?_; clear T ac; intro ac T
    refine gq T 2 7 rfl (fun _ _ _ _ _ => (Zrm rfl (T.e 3 rfl))) ?_; clear T ac; intro ac T
    refine gq T 3 15 rfl (fun _ _ _ _ _ => (Zrm rfl (T.e 8 rfl))) ?_; clear T ac; intro ac T
    refine gq T 4 31 rfl (fun _ _ _ _ _ => (rn_sub rfl (T.e 0 rfl) evc (by omega))) ?_; clear T ac; intro ac T
    refine gq T 5 63 rfl (fun _ _ _ _ _ => (Zri (size := 1) m rfl (T.e 2 rfl) (T.e 0 rfl) ⟨_, Tryz.underlying33, by kernel_rfl⟩ hm1 (by omega) (SG.at0 (by omega)))) ?_; clear T ac; intro ac T
    refine gq T 6 127 rfl (fun B w' hD hl hS => (rn_cell (Sp.ic0 SG (show Mem w noEx w' _ from hS) (Zz9 _) hkra) rfl (T.e 0 rfl))) ?_; clear T ac; intro ac T
    refine gq T 7 255 rfl (fun _ _ _ _ _ => (Zri (size := 1) ka rfl (T.e 5 rfl) (T.e 0 rfl) ⟨_, Tryz.underlying62, by kernel_rfl⟩ hka (by omega) (SA.at0 (by omega)))) ?_; clear T ac; intro ac T
    refine gq (v := (.slice B1 x1.length d1)) T 8 511 rfl (fun B w' hD hl hS => (rn_cell (Sp.ls0 SA (show Mem w noEx w' _ from hS) (Zz9 _) hk1) rfl (T.e 0 rfl))) ?_; clear T ac; intro ac T
    refine gq T 9 1023 rfl (fun _ _ _ _ _ => (Zrm rfl (T.e 13 rfl))) ?_; clear T ac; intro ac T
    refine gq T 10 2047 rfl (fun _ _ _ _ _ => (Zri (size := 4) k rfl (T.e 1 rfl) (T.e 0 rfl) ⟨_, Tryz.underlying24, by kernel_rfl⟩ rfl (by omega) (Ss1.at0 (by omega)))) ?_; clear T ac; intro ac T
    refine gq (v := (.agg #[Zi ya.t0, Zi ya.t1, Zi ya.s0, Zi ya.s1])) T 11 4095 rfl (fun B w' hD hl hS => (rn_rowat (Sp.scR4 Ss1 (show Mem w noEx w' _ from hS) (Zz9 _) hkya) rfl (T.e 0 rfl) rfl)) ?_; clear T ac; intro ac T
    refine gq (v := (.pointer (some ⟨g1, 4, none⟩))) T 12 8191 rfl (fun _ _ _ _ _ => (Zrf (off := 4) rfl (T.e 14 rfl) (fun _ _ _ => by kernel_rfl))) ?_; clear T ac; intro ac T
    refine gq T 13 16383 rfl (fun B w' hD hl hS => (Zro (Mem.nth (show Mem w noEx w' _ from hS) 0 rfl) rfl (T.e 0 rfl) rfl)) ?_; clear T ac; intro ac T
    refine gq T 14 32767 rfl (fun _ _ _ _ _ => (Zrm rfl (T.e 15 rfl))) ?_; clear T ac; intro ac T
    refine gq T 15 65535 rfl (fun _ _ _ _ _ => (Zrm rfl (T.e 20 rfl))) ?_; clear T ac; intro ac T
    refine gq T 16 131071 rfl (fun _ _ _ _ _ => (Zri (size := 1) (m + 1) rfl (T.e 1 rfl) (T.e 0 rfl) ⟨_, Tryz.underlying33, by kernel_rfl⟩ rfl (by omega) (SG.at0 (by omega)))) ?_; clear T ac; intro ac T
    refine gq T 17 262143 rfl (fun B w' hD hl hS => (rn_cell (Sp.ic0 SG (show Mem w noEx w' _ from hS) (Zz9 _) hkrb) rfl (T.e 0 rfl))) ?_; clear T ac; intro ac T
    refine gq T 18 524287 rfl (fun _ _ _ _ _ => (Zri (size := 1) kb rfl (T.e 4 rfl) (T.e 0 rfl) ⟨_, Tryz.underlying62, by kernel_rfl⟩ hkb (by omega) (SA.at0 (by omega)))) ?_; clear T ac; intro ac T
    refine gq (v := (.slice B2 x2.length d2)) T 19 1048575 rfl (fun B w' hD hl hS => (rn_cell (Sp.ls0 SA (show Mem w noEx w' _ from hS) (Zz9 _) hk2) rfl (T.e 0 rfl))) ?_; clear T ac; intro ac T
    refine gq T 20 2097151 rfl (fun _ _ _ _ _ => (Zrm rfl (T.e 24 rfl))) ?_; clear T ac; intro ac T
    refine gq T 21 4194303 rfl (fun _ _ _ _ _ => (Zri (size := 4) k rfl (T.e 1 rfl) (T.e 0 rfl) ⟨_, Tryz.underlying24, by kernel_rfl⟩ rfl (by omega) (Ss2.at0 (by omega)))) ?_; clear T ac; intro ac T
    refine gq (v := (.agg #[Zi yb.t0, Zi yb.t1, Zi yb.s0, Zi yb.s1])) T 22 8388607 rfl (fun B w' hD hl hS => (rn_rowat (Sp.scR4 Ss2 (show Mem w noEx w' _ from hS) (Zz9 _) hkyb) rfl (T.e 0 rfl) rfl)) ?_; clear T ac; intro ac T
    refine gq T 23 16777215 rfl (fun _ _ _ _ _ => (Zrm rfl (T.e 29 rfl))) ?_; clear T ac; intro ac T
    refine g_m2 (i := 24) (j := 25) (by kernel_rfl) ?_ ?_
    ·refine gi 33554431 ?_; intro K hK
     refine Zoc (first := []) (cap := []) T rfl rfl rfl rfl evf (.cons (T.e 12 rfl) (.cons (T.e 1 rfl) (.cons (T.e 0 rfl) .nil))) Tryz.func79 rfl rfl ?_
     refine Calls.mono (beat5_any ya yb (p : Int) _ gya gyb (by (try dsimp only); omega)) ?_
     clear T; rintro e wc ⟨rfl, hb⟩ ac T
     replace M := M.call hb; clear hb
     refine Zso hK _ _ (M.mask [true] rfl) ?_; clear hK K
     refine gw 25 67108863 ?_; intro K hK
     refine Zoa M T rfl rfl rfl rfl ?_; clear M T; intro gr14_25 wc ac M T
     refine Zso hK _ _ (M.mask [false, true] rfl) ?_; clear hK K
     exact H0 _ _ ⟨gr14_25, T, M⟩
    refine gi 50331647 ?_; intro K hK
    refine Zoa M T rfl rfl rfl rfl ?_; clear M T; intro gr14_25 wc ac M T
    refine Zso hK _ _ (M.mask [false, true] rfl) ?_; clear hK K
    refine gw 24 67108863 ?_; intro K hK
    refine Zoc (first := []) (cap := []) T rfl rfl rfl rfl evf (.cons (T.e 13 rfl) (.cons (T.e 2 rfl) (.cons (T.e 1 rfl) .nil))) Tryz.func79 rfl rfl ?_
    refine Calls.mono (beat5_any ya yb (p : Int) _ gya gyb (by (try dsimp only); omega)) ?_
    clear T; rintro e wc ⟨rfl, hb⟩ ac T
    replace M := M.call hb; clear hb
    refine Zso hK _ _ (M.mask [false, true] rfl) ?_; clear hK K
    exact H0 _ _ ⟨gr14_25, T.pick [1, 0, 2, 3, 4, 5, 6, 7, 8, 9, 10, 11, 12, 13, 14, 15, 16, 17, 18, 19, 20, 21, 22, 23, 24, 25, 26, 27, 28, 29, 30, 31, 32] rfl, M⟩
   intro h4
   refine wp_exit ?_
   refine Zet ?_
   refine Zet ?_
   refine ex_hit ?_
   refine Znb ?_
   refine nm_then ?_
   refine wp_region_lit ?_
   refine Zg2 T (Zq (Zrm rfl (T.e 5 rfl))) rfl (fun _ T => Zq (rn_add rfl (T.e 0 rfl) evc (by omega))) rfl ?_; clear T ac; intro ac T
   refine l_q (v := (Zi (((m + 1 : Nat) : Int) + 1))) (T.pick [0, 1, 2, 3, 4, 5, 6, 8] rfl) rfl rfl rfl rfl (Zra rfl (T.e 0 rfl)) ?_; clear T ac; intro ac T
   replace T := T.pick [0, 4, 5, 6, 7] rfl
   refine Zln ?_
   exact ⟨_, by omega, m + 1, q3, rfl, (by omega), (by rw [hq3, spanQ_end (by omega) (by omega)]), T.pick [1, 2, 3, 4, 0] rfl, M.mask [true] rfl⟩
  intro h3
  refine wp_exit ?_
  refine Zet ?_
  refine Zet ?_
  refine ex_hit ?_
  refine Znb ?_
  refine nm_then ?_
  refine wp_region_lit ?_
  refine Zg2 T (Zq (Zrm rfl (T.e 4 rfl))) rfl (fun _ T => Zq (rn_add rfl (T.e 0 rfl) evc (by omega))) rfl ?_; clear T ac; intro ac T
  refine l_q (v := (Zi ((k : Int) + 1))) (T.pick [0, 1, 2, 3, 4, 5, 7] rfl) rfl rfl rfl rfl (Zra rfl (T.e 0 rfl)) ?_; clear T ac; intro ac T
  replace T := T.pick [0, 4, 5, 6] rfl
  refine Zln ?_
  exact ⟨_, by omega, k + 1, q2, rfl, (by omega), (by rw [hq2, prsQ_row (by omega)]), T.pick [1, 2, 3, 0] rfl, M.mask [true] rfl⟩
 intro h2
 rw [prsQ_end (by omega)] at hq
 refine wp_exit ?_
 refine Zet ?_
 refine Zet ?_
 refine ex_hit ?_
 refine nm_then ?_
 refine Zsr ?_
 refine Zg3 T (Zq (Zrm rfl (T.e 3 rfl))) rfl (Za 0 rfl rfl) rfl (Zc rfl) rfl ?_; clear T ac; intro ac T
 refine wpList_nil ?_
 replace T := T.pick [0, 1] rfl
 replace M := M.mask [false] rfl
 refine Znr ?_
 refine rt_2 T rfl (T.e 1 rfl) (T.e 0 rfl) ?_
 have e9 : spanE l (rowsOf LL) g = (spanL l (prsL (rowsOf LL) g), 0) := by unfold spanE; rw [if_pos (by simpa using h1)]
 rw [e9, ← hq]
 exact ⟨rfl, M.below⟩
set_option maxHeartbeats 4000000 in
theorem Bad5_any (l : Lw) (A : Option Addr) (c : Nat) (LL : List LS) (G : Option Addr) (d : Nat) (g : List Int)  (w : World) (hA : Rd w w.heap.size 1 A LL.length (lsC LL)) (hE : ElsS w LL) (nL : LL.length ≤ 1000000) (nE : ∀ x ∈ LL, x.1.length ≤ 1000000) (hG : Rd w w.heap.size 1 G g.length (ic g)) (hgd : g.length ≤ d) (nG : g.length ≤ 999)  :
   Calls Tryz.prog 42 #[.agg #[Zi l.first, Zi l.step, Zi l.span, Zi l.press, .slice A LL.length c], .slice G g.length d] w fun e w' => e = .returned (.tuple #[Zi ((badE l (rowsOf LL) g).1.1), Zi ((badE l (rowsOf LL) g).1.2), Zi ((badE l (rowsOf LL) g).2)]) ∧ Below w.heap.size w w' := by
 obtain ⟨bA, oA, SA⟩ := Sp.old hA
 obtain ⟨bG, oG, SG⟩ := Sp.old hG
 refine Zpx noEx Tryz.func42 rfl 62 rfl [.agg #[Zi l.first, Zi l.step, Zi l.span, Zi l.press, .slice A LL.length c], .slice G g.length d] rfl rfl (Mem.init w _) ?_
 intro ac wc T M
 refine Zsr ?_
 refine Zl2 ?_
 refine Zob M T rfl rfl rfl rfl (T.e 0 rfl) rfl ?_; clear M T; intro g1 wc ac M T
 refine Zg3 T (Zq (Zra rfl evc)) rfl (Zc rfl) rfl (Zc rfl) rfl ?_; clear T ac; intro ac T
 replace T := T.pick [3, 5] rfl
 refine Zln ?_
 refine wp_seq ?_
 refine Zsr ?_
 refine Zg2 T (Zq (Zrr (Mem.nth M 0 rfl) rfl (T.e 0 rfl) rfl)) rfl (Zm 2 rfl rfl) rfl ?_; clear T ac; intro ac T
 refine Zl2 ?_
 refine Zoc (first := []) (cap := []) T rfl rfl rfl rfl evf (.cons (T.e 1 rfl) (.cons (T.e 0 rfl) .nil)) Tryz.func92 rfl rfl ?_
 refine Calls.mono (checkRegister5_any l A c LL G d g _ (SA.rd M (Zz9 _)) (fun x hx => M.rd (hE x hx) (Nat.le_refl _)) (by omega) nE (SG.rd M (Zz9 _)) (by omega)) ?_
 clear T; rintro e wc ⟨rfl, hb⟩ ac T
 replace M := M.call hb; clear hb
 refine lq T (Zra rfl (T.e 0 rfl)) ?_; clear T ac; intro ac T
 replace T := T.pick [0, 4, 5] rfl
 refine Zln ?_
 refine Zsr ?_
 refine Zg2 T (Zq (Zrm rfl (T.e 0 rfl))) rfl (fun _ T => Zq (rn_neq rfl (T.e 0 rfl) evc)) rfl ?_; clear T ac; intro ac T
 replace T := T.pick [0, 2, 3, 4] rfl
 refine Zln ?_
 refine wp_ifn (T.e 0 rfl) ?_ ?_
 ·intro h1
  refine Zsr ?_
  refine Zg4 T (Zq (Zrm rfl (T.e 1 rfl))) rfl (Zc rfl) rfl (Zc rfl) rfl (Za 2 rfl rfl) rfl ?_; clear T ac; intro ac T
  refine wpList_nil ?_
  replace T := T.pick [0, 1, 2] rfl
  replace M := M.mask [false] rfl
  refine Znr ?_
  refine Zrt ?_
  refine rt_3 T rfl (T.e 2 rfl) (T.e 1 rfl) (T.e 0 rfl) ?_
  have e9 : badE l (rowsOf LL) g = ((0, 0), checkR l (rowsOf LL) g) := by unfold badE; rw [if_neg (by simpa using h1)]
  rw [e9]
  exact ⟨rfl, M.below⟩
 intro h1
 obtain ⟨gS, gR⟩ := checkR_good (l := l) (R := rowsOf LL) (g := g) (by simpa using h1)
 have hgL : ∀ r ∈ g, 0 ≤ r ∧ r < LL.length := fun r hr => by have := gR r hr; rw [show (rowsOf LL).length = LL.length by simp] at this; exact this
 have hN6 := gS.notes
 have gl := gS.law
 have ⟨gl1, gl2, gl3, gl4⟩ := gS.law
 refine Zsk ?_
 refine wp_seq ?_
 refine Zsr ?_
 refine lq T (Zra rfl evc) ?_; clear T ac; intro ac T
 replace T := T.pick [0, 3, 4] rfl
 refine Zln ?_
 refine wp_block ?_
 refine wp_loop_n (fun mz ac wc => ∃ (k : Nat), mz = notesP (rowsOf LL) - k ∧ (k ≤ notesP (rowsOf LL)) ∧ (badL l (prsQ (rowsOf LL) g k 0) = none) ∧ Tm ac 62 [(1, .slice G g.length d), (2, Zj g1), (8, Zi (k : Int))] ∧ Mem w noEx wc [(g1, .cells [Zi l.first, Zi l.step, Zi l.span, Zi l.press, .slice A LL.length c])]) ?_ ?_
 ·exact ⟨_, 0, rfl, (Nat.zero_le _), rfl, T.pick [2, 1, 0] rfl, M.mask [true] rfl⟩
 clear T M
 rintro mz ac wc ⟨k, hmm1, hk, hb, T, M⟩
 refine wp_seq ?_
 refine Zsr ?_
 refine Zg2 T (Zq (Zrm rfl (T.e 2 rfl))) rfl (Zr M 0 2 rfl rfl rfl rfl) rfl ?_; clear T ac; intro ac T
 refine Zl2 ?_
 refine Zoc (first := []) (cap := []) T rfl rfl rfl rfl evf (.cons (T.e 0 rfl) .nil) Tryz.func93 rfl rfl ?_
 refine Calls.mono (notes5_any l A c LL _ (SA.rd M (Zz9 _)) (fun x hx => M.rd (hE x hx) (Nat.le_refl _)) (by omega) nE) ?_
 clear T; rintro e wc ⟨rfl, hb⟩ ac T
 replace M := M.call hb; clear hb
 refine lq T (rn_lss rfl (T.e 2 rfl) (T.e 0 rfl)) ?_; clear T ac; intro ac T
 replace T := T.pick [0, 4, 5, 6] rfl
 refine Zln ?_
 refine wp_if (T.e 0 rfl) ?_ ?_
 ·intro h2
  have gd := gS.dues k (by omega)
  simp only [dueO, decide_eq_true_eq] at gd
  have hnt9 : 0 ≤ (k : Int) ∧ (k : Int) ≤ 11 := by omega
  refine Zsk ?_
  refine wp_seq ?_
  refine wp_block ?_
  refine Zsr ?_
  refine lq T (Zra rfl evc) ?_; clear T ac; intro ac T
  replace T := T.pick [0, 2, 3, 4] rfl
  refine Zln ?_
  refine wp_block ?_
  refine wp_loop_n (fun mz ac wc => ∃ (m : Nat), mz = g.length - m ∧ (m ≤ g.length) ∧ (badL l (prsQ (rowsOf LL) g k m) = none) ∧ Tm ac 62 [(1, .slice G g.length d), (2, Zj g1), (8, Zi (k : Int)), (9, Zi ((m + 1 : Nat) : Int))] ∧ Mem w noEx wc [(g1, .cells [Zi l.first, Zi l.step, Zi l.span, Zi l.press, .slice A LL.length c])]) ?_ ?_
  ·exact ⟨_, 0, rfl, (Nat.zero_le _), hb, T.pick [1, 2, 3, 0] rfl, M.mask [true] rfl⟩
  clear T M
  rintro mz ac wc ⟨m, hmm2, hm, hb2, T, M⟩
  refine wp_seq ?_
  refine Zsr ?_
  refine Zg4 T (Zq (Zrm rfl (T.e 3 rfl))) rfl (Zm 1 rfl rfl) rfl (Zl Tryz.underlying33 0 rfl rfl) rfl (fun _ T => Zq (rn_lss rfl (T.e 2 rfl) (T.e 0 rfl))) rfl ?_; clear T ac; intro ac T
  replace T := T.pick [0, 4, 5, 6, 7] rfl
  refine Zln ?_
  refine wp_if (T.e 0 rfl) ?_ ?_
  ·intro h3
   obtain ⟨ra, hkra, -⟩ := ic_next (l := g) (k := m) (by omega)
   obtain ⟨rb, hkrb, -⟩ := ic_next (l := g) (k := m + 1) (by omega)
   have hba := hgL ra (List.mem_of_getElem? hkra)
   have hbb := hgL rb (List.mem_of_getElem? hkrb)
   obtain ⟨ka, hka⟩ : ∃ q : Nat, ra = (q : Int) := ⟨ra.toNat, by omega⟩
   obtain ⟨kb, hkb⟩ : ∃ q : Nat, rb = (q : Int) := ⟨rb.toNat, by omega⟩
   obtain ⟨⟨x1, B1, d1⟩, hk1⟩ : ∃ x, LL[ka]? = some x := ⟨_, List.getElem?_eq_getElem (by omega)⟩
   obtain ⟨bs1, os1, Ss1⟩ := Sp.old (hE _ (List.mem_of_getElem? hk1))
   dsimp only at Ss1
   have nx1 := nE _ (List.mem_of_getElem? hk1)
   dsimp only at nx1
   obtain ⟨⟨x2, B2, d2⟩, hk2⟩ : ∃ x, LL[kb]? = some x := ⟨_, List.getElem?_eq_getElem (by omega)⟩
   obtain ⟨bs2, os2, Ss2⟩ := Sp.old (hE _ (List.mem_of_getElem? hk2))
   dsimp only at Ss2
   have nx2 := nE _ (List.mem_of_getElem? hk2)
   dsimp only at nx2
   have hrw1 := gS.rows x1 (List.mem_map.2 ⟨_, List.mem_of_getElem? hk1, rfl⟩)
   have hrw2 := gS.rows x2 (List.mem_map.2 ⟨_, List.mem_of_getElem? hk2, rfl⟩)
   obtain ⟨ya, hkya, -⟩ := sc_next (l := x1) (k := k) (by omega)
   obtain ⟨yb, hkyb, -⟩ := sc_next (l := x2) (k := k) (by omega)
   have gya := hrw1.2.2 ya (List.mem_of_getElem? hkya)
   have gyb := hrw2.2.2 yb (List.mem_of_getElem? hkyb)
   have hva := voiceP_at hk1 hka hkya
   have hvb := voiceP_at hk2 hkb hkyb
   have hm1 : (((m + 1 : Nat) : Int) - 1) = (m : Int) := by omega
   have htl : (twoAt (rowsOf LL) g k m).lo = ya := by show voiceP _ _ _ = _; rw [getD_at hkra]; exact hva
   have hth : (twoAt (rowsOf LL) g k m).hi = yb := by show voiceP _ _ _ = _; rw [getD_at hkrb]; exact hvb
   have hk8 : keepsP l (l.first + l.step * (k : Int)) [ya, yb] = 1 ↔ awayP l (twoAt (rowsOf LL) g k m) ≤ l.span := by rw [← keeps_pair8 gl gya gyb, ← htl, ← hth]; exact keeps8_two (x := twoAt (rowsOf LL) g k m) gl.span.1 (by rw [htl]; exact gya) (by rw [hth]; exact gyb)
   refine Zsk ?_
   refine wp_seq ?_
   refine wp_block ?_
   refine wp_seq ?_
   refine Zgs M (M.mask [true] rfl) 28 (by kernel_rfl) rfl (by kernel_rfl) ?_
   clear M; intro wc M
   refine gq (v := (Zj g1)) T 0 1 rfl (fun _ _ _ _ _ => (Zrf (off := 0) rfl (T.e 2 rfl) (fun _ _ _ => by kernel_rfl))) ?_; clear T ac; intro ac T
   refine gq T 1 3 rfl (fun B w' hD hl hS => (Zrr (Mem.nth (show Mem w noEx w' _ from hS) 0 rfl) rfl (T.e 0 rfl) rfl)) ?_; clear T ac; intro ac T
   refine gq T 2 7 rfl (fun _ _ _ _ _ => (Zrm rfl (T.e 5 rfl))) ?_; clear T ac; intro ac T
   refine gq (v := (.pointer (some ⟨g1, 4, none⟩))) T 3 15 rfl (fun _ _ _ _ _ => (Zrf (off := 4) rfl (T.e 5 rfl) (fun _ _ _ => by kernel_rfl))) ?_; clear T ac; intro ac T
   refine gq T 4 31 rfl (fun B w' hD hl hS => (Zro (Mem.nth (show Mem w noEx w' _ from hS) 0 rfl) rfl (T.e 0 rfl) rfl)) ?_; clear T ac; intro ac T
   refine gq T 5 63 rfl (fun _ _ _ _ _ => (Zrm rfl (T.e 6 rfl))) ?_; clear T ac; intro ac T
   refine gq T 6 127 rfl (fun _ _ _ _ _ => (Zrm rfl (T.e 10 rfl))) ?_; clear T ac; intro ac T
   refine gq T 7 255 rfl (fun _ _ _ _ _ => (rn_sub rfl (T.e 0 rfl) evc (by omega))) ?_; clear T ac; intro ac T
   refine gq T 8 511 rfl (fun _ _ _ _ _ => (Zri (size := 1) m rfl (T.e 2 rfl) (T.e 0 rfl) ⟨_, Tryz.underlying33, by kernel_rfl⟩ hm1 (by omega) (SG.at0 (by omega)))) ?_; clear T ac; intro ac T
   refine gq T 9 1023 rfl (fun B w' hD hl hS => (rn_cell (Sp.ic0 SG (show Mem w noEx w' _ from hS) (Zz9 _) hkra) rfl (T.e 0 rfl))) ?_; clear T ac; intro ac T
   refine gq T 10 2047 rfl (fun _ _ _ _ _ => (Zri (size := 1) ka rfl (T.e 5 rfl) (T.e 0 rfl) ⟨_, Tryz.underlying62, by kernel_rfl⟩ hka (by omega) (SA.at0 (by omega)))) ?_; clear T ac; intro ac T
   refine gq (v := (.slice B1 x1.length d1)) T 11 4095 rfl (fun B w' hD hl hS => (rn_cell (Sp.ls0 SA (show Mem w noEx w' _ from hS) (Zz9 _) hk1) rfl (T.e 0 rfl))) ?_; clear T ac; intro ac T
   refine gq T 12 8191 rfl (fun _ _ _ _ _ => (Zrm rfl (T.e 15 rfl))) ?_; clear T ac; intro ac T
   refine gq T 13 16383 rfl (fun _ _ _ _ _ => (Zri (size := 4) k rfl (T.e 1 rfl) (T.e 0 rfl) ⟨_, Tryz.underlying24, by kernel_rfl⟩ rfl (by omega) (Ss1.at0 (by omega)))) ?_; clear T ac; intro ac T
   refine gq (v := (.agg #[Zi ya.t0, Zi ya.t1, Zi ya.s0, Zi ya.s1])) T 14 32767 rfl (fun B w' hD hl hS => (rn_rowat (Sp.scR4 Ss1 (show Mem w noEx w' _ from hS) (Zz9 _) hkya) rfl (T.e 0 rfl) rfl)) ?_; clear T ac; intro ac T
   refine gq (v := (.pointer (some ⟨g1, 4, none⟩))) T 15 65535 rfl (fun _ _ _ _ _ => (Zrf (off := 4) rfl (T.e 17 rfl) (fun _ _ _ => by kernel_rfl))) ?_; clear T ac; intro ac T
   refine gq T 16 131071 rfl (fun B w' hD hl hS => (Zro (Mem.nth (show Mem w noEx w' _ from hS) 0 rfl) rfl (T.e 0 rfl) rfl)) ?_; clear T ac; intro ac T
   refine gq T 17 262143 rfl (fun _ _ _ _ _ => (Zrm rfl (T.e 18 rfl))) ?_; clear T ac; intro ac T
   refine gq T 18 524287 rfl (fun _ _ _ _ _ => (Zrm rfl (T.e 22 rfl))) ?_; clear T ac; intro ac T
   refine gq T 19 1048575 rfl (fun _ _ _ _ _ => (Zri (size := 1) (m + 1) rfl (T.e 1 rfl) (T.e 0 rfl) ⟨_, Tryz.underlying33, by kernel_rfl⟩ rfl (by omega) (SG.at0 (by omega)))) ?_; clear T ac; intro ac T
   refine gq T 20 2097151 rfl (fun B w' hD hl hS => (rn_cell (Sp.ic0 SG (show Mem w noEx w' _ from hS) (Zz9 _) hkrb) rfl (T.e 0 rfl))) ?_; clear T ac; intro ac T
   refine gq T 21 4194303 rfl (fun _ _ _ _ _ => (Zri (size := 1) kb rfl (T.e 4 rfl) (T.e 0 rfl) ⟨_, Tryz.underlying62, by kernel_rfl⟩ hkb (by omega) (SA.at0 (by omega)))) ?_; clear T ac; intro ac T
   refine gq (v := (.slice B2 x2.length d2)) T 22 8388607 rfl (fun B w' hD hl hS => (rn_cell (Sp.ls0 SA (show Mem w noEx w' _ from hS) (Zz9 _) hk2) rfl (T.e 0 rfl))) ?_; clear T ac; intro ac T
   refine gq T 23 16777215 rfl (fun _ _ _ _ _ => (Zrm rfl (T.e 26 rfl))) ?_; clear T ac; intro ac T
   refine gq T 24 33554431 rfl (fun _ _ _ _ _ => (Zri (size := 4) k rfl (T.e 1 rfl) (T.e 0 rfl) ⟨_, Tryz.underlying24, by kernel_rfl⟩ rfl (by omega) (Ss2.at0 (by omega)))) ?_; clear T ac; intro ac T
   refine gq (v := (.agg #[Zi yb.t0, Zi yb.t1, Zi yb.s0, Zi yb.s1])) T 25 67108863 rfl (fun B w' hD hl hS => (rn_rowat (Sp.scR4 Ss2 (show Mem w noEx w' _ from hS) (Zz9 _) hkyb) rfl (T.e 0 rfl) rfl)) ?_; clear T ac; intro ac T
   refine gw 26 134217727 ?_; intro K hK
   refine Zoc (first := []) (cap := []) T rfl rfl rfl rfl evf (.cons (T.e 24 rfl) (.cons (T.e 23 rfl) (.cons (T.e 11 rfl) (.cons (T.e 0 rfl) .nil)))) Tryz.func81 rfl rfl ?_
   refine Calls.mono (keeps5_any l (k : Int) ya yb _ gl hnt9 gd gya gyb) ?_
   clear T; rintro e wc ⟨rfl, hb⟩ ac T
   replace M := M.call hb; clear hb
   refine Zso hK _ _ (M.mask [true] rfl) ?_; clear hK K
   refine gq T 27 268435455 rfl (fun _ _ _ _ _ => (rn_neq rfl (T.e 0 rfl) evc)) ?_; clear T ac; intro ac T
   refine Zgd (by kernel_rfl) ?_
   replace T := T.pick [0, 29, 30, 31, 32] rfl
   refine nm_then ?_
   refine wp_ifn (T.e 0 rfl) ?_ ?_
   ·intro h4
    refine wp_seq ?_
    refine Zgs M (M.mask [true] rfl) 9 (by kernel_rfl) rfl (by kernel_rfl) ?_
    clear M; intro wc M
    refine gq T 0 1 rfl (fun _ _ _ _ _ => (Zrm rfl (T.e 3 rfl))) ?_; clear T ac; intro ac T
    refine gq T 1 3 rfl (fun _ _ _ _ _ => (Zrm rfl (T.e 2 rfl))) ?_; clear T ac; intro ac T
    refine gq T 2 7 rfl (fun _ _ _ _ _ => (Zrm rfl (T.e 6 rfl))) ?_; clear T ac; intro ac T
    refine gq T 3 15 rfl (fun _ _ _ _ _ => (rn_sub rfl (T.e 0 rfl) evc (by omega))) ?_; clear T ac; intro ac T
    refine gq T 4 31 rfl (fun _ _ _ _ _ => (Zri (size := 1) m rfl (T.e 2 rfl) (T.e 0 rfl) ⟨_, Tryz.underlying33, by kernel_rfl⟩ hm1 (by omega) (SG.at0 (by omega)))) ?_; clear T ac; intro ac T
    refine gq T 5 63 rfl (fun B w' hD hl hS => (rn_cell (Sp.ic0 SG (show Mem w noEx w' _ from hS) (Zz9 _) hkra) rfl (T.e 0 rfl))) ?_; clear T ac; intro ac T
    refine gq T 6 127 rfl (fun _ _ _ _ _ => (Zra rfl (T.e 5 rfl))) ?_; clear T ac; intro ac T
    refine gq T 7 255 rfl (fun _ _ _ _ _ => (Zra rfl (T.e 1 rfl))) ?_; clear T ac; intro ac T
    refine gq T 8 511 rfl (fun _ _ _ _ _ => (Zra rfl evc)) ?_; clear T ac; intro ac T
    refine Zgd (by kernel_rfl) ?_
    replace T := T.pick [0, 1, 2] rfl
    replace M := M.mask [false] rfl
    refine Znr ?_
    refine Zrb ?_
    refine Zrt ?_
    refine Zrt ?_
    refine Zrb ?_
    refine Zrb ?_
    refine Zrt ?_
    refine Zrt ?_
    refine Zrb ?_
    refine Zrt ?_
    refine rt_3 T rfl (T.e 2 rfl) (T.e 1 rfl) (T.e 0 rfl) ?_
    have e9 : badE l (rowsOf LL) g = (((k : Int), ra), 0) := by unfold badE; rw [if_pos (by simpa using h1), badQ_some hb2 (fun h9 => absurd (hk8.2 h9) (by omega)) (by rw [← prsQ_step (by omega)]; exact prsQ_pre (by omega))]; show (((k : Int), g.getD m 0), (0 : Int)) = _; rw [getD_at hkra]
    rw [e9]
    exact ⟨rfl, M.below⟩
   intro h4
   refine wp_skip ?_
   refine Znb ?_
   refine nm_then ?_
   refine wp_region_lit ?_
   refine Zg2 T (Zq (Zrm rfl (T.e 4 rfl))) rfl (fun _ T => Zq (rn_add rfl (T.e 0 rfl) evc (by omega))) rfl ?_; clear T ac; intro ac T
   refine l_q (v := (Zi (((m + 1 : Nat) : Int) + 1))) (T.pick [0, 1, 2, 3, 4, 5] rfl) rfl rfl rfl rfl (Zra rfl (T.e 0 rfl)) ?_; clear T ac; intro ac T
   replace T := T.pick [0, 4, 5, 6] rfl
   refine Zln ?_
   exact ⟨_, by omega, m + 1, rfl, (by omega), (by rw [prsQ_step (by omega)]; exact badQ_none hb2 (hk8.1 (by omega))), T.pick [1, 2, 3, 0] rfl, M.mask [true] rfl⟩
  intro h3
  refine wp_exit ?_
  refine Zet ?_
  refine Zet ?_
  refine ex_hit ?_
  refine Znb ?_
  refine nm_then ?_
  refine wp_region_lit ?_
  refine Zg2 T (Zq (Zrm rfl (T.e 3 rfl))) rfl (fun _ T => Zq (rn_add rfl (T.e 0 rfl) evc (by omega))) rfl ?_; clear T ac; intro ac T
  refine l_q (v := (Zi ((k : Int) + 1))) (T.pick [0, 1, 2, 3, 4, 6] rfl) rfl rfl rfl rfl (Zra rfl (T.e 0 rfl)) ?_; clear T ac; intro ac T
  replace T := T.pick [0, 4, 5] rfl
  refine Zln ?_
  exact ⟨_, by omega, k + 1, rfl, (by omega), (by rw [← prsQ_row (m := m) (by omega)]; exact hb2), T.pick [1, 2, 0] rfl, M.mask [true] rfl⟩
 intro h2
 rw [prsQ_end (by omega)] at hb
 refine wp_exit ?_
 refine Zet ?_
 refine Zet ?_
 refine ex_hit ?_
 refine nm_then ?_
 refine Zsr ?_
 refine Zg3 T (Zq (Zra rfl evc)) rfl (Zc rfl) rfl (Zc rfl) rfl ?_; clear T ac; intro ac T
 refine wpList_nil ?_
 replace T := T.pick [0, 1, 2] rfl
 replace M := M.mask [false] rfl
 refine Znr ?_
 refine rt_3 T rfl (T.e 2 rfl) (T.e 1 rfl) (T.e 0 rfl) ?_
 have e9 : badE l (rowsOf LL) g = ((0, 0), 11) := by unfold badE; rw [if_pos (by simpa using h1), hb]; rfl
 rw [e9]
 exact ⟨rfl, M.below⟩
theorem Mem.joinW {w0 w w' : World} {ex : Nat → Prop} {L L' I : List (Nat × BA)} {g : Nat} {p p' : BA} (M : Mem w0 ex w L) (hu : Upd L g p p' L') (N : Mem w (fun b => b = g) w' (I ++ [(g, p')])) : Mem w0 ex w' (I ++ L') := by
 have hg := M.blk _ hu.mem
 have hgl := BA.lt hg.2
 have hnd := N.nd
 rw [List.map_append] at hnd
 obtain ⟨n1, n2, n3⟩ := List.nodup_append.1 hnd
 have hI : ∀ q ∈ I, w.heap.size ≤ q.1 := fun q hq => by
  rcases (N.blk q (List.mem_append_left _ hq)).1 with h | h
  ·exact h
  ·exact absurd h (n3 q.1 (List.mem_map.2 ⟨q, hq, rfl⟩) g (by simp))
 refine ⟨N.os.trans M.os, N.tape.trans M.tape, N.output.trans M.output, Nat.le_trans M.size N.size, fun b hb hx => ?_, fun q hq => ?_, ?_⟩
 ·refine (N.block b (Nat.lt_of_lt_of_le hb M.size) fun e => ?_).trans (M.block b hb hx)
  have e : b = g := e
  subst e
  rcases hg.1 with h | h
  ·have h : w0.heap.size ≤ b := h
   omega
  ·exact hx h
 ·rcases List.mem_append.1 hq with hq | hq
  ·exact ⟨.inl (Nat.le_trans M.size (hI q hq)), (N.blk q (List.mem_append_left _ hq)).2⟩
  ·rcases hu.all M.nd q hq with rfl | ⟨h1, h2⟩
   ·exact ⟨hg.1, (N.blk _ (List.mem_append_right _ Zz2)).2⟩
   ·have h3 := M.blk q h1
    exact ⟨h3.1, BA.same h3.2 N.size (N.block _ (BA.lt h3.2) h2)⟩
 ·rw [List.map_append, hu.keys]
  refine List.nodup_append.2 ⟨n1, M.nd, fun a ha b hb e => ?_⟩
  obtain ⟨q, hq, rfl⟩ := List.mem_map.1 ha
  obtain ⟨r, hr, rfl⟩ := List.mem_map.1 hb
  have h1 := hI q hq
  have h2 := BA.lt (M.blk r hr).2
  omega
theorem Mem.swap3 {w0 w : World} {ex : Nat → Prop} (H X Y Z : List (Nat × BA)) (M : Mem w0 ex w (H ++ (X ++ Y ++ Z))) : Mem w0 ex w (H ++ (X ++ Z ++ Y)) := by
 have hp : (H ++ (X ++ Y ++ Z)).Perm (H ++ (X ++ Z ++ Y)) := List.Perm.append_left H (by rw [List.append_assoc, List.append_assoc]; exact List.Perm.append_left X List.perm_append_comm)
 exact ⟨M.os, M.tape, M.output, M.size, M.block, fun p h => M.blk p (hp.mem_iff.2 h), (hp.map _).nodup_iff.1 M.nd⟩
def OddsPost (bp : Nat) (w : World) (e : Ending) (w' : World) : Prop := ∃ (b : Bool) (s' : Int), u64ok s' ∧ e = .returned (.bool b) ∧ w.grownBy w' (some bp) ∧ Bk w' bp #[.int .u64 s']
def Asc (n : Int) (l : List Int) : Prop := l.Pairwise (· < ·) ∧ ∀ x ∈ l, 0 ≤ x ∧ x < n
theorem Asc.nil (n : Int) : Asc n [] := ⟨List.Pairwise.nil, fun x hx => by cases hx⟩
theorem Asc.snoc {n : Int} {l : List Int} (h : Asc n l) (hn : 0 ≤ n) : Asc (n + 1) (l ++ [n]) := by
 refine ⟨List.pairwise_append.2 ⟨h.1, List.pairwise_singleton _ _, fun a ha b hb => ?_⟩, fun x hx => ?_⟩
 ·simp only [List.mem_cons, List.not_mem_nil, or_false] at hb
  subst hb
  exact (h.2 a ha).2
 ·rcases List.mem_append.1 hx with hx | hx
  ·have := h.2 x hx
   omega
  ·simp only [List.mem_cons, List.not_mem_nil, or_false] at hx
   omega
theorem Asc.more {n m : Int} {l : List Int} (h : Asc n l) (hm : n ≤ m) : Asc m l := ⟨h.1, fun x hx => by have := h.2 x hx; omega⟩
theorem Asc.short : ∀ {l : List Int} {n : Nat}, Asc n l → l.length ≤ n
 | l, 0, h => by
  cases l with
  | nil => simp
  | cons a r => have := h.2 a Zz2; omega
 | l, n + 1, h => by
  rcases List.eq_nil_or_concat l with rfl | ⟨r, a, rfl⟩
  ·simp
  ·rw [List.concat_eq_append] at h ⊢
   have h1 := List.pairwise_append.1 h.1
   have ha := h.2 a (by simp)
   have := Asc.short (l := r) (n := n) ⟨h1.1, fun x hx => ⟨(h.2 x (by simp [hx])).1, by have := h1.2.2 x hx a (by simp); omega⟩⟩
   rw [List.length_append]
   simp
   omega
theorem Sl.cap {w0 w : World} {ex : Nat → Prop} {e n c size : Nat} {A : Option Addr} {xs : List Value} {I L : List (Nat × BA)} (h : Sl e size (.slice A n c) n xs I) (M : Mem w0 ex w L) (hI : I.Sublist L) : n ≤ c := by
 rcases h with ⟨h1, rfl, _, _⟩ | ⟨g, cap, h1, rfl⟩
 ·omega
 ·injection h1 with h1 _ h2
  subst h1 h2
  obtain ⟨hb, hn⟩ := (M.blk _ (hI.subset Zz2)).2
  obtain ⟨g', cap', e1, h3, _⟩ := own_form hb hn
  injection e1 with _ _ e3
  omega
def PickPost (bp : Nat) (n : Int) (w : World) (e : Ending) (w' : World) : Prop := ∃ (l : List Int) (A : Option Addr) (c : Nat) (s : Int) (I : List (Nat × BA)), e = .returned (.slice A l.length c) ∧ Asc n l ∧ u64ok s ∧ l.length ≤ c ∧ (∃ b o, ∀ (w : World) (ex : Nat → Prop), Sp w ex I A l.length 1 b o (ic l)) ∧ Mem w (fun b => b = bp) w' (I ++ [(bp, .cells [.int .u64 s])])
theorem ElsR.mono {LL : List LS} {I I' : List (Nat × BA)} (h : ElsR LL I) (hs : I.Sublist I') : ElsR LL I' := fun x hx => by
 obtain ⟨b, o, h1⟩ := h x hx
 exact ⟨b, o, fun w ex => (h1 w ex).mono hs⟩
theorem ElsR.snoc {LL : List LS} {I I' : List (Nat × BA)} (h : ElsR LL I) {l : List Snd} {A : Option Addr} {c : Nat} (hs : ∃ b o, ∀ (w : World) (ex : Nat → Prop), Sp w ex I' A l.length 4 b o (sc l)) : ElsR (LL ++ [(l, A, c)]) (I ++ I') := fun x hx => by
 rcases List.mem_append.1 hx with hx | hx
 ·exact h.mono (Zsl _ _) x hx
 ·simp only [List.mem_cons, List.not_mem_nil, or_false] at hx
  subst hx
  obtain ⟨b, o, h1⟩ := hs
  exact ⟨b, o, fun w ex => (h1 w ex).mono (Zsq _ _)⟩
theorem lsC_snoc (l : List LS) (x : List Snd) (A : Option Addr) (c : Nat) : lsC l ++ [.slice A x.length c] = lsC (l ++ [(x, A, c)]) := by simp [lsC]
def ScaleOfPost (bp : Nat) (w : World) (e : Ending) (w' : World) : Prop :=
 ∃ (l : Lw) (LL : List LS) (A : Option Addr) (c : Nat) (s : Int) (I : List (Nat × BA)), e = .returned (.agg #[Zi l.first, Zi l.step, Zi l.span, Zi l.press, .slice A LL.length c]) ∧ SGood l (rowsOf LL) ∧ u64ok s ∧ (∃ b o, ∀ (w : World) (ex : Nat → Prop), Sp w ex I A LL.length 1 b o (lsC LL)) ∧ ElsR LL I ∧ Mem w (fun b => b = bp) w' (I ++ [(bp, .cells [.int .u64 s])])
theorem Tryz.info24 : (Tryz.prog.info? 24).map (fun i => (i.zero, i.size, i.bytes)) = some (some (.slice none 0 0), 1, 24) := by kernel_rfl
theorem scaleMade {l : Lw} {n : Int} {LL : List LS} (hl : l.made n) (hn : 0 ≤ n ∧ n ≤ 6) (h4 : LL.length ≤ 4) (h : ∀ x ∈ LL, (x.1.length : Int) = n ∧ ∀ y ∈ x.1, y.good) : SGood ⟨min l.first 14, l.step, l.span, l.press⟩ (rowsOf LL) := by
 have h1 := hl.first
 have h2 := hl.step
 have h3 := hl.span
 have h5 := hl.press
 have h6 := mostD_bd n
 have hN : LL = [] ∨ (notesP (rowsOf LL) : Int) = n := by
  cases LL with
  | nil => exact .inl rfl
  | cons a r => exact .inr (h a Zz2).1
 refine ⟨⟨by dsimp only; omega, by dsimp only; omega, by dsimp only; omega, by dsimp only; omega⟩, by simpa using h4, fun x hx => ?_, fun k hk => ?_⟩
 ·obtain ⟨y, hy, rfl⟩ := List.mem_map.1 hx
  obtain ⟨a, b⟩ := h y hy
  rcases hN with rfl | hN
  ·cases hy
  ·exact ⟨by omega, by omega, b⟩
 ·rcases hN with rfl | hN
  ·simp [notesP] at hk
  ·have := step_bd (k := (k : Int)) h2 (by omega)
   unfold dueO
   rw [decide_eq_true_eq]
   dsimp only
   omega
theorem odds_any (s : Int) (bp : Nat) (n m : Int) (w : World) (hn : 0 ≤ n ∧ n ≤ 1000) (hm : 1 ≤ m ∧ m ≤ 1000) (hp : Bk w bp #[.int .u64 s]) (hs : u64ok s) :
  Calls Tryz.prog 88 #[Zj bp, Zi n, Zi m] w (OddsPost bp w) := by
 refine Zpx (fun b => b = bp) Tryz.func88 rfl 13 rfl [Zj bp, Zi n, Zi m] rfl rfl (Mem.initEx (p := .cells [.int .u64 s]) hp) ?_
 intro ac wc T M
 refine Zsr ?_
 refine lq T (Zra rfl evc) ?_; clear T ac; intro ac T
 replace T := T.pick [1, 2, 3] rfl
 refine Zln ?_
 refine Zsr ?_
 refine Zg3 T (Zq (Zrm rfl (T.e 0 rfl))) rfl (Zm 3 rfl rfl) rfl (fun _ T => Zq (rn_sub rfl (T.e 0 rfl) evc (by omega))) rfl ?_; clear T ac; intro ac T
 refine Zl2 ?_
 refine Zoc (first := []) (cap := []) T rfl rfl rfl rfl evf (.cons (T.e 2 rfl) (.cons (T.e 0 rfl) .nil)) Tryz.func20 rfl rfl ?_
 refine Calls.mono (upto_any _ bp (m - 1) _ (by omega) (by omega) (M.nth 0 rfl) hs) ?_
 clear T; rintro e wc ⟨xu1, su1, hxu1, hsu1, rfl, hgr, hbk⟩ ac T
 replace M := M.callC (cs' := [.int .u64 su1]) .head hgr hbk
 clear hgr hbk
 refine Zg3 T (Zq (Zrm rfl (T.e 5 rfl))) rfl (fun _ T => Zq (rn_lss rfl (T.e 1 rfl) (T.e 0 rfl))) rfl (Za 0 rfl rfl) rfl ?_; clear T ac; intro ac T
 replace T := T.pick [0] rfl
 refine Zln ?_
 refine wp_ret ?_
 refine rt_1 T rfl (T.e 0 rfl) ?_
 exact ⟨_, _, hsu1, rfl, M.grown, M.nth 0 rfl⟩
theorem pick_any (s : Int) (bp : Nat) (n : Int) (w : World) (hn : 0 ≤ n ∧ n ≤ 1000) (hp : Bk w bp #[.int .u64 s]) (hs : u64ok s) :
   Calls Tryz.prog 35 #[Zj bp, Zi n] w (PickPost bp n w) := by
 refine Zpx (fun b => b = bp) Tryz.func35 rfl 19 rfl [Zj bp, Zi n] rfl rfl (Mem.initEx (p := .cells [.int .u64 s]) hp) ?_
 intro ac wc T M
 refine Zsr ?_
 refine lq T (Zra rfl evc) ?_; clear T ac; intro ac T
 replace T := T.pick [1, 2] rfl
 refine Zln ?_
 refine Zsr ?_
 refine lq T (Zra rfl evc) ?_; clear T ac; intro ac T
 refine Zln ?_
 refine wp_seq ?_
 refine Zsr ?_
 refine lq T (Zra rfl evc) ?_; clear T ac; intro ac T
 refine Zln ?_
 refine wp_block ?_
 refine wp_loop_n (fun mz ac wc => ∃ (i : Int) (ol : List Int) (A3 : Option Addr) (c3 : Nat) (s : Int) (Io : List (Nat × BA)), mz = (n - i).toNat ∧ (0 ≤ i ∧ i ≤ n) ∧ (Asc i ol) ∧ ((ol.length : Int) ≤ i) ∧ (u64ok s) ∧ (Sl 3 1 (.slice A3 ol.length c3) ol.length (ic ol) Io) ∧ Tm ac 19 [(0, Zj bp), (1, Zi n), (5, .slice A3 ol.length c3), (6, Zi i)] ∧ Mem w (fun b => b = bp) wc ((bp, .cells [.int .u64 s]) :: Io)) ?_ ?_
 ·exact ⟨_, 0, [], none, 0, _, [], rfl, (by omega), (Asc.nil _), (by simp), hs, (Sl.nil _ _), T.pick [2, 3, 1, 0] rfl, M.mask [true] rfl⟩
 clear T M
 rintro mz ac wc ⟨i, ol, A3, c3, s, Io, hmm1, hi, ha, hol, hs, hsl, T, M⟩
 refine wp_seq ?_
 refine Zsr ?_
 refine Zg3 T (Zq (Zrm rfl (T.e 3 rfl))) rfl (Zm 2 rfl rfl) rfl (fun _ T => Zq (rn_lss rfl (T.e 1 rfl) (T.e 0 rfl))) rfl ?_; clear T ac; intro ac T
 replace T := T.pick [0, 3, 4, 5, 6] rfl
 refine Zln ?_
 refine wp_if (T.e 0 rfl) ?_ ?_
 ·intro h1
  refine Zsk ?_
  refine wp_seq ?_
  refine wp_block ?_
  refine Zsr ?_
  refine lq T (Zrm rfl (T.e 1 rfl)) ?_; clear T ac; intro ac T
  refine Zl2 ?_
  refine Zoc (first := []) (cap := []) T rfl rfl rfl rfl evf (.cons (T.e 0 rfl) (.cons evc (.cons evc .nil))) Tryz.func88 rfl rfl ?_
  refine Calls.mono (odds_any _ bp 1 2 _ (by omega) (by omega) (M.nth 0 rfl) hs) ?_
  clear T; rintro e wc ⟨bu1, su1, hsu1, rfl, hgr, hbk⟩ ac T
  replace M := M.callC (cs' := [.int .u64 su1]) .head hgr hbk
  clear hgr hbk
  replace T := T.pick [0, 3, 4, 5, 6] rfl
  refine Zln ?_
  refine wp_cond_split (T.e 0 rfl) ?_ ?_
  ·intro h2
   refine wp_region_lit ?_
   refine Zg2 T (Zq (Zrm rfl (T.e 3 rfl))) rfl (Zm 5 rfl rfl) rfl ?_; clear T ac; intro ac T
   refine Zl2 ?_
   refine ow_bs (e := 3) [Zi i] M T rfl rfl rfl rfl (.cons (T.e 0 rfl) .nil) (fun _ => by kernel_rfl) ?_; clear M T; intro g1 wc ac M T
   refine Zl2 ?_
   refine ow_app ([(g1, .cells [Zi i]), (bp, .cells [.int .u64 su1])]) Tryz.info3 hsl M (by first | rfl | simp) T rfl rfl rfl rfl Tryz.underlying33 rfl rfl rfl (by omega) (T.e 2 rfl) (T.e 0 rfl) (Zne (i := 0) rfl) rfl rfl ?_; clear M T; intro ga1 cga1 wc ac M T
   refine l_q (v := (.slice (some ⟨ga1, 0, none⟩) (ol.length + 1) cga1)) (T.pick [0, 1, 2, 3, 4, 5, 6, 8] rfl) rfl rfl rfl rfl (Zra rfl (T.e 0 rfl)) ?_; clear T ac; intro ac T
   refine wpList_nil ?_
   replace T := T.pick [0, 6, 7, 8] rfl
   replace M := M.mask [true, false, true] rfl
   refine Znb ?_
   refine nm_then ?_
   refine wp_region_lit ?_
   refine Zg2 T (Zq (Zrm rfl (T.e 3 rfl))) rfl (fun _ T => Zq (rn_add rfl (T.e 0 rfl) evc (by omega))) rfl ?_; clear T ac; intro ac T
   refine l_q (v := (Zi (i + 1))) (T.pick [0, 1, 2, 3, 4] rfl) rfl rfl rfl rfl (Zra rfl (T.e 0 rfl)) ?_; clear T ac; intro ac T
   replace T := T.pick [0, 3, 4, 5] rfl
   refine Zln ?_
   have e9 : ol.length + 1 = (ol ++ [i]).length := by simp
   have e8 : ((ic ol) ++ [Zi i]) = ic (ol ++ [i]) := by rw [← ic_snoc]
   rw [e9, e8] at M
   rw [e9] at T
   clear e9 e8
   exact ⟨_, by omega, (i + 1), (ol ++ [i]), _, _, su1, [(ga1, .row 3 1 (ol ++ [i]).length (ic (ol ++ [i])) cga1)], rfl, (by omega), (ha.snoc (by omega)), (by simp only [List.length_append, List.length_cons, List.length_nil]; omega), hsu1, (Sl.row _ _ _ _ _ _), T.pick [2, 3, 1, 0] rfl, M.perm [1, 0] rfl rfl⟩
  intro h2
  refine wp_skip ?_
  refine Znb ?_
  refine nm_then ?_
  refine wp_region_lit ?_
  refine Zg2 T (Zq (Zrm rfl (T.e 4 rfl))) rfl (fun _ T => Zq (rn_add rfl (T.e 0 rfl) evc (by omega))) rfl ?_; clear T ac; intro ac T
  refine l_q (v := (Zi (i + 1))) (T.pick [0, 1, 2, 3, 4, 5] rfl) rfl rfl rfl rfl (Zra rfl (T.e 0 rfl)) ?_; clear T ac; intro ac T
  replace T := T.pick [0, 4, 5, 6] rfl
  refine Zln ?_
  exact ⟨_, by omega, (i + 1), ol, _, _, su1, Io, rfl, (by omega), (ha.more (by omega)), (by omega), hsu1, hsl, T.pick [1, 2, 3, 0] rfl, M.permT [0] 1 rfl rfl rfl rfl⟩
 intro h1
 refine wp_exit ?_
 refine Zet ?_
 refine Zet ?_
 refine ex_hit ?_
 refine nm_then ?_
 refine Zsr ?_
 refine Zg2 T (Zq (Zrm rfl (T.e 3 rfl))) rfl (Za 0 rfl rfl) rfl ?_; clear T ac; intro ac T
 replace T := T.pick [0] rfl
 refine Zln ?_
 refine wp_ret ?_
 refine rt_1 T rfl (T.e 0 rfl) ?_
 obtain ⟨b9, o9, h9⟩ := hsl.spV (by rw [ic_length]; omega)
 have hcap := hsl.cap M (.cons _ (List.Sublist.refl _))
 exact ⟨ol, A3, c3, _, Io, rfl, ha.more (by omega), hs, hcap, ⟨b9, o9, h9⟩, Mem.swapI (I := [(bp, .cells [.int .u64 s])]) (L := Io) (M.mask [true] rfl)⟩
set_option maxHeartbeats 2000000 in
theorem scaleOf_any (s : Int) (bp : Nat) (rw nt wide : Int) (w : World) (hrw : 0 ≤ rw ∧ rw ≤ 40) (hnt : 0 ≤ nt ∧ nt ≤ 40) (hw : 0 ≤ wide ∧ wide ≤ 40) (hp : Bk w bp #[.int .u64 s]) (hs : u64ok s) :
   Calls Tryz.prog 32 #[Zj bp, Zi rw, Zi nt, Zi wide] w (ScaleOfPost bp w) := by
 refine Zpx (fun b => b = bp) Tryz.func32 rfl 97 rfl [Zj bp, Zi rw, Zi nt, Zi wide] rfl rfl (Mem.initEx (p := .cells [.int .u64 s]) hp) ?_
 intro ac wc T M
 refine Zsr ?_
 refine Zl2 ?_
 refine Zoa M T rfl rfl rfl rfl ?_; clear M T; intro g1 wc ac M T
 refine Zln ?_
 refine Zsr ?_
 refine Zg3 T (Zq (Zrm rfl (T.e 1 rfl))) rfl (Zm 4 rfl rfl) rfl (fun _ T => Zq (rn_min2 rfl (T.e 0 rfl) evc)) rfl ?_; clear T ac; intro ac T
 refine Zl2 ?_
 refine Zoc (first := []) (cap := []) T rfl rfl rfl rfl evf (.cons (T.e 2 rfl) (.cons (T.e 0 rfl) .nil)) Tryz.func20 rfl rfl ?_
 refine Calls.mono (upto_any _ bp (min nt 6) _ (by omega) (by omega) (M.nth 1 rfl) hs) ?_
 clear T; rintro e wc ⟨xu1, su1, hxu1, hsu1, rfl, hgr, hbk⟩ ac T
 replace M := M.callC (cs' := [.int .u64 su1]) (.tail .head) hgr hbk
 clear hgr hbk
 refine lq T (Zra rfl (T.e 0 rfl)) ?_; clear T ac; intro ac T
 replace T := T.pick [0, 5, 6, 7, 9] rfl
 refine Zln ?_
 refine Zsr ?_
 refine Zg2 T (Zq (Zrm rfl (T.e 2 rfl))) rfl (Zm 1 rfl rfl) rfl ?_; clear T ac; intro ac T
 refine Zl2 ?_
 refine Zoc (first := []) (cap := []) T rfl rfl rfl rfl evf (.cons (T.e 1 rfl) (.cons (T.e 0 rfl) .nil)) Tryz.func51 rfl rfl ?_
 refine Calls.mono (lawOf_any _ bp xu1 _ (by omega) (M.nth 1 rfl) hsu1) ?_
 clear T; rintro e wc ⟨lu2, su2, hlu2, hsu2, rfl, hgr, hbk⟩ ac T
 replace M := M.callC (cs' := [.int .u64 su2]) (.tail .head) hgr hbk
 clear hgr hbk
 have hlfu2 := hlu2.first
 have hlsu2 := hlu2.step
 have hlpu2 := hlu2.span
 have hlqu2 := hlu2.press
 have hmdu2 := mostD_bd xu1
 refine lq (v := (.agg #[Zi lu2.first, Zi lu2.step, Zi lu2.span, Zi lu2.press, .slice none 0 0])) T (rn_build rfl (.cons (T.e 0 rfl) .nil) (fun _ => by kernel_rfl)) ?_; clear T ac; intro ac T
 refine Zl2 ?_
 refine Zoa M T rfl rfl rfl rfl ?_; clear M T; intro g2 wc ac M T
 refine Zl2 ?_
 refine Zos M T rfl rfl (T.e 0 rfl) (T.e 1 rfl) rfl .head rfl (by simp) rfl (by kernel_rfl) ?_; clear M T; intro wc ac M T
 replace T := T.pick [0, 5, 6, 7, 8, 9] rfl
 refine Zln ?_
 refine Zsr ?_
 refine Zg6 (v1 := (Zj g2)) (v2 := (Zj g2)) (v5 := (Zj g2)) (v6 := (Zj g2)) T (Zq (Zrf (off := 0) rfl (T.e 0 rfl) (fun _ _ _ => by kernel_rfl))) rfl (Zf 0 0 rfl rfl) rfl (Zo M 0 0 rfl rfl rfl rfl) rfl (fun _ T => Zq (rn_min2 rfl (T.e 0 rfl) evc)) rfl (Zf 0 4 rfl rfl) rfl (Zf 0 0 rfl rfl) rfl ?_; clear T ac; intro ac T
 refine Zl2 ?_
 refine Zos M T rfl rfl (T.e 0 rfl) (T.e 2 rfl) rfl .head rfl (by simp) rfl (by kernel_rfl) ?_; clear M T; intro wc ac M T
 replace T := T.pick [6, 7, 8, 9, 10, 11] rfl
 refine Zln ?_
 refine wp_seq ?_
 refine Zsr ?_
 refine Zg3 T (Zq (Zrm rfl (T.e 3 rfl))) rfl (Zm 5 rfl rfl) rfl (fun _ T => Zq (rn_min2 rfl (T.e 0 rfl) evc)) rfl ?_; clear T ac; intro ac T
 refine Zl2 ?_
 refine Zoc (first := []) (cap := []) T rfl rfl rfl rfl evf (.cons (T.e 2 rfl) (.cons (T.e 0 rfl) .nil)) Tryz.func20 rfl rfl ?_
 refine Calls.mono (upto_any _ bp (min rw 4) _ (by omega) (by omega) (M.nth 2 rfl) hsu2) ?_
 clear T; rintro e wc ⟨xu3, su3, hxu3, hsu3, rfl, hgr, hbk⟩ ac T
 replace M := M.callC (cs' := [.int .u64 su3]) (.tail (.tail .head)) hgr hbk
 clear hgr hbk
 refine lq T (Zra rfl (T.e 0 rfl)) ?_; clear T ac; intro ac T
 replace T := T.pick [0, 5, 6, 7, 8, 10] rfl
 refine Zln ?_
 refine wp_block ?_
 refine wp_loop_n (fun mz ac wc => ∃ (i : Int) (RL : List LS) (A3 : Option Addr) (c3 : Nat) (s : Int) (Ie Io : List (Nat × BA)), mz = i.toNat ∧ (0 ≤ i) ∧ ((RL.length : Int) + i = xu3) ∧ (∀ z ∈ RL, (z.1.length : Int) = xu1 ∧ ∀ y ∈ z.1, y.good) ∧ (ElsR RL Ie) ∧ (u64ok s) ∧ (Sl 24 1 (.slice A3 RL.length c3) RL.length (lsC RL) Io) ∧ Tm ac 97 [(0, Zj bp), (3, Zi wide), (8, Zj g1), (9, Zi xu1), (10, Zj g2), (11, Zi i)] ∧ Mem w (fun b => b = bp) wc ((g2, .cells [Zi (min lu2.first 14), Zi lu2.step, Zi lu2.span, Zi lu2.press, .slice A3 RL.length c3]) :: (g1, .cells [Zi 0, Zi 0, Zi 0, Zi 0, .slice none 0 0]) :: (bp, .cells [.int .u64 s]) :: (Ie ++ Io))) ?_ ?_
 ·exact ⟨_, _, [], none, 0, _, [], [], rfl, (by omega), (by simp), (fun z hz => by cases hz), (fun z hz => by cases hz), hsu3, (Sl.nil _ _), T.pick [4, 5, 3, 2, 1, 0] rfl, (by simp only [List.append_nil]; exact M)⟩
 clear T M
 rintro mz ac wc ⟨i, RL, A3, c3, s, Ie, Io, hmm1, hi, hRl, hgo, hEl, hs, hsl, T, M⟩
 refine wp_seq ?_
 refine Zsr ?_
 refine Zg2 T (Zq (Zrm rfl (T.e 5 rfl))) rfl (fun _ T => Zq (rn_gtr rfl (T.e 0 rfl) evc)) rfl ?_; clear T ac; intro ac T
 replace T := T.pick [0, 2, 3, 4, 5, 6, 7] rfl
 refine Zln ?_
 refine wp_if (T.e 0 rfl) ?_ ?_
 ·intro h1
  obtain ⟨b3, o3, h3⟩ := hsl.spV (by rw [lsC_length]; omega)
  have S3 := h3 w (fun b => b = bp)
  refine Zsk ?_
  refine wp_seq ?_
  refine wp_block ?_
  refine Zsr ?_
  refine lq T (Zra rfl evc) ?_; clear T ac; intro ac T
  replace T := T.pick [0, 2, 3, 4, 5, 6, 7] rfl
  refine Zln ?_
  refine wp_seq ?_
  refine Zsr ?_
  refine lq T (Zra rfl evc) ?_; clear T ac; intro ac T
  refine Zln ?_
  refine wp_block ?_
  refine wp_loop_n (fun mz ac wc => ∃ (k : Nat) (ol : List Snd) (A4 : Option Addr) (c4 : Nat) (s : Int) (I4 : List (Nat × BA)), mz = (xu1 - k).toNat ∧ ((k : Int) ≤ xu1) ∧ (ol.length = k) ∧ (∀ y ∈ ol, y.good) ∧ (u64ok s) ∧ (Sl 32 4 (.slice A4 ol.length c4) ol.length (sc ol) I4) ∧ Tm ac 97 [(0, Zj bp), (3, Zi wide), (8, Zj g1), (9, Zi xu1), (10, Zj g2), (11, Zi i), (12, .slice A4 ol.length c4), (13, Zi (k : Int))] ∧ Mem w (fun b => b = bp) wc ((g2, .cells [Zi (min lu2.first 14), Zi lu2.step, Zi lu2.span, Zi lu2.press, .slice A3 RL.length c3]) :: (g1, .cells [Zi 0, Zi 0, Zi 0, Zi 0, .slice none 0 0]) :: (bp, .cells [.int .u64 s]) :: (Ie ++ Io ++ I4))) ?_ ?_
  ·exact ⟨_, 0, [], none, 0, _, [], rfl, (by omega), rfl, (fun z hz => by cases hz), hs, (Sl.nil _ _), T.pick [2, 3, 4, 5, 6, 7, 1, 0] rfl, (by simp only [List.append_nil]; exact M)⟩
  clear T M
  rintro mz ac wc ⟨k, ol, A4, c4, s, I4, hmm2, hk4, hol, hg4, hs4, hsl4, T, M⟩
  refine wp_seq ?_
  refine Zsr ?_
  refine Zg3 T (Zq (Zrm rfl (T.e 7 rfl))) rfl (Zm 4 rfl rfl) rfl (fun _ T => Zq (rn_lss rfl (T.e 1 rfl) (T.e 0 rfl))) rfl ?_; clear T ac; intro ac T
  replace T := T.pick [0, 3, 4, 5, 6, 7, 8, 9, 10] rfl
  refine Zln ?_
  refine wp_if (T.e 0 rfl) ?_ ?_
  ·intro h2
   have hst := step_bd (k := (k : Int)) hlu2.step (by omega)
   refine Zsk ?_
   refine wp_seq ?_
   refine wp_block ?_
   refine Zsr ?_
   refine lq T (Zrm rfl (T.e 1 rfl)) ?_; clear T ac; intro ac T
   refine Zl2 ?_
   refine Zoc (first := []) (cap := []) T rfl rfl rfl rfl evf (.cons (T.e 0 rfl) (.cons evc (.cons evc .nil))) Tryz.func52 rfl rfl ?_
   refine Calls.mono (within_pot _ bp (-8) 0 _ (by omega) (by omega) (by omega) (M.nth 2 rfl) hs4) ?_
   clear T; rintro e wc ⟨xu4, su4, hxu4, hsu4, rfl, hgr, hbk⟩ ac T
   replace M := M.callC (cs' := [.int .u64 su4]) (.tail (.tail .head)) hgr hbk
   clear hgr hbk
   refine lq T (Zra rfl (T.e 0 rfl)) ?_; clear T ac; intro ac T
   replace T := T.pick [0, 4, 5, 6, 7, 8, 9, 10, 11] rfl
   refine Zln ?_
   refine wp_seq ?_
   refine Zsr ?_
   refine Zg4 (v1 := (.pointer (some ⟨g2, 4, none⟩))) T (Zq (Zrf (off := 4) rfl (T.e 5 rfl) (fun _ _ _ => by kernel_rfl))) rfl (Zo M 0 0 rfl rfl rfl rfl) rfl (Zl Tryz.underlying62 0 rfl rfl) rfl (Za 0 rfl rfl) rfl ?_; clear T ac; intro ac T
   replace T := T.pick [0, 4, 5, 6, 7, 8, 9, 10, 11, 12] rfl
   refine Zln ?_
   refine Zsr ?_
   refine Zg2 T (Zq (Zrm rfl (T.e 0 rfl))) rfl (fun _ T => Zq (rn_gtr rfl (T.e 0 rfl) evc)) rfl ?_; clear T ac; intro ac T
   replace T := T.pick [0, 2, 3, 4, 5, 6, 7, 8, 9, 10, 11] rfl
   refine Zln ?_
   refine wp_if (T.e 0 rfl) ?_ ?_
   ·intro h3
    obtain ⟨ab, hab⟩ : ∃ q : Nat, ((RL.length : Nat) : Int) - 1 = (q : Int) := ⟨RL.length - 1, by omega⟩
    obtain ⟨⟨xr, Br, dr⟩, hkx⟩ : ∃ x, RL[ab]? = some x := ⟨_, List.getElem?_eq_getElem (by omega)⟩
    have hgr := hgo _ (List.mem_of_getElem? hkx)
    dsimp only at hgr
    obtain ⟨y, hky, -⟩ := sc_next (l := xr) (k := k) (by omega)
    have ⟨gy1, gy2⟩ := hgr.2 y (List.mem_of_getElem? hky)
    obtain ⟨br, orr, hSr⟩ := hEl _ (List.mem_of_getElem? hkx)
    have Sr := hSr w (fun b => b = bp)
    dsimp only at Sr
    refine Zgs M (M.mask [true, true, false] rfl) 34 (by kernel_rfl) rfl (by kernel_rfl) ?_
    clear M; intro wc M
    refine g_addG 31 M ?_
    refine gq (v := (.pointer (some ⟨g2, 4, none⟩))) T 0 1 rfl (fun _ _ _ _ _ => (Zrf (off := 4) rfl (T.e 7 rfl) (fun _ _ _ => by kernel_rfl))) ?_; clear T ac; intro ac T
    refine gq T 1 3 rfl (fun B w' hD hl hS => (Zro (Mem.nth (show Mem w (fun b => b = bp) w' _ from (MA.rgt hS)) 0 rfl) rfl (T.e 0 rfl) rfl)) ?_; clear T ac; intro ac T
    refine gq T 2 7 rfl (fun _ _ _ _ _ => (Zrm rfl (T.e 3 rfl))) ?_; clear T ac; intro ac T
    refine gq T 3 15 rfl (fun _ _ _ _ _ => (rn_sub rfl (T.e 0 rfl) evc (by omega))) ?_; clear T ac; intro ac T
    refine gq T 4 31 rfl (fun _ _ _ _ _ => (Zri (size := 1) ab rfl (T.e 2 rfl) (T.e 0 rfl) ⟨_, Tryz.underlying62, by kernel_rfl⟩ hab (by omega) (S3.at0 (by omega)))) ?_; clear T ac; intro ac T
    refine gq (v := (.slice Br xr.length dr)) T 5 63 rfl (fun B w' hD hl hS => (rn_cell (Sp.ls0 S3 (show Mem w (fun b => b = bp) w' _ from (MA.rgt hS)) (.cons _ (.cons _ (subL (Zsq _ _)))) hkx) rfl (T.e 0 rfl))) ?_; clear T ac; intro ac T
    refine gq T 6 127 rfl (fun _ _ _ _ _ => (Zrm rfl (T.e 16 rfl))) ?_; clear T ac; intro ac T
    refine gq T 7 255 rfl (fun _ _ _ _ _ => (Zri (size := 4) k rfl (T.e 1 rfl) (T.e 0 rfl) ⟨_, Tryz.underlying24, by kernel_rfl⟩ rfl (by omega) (Sr.at0 (by omega)))) ?_; clear T ac; intro ac T
    refine gq T 8 511 rfl (fun _ _ _ _ _ => (Zrf (off := 0) rfl (T.e 0 rfl) (fun _ _ _ => by kernel_rfl))) ?_; clear T ac; intro ac T
    refine gq T 9 1023 rfl (fun _ _ _ _ _ => (Zrf (off := 0) rfl (T.e 0 rfl) (fun _ _ _ => by kernel_rfl))) ?_; clear T ac; intro ac T
    refine gq T 10 2047 rfl (fun B w' hD hl hS => (rn_cell (Sp.scC0 Sr (show Mem w (fun b => b = bp) w' _ from (MA.rgt hS)) (.cons _ (.cons _ (subL (subL (List.Sublist.refl _))))) hky) rfl (T.e 0 rfl))) ?_; clear T ac; intro ac T
    refine gq (v := (Zj g2)) T 11 4095 rfl (fun _ _ _ _ _ => (Zrf (off := 0) rfl (T.e 18 rfl) (fun _ _ _ => by kernel_rfl))) ?_; clear T ac; intro ac T
    refine gq (v := (Zj g2)) T 12 8191 rfl (fun _ _ _ _ _ => (Zrf (off := 0) rfl (T.e 0 rfl) (fun _ _ _ => by kernel_rfl))) ?_; clear T ac; intro ac T
    refine gq T 13 16383 rfl (fun B w' hD hl hS => (Zro (Mem.nth (show Mem w (fun b => b = bp) w' _ from (MA.rgt hS)) 0 rfl) rfl (T.e 0 rfl) rfl)) ?_; clear T ac; intro ac T
    refine gq T 14 32767 rfl (fun _ _ _ _ _ => (rn_add rfl (T.e 3 rfl) (T.e 0 rfl) (by omega))) ?_; clear T ac; intro ac T
    refine gq (v := (Zj g2)) T 15 65535 rfl (fun _ _ _ _ _ => (Zrf (off := 0) rfl (T.e 22 rfl) (fun _ _ _ => by kernel_rfl))) ?_; clear T ac; intro ac T
    refine gq (v := (.pointer (some ⟨g2, 1, none⟩))) T 16 131071 rfl (fun _ _ _ _ _ => (Zrf (off := 1) rfl (T.e 0 rfl) (fun _ _ _ => by kernel_rfl))) ?_; clear T ac; intro ac T
    refine gq T 17 262143 rfl (fun B w' hD hl hS => (Zro (Mem.nth (show Mem w (fun b => b = bp) w' _ from (MA.rgt hS)) 0 rfl) rfl (T.e 0 rfl) rfl)) ?_; clear T ac; intro ac T
    refine gq T 18 524287 rfl (fun _ _ _ _ _ => (Zrm rfl (T.e 28 rfl))) ?_; clear T ac; intro ac T
    refine gq T 19 1048575 rfl (fun _ _ _ _ _ => (rn_mul rfl (T.e 1 rfl) (T.e 0 rfl) (by omega))) ?_; clear T ac; intro ac T
    refine gq T 20 2097151 rfl (fun _ _ _ _ _ => (rn_add rfl (T.e 5 rfl) (T.e 0 rfl) (by omega))) ?_; clear T ac; intro ac T
    refine gq T 21 4194303 rfl (fun _ _ _ _ _ => (Zrm rfl (T.e 24 rfl))) ?_; clear T ac; intro ac T
    refine gq (v := (Zj g2)) T 22 8388607 rfl (fun _ _ _ _ _ => (Zrf (off := 0) rfl (T.e 29 rfl) (fun _ _ _ => by kernel_rfl))) ?_; clear T ac; intro ac T
    refine gq (v := (.pointer (some ⟨g2, 2, none⟩))) T 23 16777215 rfl (fun _ _ _ _ _ => (Zrf (off := 2) rfl (T.e 0 rfl) (fun _ _ _ => by kernel_rfl))) ?_; clear T ac; intro ac T
    refine gq T 24 33554431 rfl (fun B w' hD hl hS => (Zro (Mem.nth (show Mem w (fun b => b = bp) w' _ from ((MA.lft hS) (hD.wait (i := 26) (m := 31) (by kernel_rfl) (hD.wait (i := 25) (m := 26) (by kernel_rfl) (hD.wait (i := 24) (m := 25) (by kernel_rfl) hl))))) 0 rfl) rfl (T.e 0 rfl) rfl)) ?_; clear T ac; intro ac T
    refine gq T 25 67108863 rfl (fun _ _ _ _ _ => (rn_neg rfl (T.e 0 rfl) (by omega))) ?_; clear T ac; intro ac T
    refine gq T 26 134217727 rfl (fun _ _ _ _ _ => (rn_sub rfl (T.e 0 rfl) evc (by omega))) ?_; clear T ac; intro ac T
    refine gq (v := (Zj g2)) T 27 268435455 rfl (fun _ _ _ _ _ => (Zrf (off := 0) rfl (T.e 34 rfl) (fun _ _ _ => by kernel_rfl))) ?_; clear T ac; intro ac T
    refine gq (v := (.pointer (some ⟨g2, 2, none⟩))) T 28 536870911 rfl (fun _ _ _ _ _ => (Zrf (off := 2) rfl (T.e 0 rfl) (fun _ _ _ => by kernel_rfl))) ?_; clear T ac; intro ac T
    refine gq T 29 1073741823 rfl (fun B w' hD hl hS => (Zro (Mem.nth (show Mem w (fun b => b = bp) w' _ from ((MA.lft hS) (hD.wait (i := 30) (m := 31) (by kernel_rfl) (hD.wait (i := 29) (m := 30) (by kernel_rfl) hl)))) 0 rfl) rfl (T.e 0 rfl) rfl)) ?_; clear T ac; intro ac T
    refine gq T 30 2147483647 rfl (fun _ _ _ _ _ => (rn_add rfl (T.e 0 rfl) evc (by omega))) ?_; clear T ac; intro ac T
    refine gw 31 4294967295 ?_; intro K hK
    refine Zoc (first := []) (cap := []) T rfl rfl rfl rfl evf (.cons (T.e 9 rfl) (.cons (T.e 4 rfl) (.cons (T.e 0 rfl) .nil))) Tryz.func52 rfl rfl ?_
    refine Calls.mono (within_pot _ bp ((-lu2.span) - 1) (lu2.span + 1) _ (by omega) (by omega) (by omega) (M.nth 2 rfl) hsu4) ?_
    clear T; rintro e wc ⟨xu5, su5, hxu5, hsu5, rfl, hgr, hbk⟩ ac T
    replace M := M.callC (cs' := [.int .u64 su5]) (.tail (.tail .head)) hgr hbk
    clear hgr hbk
    refine Zso hK _ _ (MA.mk (fun h => (no_of (by kernel_rfl) h).elim) (M.mask [true, true, false] rfl)) ?_; clear hK K
    refine gq T 32 8589934591 rfl (fun _ _ _ _ _ => (rn_add rfl (T.e 11 rfl) (T.e 0 rfl) (by omega))) ?_; clear T ac; intro ac T
    refine g_q (v := (Zi (((y.t0 + (min lu2.first 14)) + (lu2.step * (k : Int))) + xu5))) (T := T.pick [0, 1, 2, 3, 4, 5, 6, 7, 8, 9, 10, 11, 12, 13, 14, 15, 16, 17, 18, 19, 20, 21, 22, 23, 24, 25, 26, 27, 28, 29, 30, 31, 32, 33, 34, 36, 37, 38, 39, 40, 41, 42, 43] rfl) (i := 33) rfl (by kernel_rfl) (by kernel_rfl : (Zpb 34 8589934591).setIfInBounds 33 true = Zpb 34 17179869183) (si_and (si_G rfl) si_U) (fun _ _ _ h => h) rfl rfl rfl rfl (fun _ _ _ _ _ => (Zra rfl (T.e 0 rfl))) ?_; clear T ac; intro ac T
    refine Zgd (by kernel_rfl) ?_
    replace T := T.pick [0, 36, 37, 38, 39, 40, 41, 42, 43] rfl
    refine nm_then ?_
    refine wp_region_lit ?_
    refine Zg4 T (Zq (Zrm rfl (T.e 7 rfl))) rfl (Zm 2 rfl rfl) rfl (Zm 2 rfl rfl) rfl (Zm 5 rfl rfl) rfl ?_; clear T ac; intro ac T
    refine Zl2 ?_
    refine Zoc (first := []) (cap := []) T rfl rfl rfl rfl evf (.cons (T.e 2 rfl) (.cons (T.e 1 rfl) (.cons (T.e 0 rfl) .nil))) Tryz.func53 rfl rfl ?_
    refine Calls.mono (soundOf_any _ bp (((y.t0 + (min lu2.first 14)) + (lu2.step * (k : Int))) + xu5) wide _ (by omega) (by omega) (M.nth 2 rfl) hsu5) ?_
    clear T; rintro e wc ⟨xu6, su6, hxu6, hsu6, rfl, hgr, hbk⟩ ac T
    replace M := M.callC (cs' := [.int .u64 su6]) (.tail (.tail .head)) hgr hbk
    clear hgr hbk
    refine Zl2 ?_
    refine ow_bs (e := 32) [Zi xu6.t0, Zi xu6.t1, Zi xu6.s0, Zi xu6.s1] M T rfl rfl rfl rfl (.cons (T.e 0 rfl) .nil) (fun _ => by kernel_rfl) ?_; clear M T; intro g3 wc ac M T
    refine Zl2 ?_
    refine ow_app (((g3, .cells [Zi xu6.t0, Zi xu6.t1, Zi xu6.s0, Zi xu6.s1]) :: (g2, .cells [Zi (min lu2.first 14), Zi lu2.step, Zi lu2.span, Zi lu2.press, .slice A3 RL.length c3]) :: (g1, .cells [Zi 0, Zi 0, Zi 0, Zi 0, .slice none 0 0]) :: (bp, .cells [.int .u64 su6]) :: (Ie ++ Io))) Tryz.info32 hsl4 M (by first | rfl | simp) T rfl rfl rfl rfl Tryz.underlying24 rfl rfl rfl (by omega) (T.e 5 rfl) (T.e 0 rfl) (Zne (i := 0) rfl) rfl rfl ?_; clear M T; intro ga1 cga1 wc ac M T
    refine l_q (v := (.slice (some ⟨ga1, 0, none⟩) (ol.length + 1) cga1)) (T.pick [0, 1, 2, 3, 4, 5, 6, 7, 8, 9, 10, 11, 12, 13, 15] rfl) rfl rfl rfl rfl (Zra rfl (T.e 0 rfl)) ?_; clear T ac; intro ac T
    refine wpList_nil ?_
    replace T := T.pick [0, 9, 10, 11, 12, 13, 14, 15] rfl
    replace M := M.mask [true, false, true, true, true] rfl
    refine Znb ?_
    refine nm_then ?_
    refine wp_region_lit ?_
    refine Zg2 T (Zq (Zrm rfl (T.e 7 rfl))) rfl (fun _ T => Zq (rn_add rfl (T.e 0 rfl) evc (by omega))) rfl ?_; clear T ac; intro ac T
    refine l_q (v := (Zi ((k : Int) + 1))) (T.pick [0, 1, 2, 3, 4, 5, 6, 7, 8] rfl) rfl rfl rfl rfl (Zra rfl (T.e 0 rfl)) ?_; clear T ac; intro ac T
    replace T := T.pick [0, 3, 4, 5, 6, 7, 8, 9] rfl
    refine Zln ?_
    have e9 : ol.length + 1 = (ol ++ [xu6]).length := by simp
    have e8 : ((sc ol) ++ [Zi xu6.t0, Zi xu6.t1, Zi xu6.s0, Zi xu6.s1]) = sc (ol ++ [xu6]) := by rw [← sc_snoc]
    rw [e9, e8] at M
    rw [e9] at T
    clear e9 e8
    exact ⟨_, by omega, k + 1, (ol ++ [xu6]), _, _, su6, [(ga1, .row 32 4 (ol ++ [xu6]).length (sc (ol ++ [xu6])) cga1)], rfl, (by omega), (by simp [hol]), (fun z hz => by rcases List.mem_append.1 hz with h9 | h9; exact hg4 z h9; simp only [List.mem_cons, List.not_mem_nil, or_false] at h9; subst h9; exact hxu6), hsu6, (Sl.row _ _ _ _ _ _), T.pick [2, 3, 4, 5, 6, 7, 1, 0] rfl, (Mem.spin [(g2, .cells [Zi (min lu2.first 14), Zi lu2.step, Zi lu2.span, Zi lu2.press, .slice A3 RL.length c3]), (g1, .cells [Zi 0, Zi 0, Zi 0, Zi 0, .slice none 0 0]), (bp, .cells [.int .u64 su6])] [(ga1, .row 32 4 (ol ++ [xu6]).length (sc (ol ++ [xu6])) cga1)] (Ie ++ Io) (M.permT [1, 2, 3, 0] 4 rfl rfl rfl rfl))⟩
   intro h3
   refine Zsk ?_
   refine wp_region_lit ?_
   refine Zg4 T (Zq (Zrm rfl (T.e 9 rfl))) rfl (Zm 4 rfl rfl) rfl (Zm 4 rfl rfl) rfl (Zm 7 rfl rfl) rfl ?_; clear T ac; intro ac T
   refine Zl2 ?_
   refine Zoc (first := []) (cap := []) T rfl rfl rfl rfl evf (.cons (T.e 2 rfl) (.cons (T.e 1 rfl) (.cons (T.e 0 rfl) .nil))) Tryz.func53 rfl rfl ?_
   refine Calls.mono (soundOf_any _ bp xu4 wide _ (by omega) (by omega) (M.nth 2 rfl) hsu4) ?_
   clear T; rintro e wc ⟨xu7, su7, hxu7, hsu7, rfl, hgr, hbk⟩ ac T
   replace M := M.callC (cs' := [.int .u64 su7]) (.tail (.tail .head)) hgr hbk
   clear hgr hbk
   refine Zl2 ?_
   refine ow_bs (e := 32) [Zi xu7.t0, Zi xu7.t1, Zi xu7.s0, Zi xu7.s1] M T rfl rfl rfl rfl (.cons (T.e 0 rfl) .nil) (fun _ => by kernel_rfl) ?_; clear M T; intro g4 wc ac M T
   refine Zl2 ?_
   refine ow_app (((g4, .cells [Zi xu7.t0, Zi xu7.t1, Zi xu7.s0, Zi xu7.s1]) :: (g2, .cells [Zi (min lu2.first 14), Zi lu2.step, Zi lu2.span, Zi lu2.press, .slice A3 RL.length c3]) :: (g1, .cells [Zi 0, Zi 0, Zi 0, Zi 0, .slice none 0 0]) :: (bp, .cells [.int .u64 su7]) :: (Ie ++ Io))) Tryz.info32 hsl4 M (by first | rfl | simp) T rfl rfl rfl rfl Tryz.underlying24 rfl rfl rfl (by omega) (T.e 5 rfl) (T.e 0 rfl) (Zne (i := 0) rfl) rfl rfl ?_; clear M T; intro ga2 cga2 wc ac M T
   refine l_q (v := (.slice (some ⟨ga2, 0, none⟩) (ol.length + 1) cga2)) (T.pick [0, 1, 2, 3, 4, 5, 6, 7, 8, 9, 10, 11, 12, 13, 14, 15, 17] rfl) rfl rfl rfl rfl (Zra rfl (T.e 0 rfl)) ?_; clear T ac; intro ac T
   refine wpList_nil ?_
   replace T := T.pick [0, 11, 12, 13, 14, 15, 16, 17] rfl
   replace M := M.mask [true, false, true, true, true] rfl
   refine Znb ?_
   refine nm_then ?_
   refine wp_region_lit ?_
   refine Zg2 T (Zq (Zrm rfl (T.e 7 rfl))) rfl (fun _ T => Zq (rn_add rfl (T.e 0 rfl) evc (by omega))) rfl ?_; clear T ac; intro ac T
   refine l_q (v := (Zi ((k : Int) + 1))) (T.pick [0, 1, 2, 3, 4, 5, 6, 7, 8] rfl) rfl rfl rfl rfl (Zra rfl (T.e 0 rfl)) ?_; clear T ac; intro ac T
   replace T := T.pick [0, 3, 4, 5, 6, 7, 8, 9] rfl
   refine Zln ?_
   have e9 : ol.length + 1 = (ol ++ [xu7]).length := by simp
   have e8 : ((sc ol) ++ [Zi xu7.t0, Zi xu7.t1, Zi xu7.s0, Zi xu7.s1]) = sc (ol ++ [xu7]) := by rw [← sc_snoc]
   rw [e9, e8] at M
   rw [e9] at T
   clear e9 e8
   exact ⟨_, by omega, k + 1, (ol ++ [xu7]), _, _, su7, [(ga2, .row 32 4 (ol ++ [xu7]).length (sc (ol ++ [xu7])) cga2)], rfl, (by omega), (by simp [hol]), (fun z hz => by rcases List.mem_append.1 hz with h9 | h9; exact hg4 z h9; simp only [List.mem_cons, List.not_mem_nil, or_false] at h9; subst h9; exact hxu7), hsu7, (Sl.row _ _ _ _ _ _), T.pick [2, 3, 4, 5, 6, 7, 1, 0] rfl, (Mem.spin [(g2, .cells [Zi (min lu2.first 14), Zi lu2.step, Zi lu2.span, Zi lu2.press, .slice A3 RL.length c3]), (g1, .cells [Zi 0, Zi 0, Zi 0, Zi 0, .slice none 0 0]), (bp, .cells [.int .u64 su7])] [(ga2, .row 32 4 (ol ++ [xu7]).length (sc (ol ++ [xu7])) cga2)] (Ie ++ Io) (M.permT [1, 2, 3, 0] 4 rfl rfl rfl rfl))⟩
  intro h2
  replace M : Mem w (fun b => b = bp) wc ((g2, .cells [Zi (min lu2.first 14), Zi lu2.step, Zi lu2.span, Zi lu2.press, .slice A3 RL.length c3]) :: (g1, .cells [Zi 0, Zi 0, Zi 0, Zi 0, .slice none 0 0]) :: (bp, .cells [.int .u64 s]) :: (Ie ++ I4 ++ Io)) := Mem.swap3 [(g2, .cells [Zi (min lu2.first 14), Zi lu2.step, Zi lu2.span, Zi lu2.press, .slice A3 RL.length c3]), (g1, .cells [Zi 0, Zi 0, Zi 0, Zi 0, .slice none 0 0]), (bp, .cells [.int .u64 s])] Ie Io I4 M
  refine wp_exit ?_
  refine Zet ?_
  refine Zet ?_
  refine ex_hit ?_
  refine nm_then ?_
  refine wp_region_lit ?_
  refine Zg3 (v1 := (.pointer (some ⟨g2, 4, none⟩))) T (Zq (Zrf (off := 4) rfl (T.e 5 rfl) (fun _ _ _ => by kernel_rfl))) rfl (Zo M 0 0 rfl rfl rfl rfl) rfl (Zm 9 rfl rfl) rfl ?_; clear T ac; intro ac T
  refine Zl2 ?_
  refine ow_bs (e := 24) [.slice A4 ol.length c4] M T rfl rfl rfl rfl (.cons (T.e 0 rfl) .nil) (fun _ => by kernel_rfl) ?_; clear M T; intro g5 wc ac M T
  refine Zl2 ?_
  refine ow_app (((g5, .cells [.slice A4 ol.length c4]) :: (g2, .cells [Zi (min lu2.first 14), Zi lu2.step, Zi lu2.span, Zi lu2.press, .slice A3 RL.length c3]) :: (g1, .cells [Zi 0, Zi 0, Zi 0, Zi 0, .slice none 0 0]) :: (bp, .cells [.int .u64 s]) :: (Ie ++ I4))) Tryz.info24 hsl M (by first | rfl | simp) T rfl rfl rfl rfl Tryz.underlying62 rfl rfl rfl (by omega) (T.e 2 rfl) (T.e 0 rfl) (Zne (i := 0) rfl) rfl rfl ?_; clear M T; intro ga3 cga3 wc ac M T
  refine lq (v := (.pointer (some ⟨g2, 4, none⟩))) T (Zrf (off := 4) rfl (T.e 10 rfl) (fun _ _ _ => by kernel_rfl)) ?_; clear T ac; intro ac T
  refine Zl2 ?_
  refine Zos M T rfl rfl (T.e 0 rfl) (T.e 1 rfl) rfl (.tail (.tail .head)) rfl (by simp) rfl (by kernel_rfl) ?_; clear M T; intro wc ac M T
  refine wpList_nil ?_
  replace T := T.pick [7, 8, 9, 10, 11, 12] rfl
  replace M := M.mask [true, false, true, true, true] rfl
  refine Znb ?_
  refine nm_then ?_
  refine wp_region_lit ?_
  refine Zg2 T (Zq (Zrm rfl (T.e 5 rfl))) rfl (fun _ T => Zq (rn_sub rfl (T.e 0 rfl) evc (by omega))) rfl ?_; clear T ac; intro ac T
  refine l_q (v := (Zi (i - 1))) (T.pick [0, 1, 2, 3, 4, 5, 6] rfl) rfl rfl rfl rfl (Zra rfl (T.e 0 rfl)) ?_; clear T ac; intro ac T
  replace T := T.pick [0, 3, 4, 5, 6, 7] rfl
  refine Zln ?_
  have e9 : RL.length + 1 = (RL ++ [(ol, A4, c4)]).length := by simp
  have e8 : ((lsC RL) ++ [.slice A4 ol.length c4]) = lsC (RL ++ [(ol, A4, c4)]) := by rw [← lsC_snoc]
  rw [e9, e8] at M
  clear e9 e8
  exact ⟨_, by omega, (i - 1), (RL ++ [(ol, A4, c4)]), _, _, s, (Ie ++ I4), [(ga3, .row 24 1 (RL ++ [(ol, A4, c4)]).length (lsC (RL ++ [(ol, A4, c4)])) cga3)], rfl, (by omega), (by simp only [List.length_append, List.length_cons, List.length_nil]; omega), (fun z hz => by rcases List.mem_append.1 hz with h9 | h9; exact hgo z h9; simp only [List.mem_cons, List.not_mem_nil, or_false] at h9; subst h9; exact ⟨by dsimp only; omega, hg4⟩), (hEl.snoc (hsl4.spV (sc_length _))), hs4, (Sl.row _ _ _ _ _ _), T.pick [1, 2, 3, 4, 5, 0] rfl, (Mem.spin [(g2, .cells [Zi (min lu2.first 14), Zi lu2.step, Zi lu2.span, Zi lu2.press, .slice (some ⟨ga3, 0, none⟩) ((RL ++ [(ol, A4, c4)]).length) cga3]), (g1, .cells [Zi 0, Zi 0, Zi 0, Zi 0, .slice none 0 0]), (bp, .cells [.int .u64 s])] [(ga3, .row 24 1 (RL ++ [(ol, A4, c4)]).length (lsC (RL ++ [(ol, A4, c4)])) cga3)] (Ie ++ I4) (M.permT [1, 2, 3, 0] 4 rfl rfl rfl rfl))⟩
 intro h1
 refine wp_exit ?_
 refine Zet ?_
 refine Zet ?_
 refine ex_hit ?_
 refine nm_then ?_
 refine Zsr ?_
 refine lq T (Zrr (Mem.nth M 0 rfl) rfl (T.e 5 rfl) rfl) ?_; clear T ac; intro ac T
 refine Zl2 ?_
 refine Zos M T rfl rfl (T.e 4 rfl) (T.e 0 rfl) rfl (.tail .head) rfl (by simp) rfl (by kernel_rfl) ?_; clear M T; intro wc ac M T
 refine wpList_nil ?_
 replace T := T.pick [4] rfl
 replace M := M.mask [false, true, true] rfl
 refine Znr ?_
 refine rt_c M T rfl (T.e 0 rfl) (Zne (i := 0) rfl) rfl ?_
 obtain ⟨b9, o9, h9⟩ := hsl.spV (by rw [lsC_length]; omega)
 refine ⟨⟨min lu2.first 14, lu2.step, lu2.span, lu2.press⟩, RL, A3, c3, _, Ie ++ Io, rfl, scaleMade hlu2 (by omega) (by omega) hgo, hs, ⟨b9, o9, fun w ex => (h9 w ex).mono (Zsq _ _)⟩, hEl.mono (Zsl _ _), Mem.swapI (I := [(bp, .cells [.int .u64 s])]) (L := Ie ++ Io) (M.mask [false, true] rfl)⟩
open Go.RowKit
open Go.RowKit
section
variable {P : Program} {op : Oper} {a : Act} {K : Act → World → Prop} {Q : Exit → Act → World → Prop} {w0 w : World} {ex : Nat → Prop} {L : List (Nat × BA)} {E : List (Nat × Value)} {df : List Deferred} {t n : Nat}
end
open Go.RowKit
open Go.RowKit
theorem eqT32 {x y : Operand} {a0 a1 a2 a3 b0 b1 b2 b3 : Int} {w : World} : (do eqGuard .eql 32 x y (.agg #[Zi a0, Zi a1, Zi a2, Zi a3]) (.agg #[Zi b0, Zi b1, Zi b2, Zi b3]); binOp .eql 32 (.agg #[Zi a0, Zi a1, Zi a2, Zi a3]) (.agg #[Zi b0, Zi b1, Zi b2, Zi b3]) : Sem Value).run Tryz.prog w = .ok (.bool ((decide (a0 = b0) && (decide (a1 = b1) && (decide (a2 = b2) && decide (a3 = b3)))))) w := by
 go_simp
 (repeat' split) <;> simp_all
theorem eqT23 {x y : Operand} {a0 a1 a2 a3 b0 b1 b2 b3 : Int} {w : World} : (do eqGuard .eql 23 x y (.agg #[Zi a0, Zi a1, Zi a2, Zi a3]) (.agg #[Zi b0, Zi b1, Zi b2, Zi b3]); binOp .eql 23 (.agg #[Zi a0, Zi a1, Zi a2, Zi a3]) (.agg #[Zi b0, Zi b1, Zi b2, Zi b3]) : Sem Value).run Tryz.prog w = .ok (.bool ((decide (a0 = b0) && (decide (a1 = b1) && (decide (a2 = b2) && decide (a3 = b3)))))) w := by
 go_simp
 (repeat' split) <;> simp_all
theorem sameSounds_same (A D : Option Addr) (n c d : Nat) (l : List Snd) (w : World) (hr : Rd w w.heap.size 4 A n (sc l)) (hs : Rd w w.heap.size 4 D n (sc l)) (hn : n ≤ 1000000) :
   Calls Tryz.prog 68 #[.slice A n c, .slice D n d] w fun e w' => e = .returned (.bool true) ∧ Below w.heap.size w w' := by
 have hl := hr.len4
 obtain ⟨bJ, oJ, SJ⟩ := Sp.old hr
 obtain ⟨bI, oI, SI⟩ := Sp.old hs
 refine Zpx noEx Tryz.func68 rfl 31 rfl [.slice A n c, .slice D n d] rfl rfl (Mem.init w _) ?_
 intro ac wc T M
 refine Zsr ?_
 refine lq T (Zra rfl evc) ?_; clear T ac; intro ac T
 replace T := T.pick [1, 2] rfl
 refine Zln ?_
 refine Zsr ?_
 refine Zg6 (v5 := (.bool true)) T (Zq (Zrm rfl (T.e 0 rfl))) rfl (Zl Tryz.underlying24 0 rfl rfl) rfl (Zm 3 rfl rfl) rfl (Zl Tryz.underlying24 0 rfl rfl) rfl (fun _ T => Zq (Zrq (rn_eql rfl (T.e 2 rfl) (T.e 0 rfl)) (by simp))) rfl (Za 0 rfl rfl) rfl ?_; clear T ac; intro ac T
 replace T := T.pick [0, 6, 7] rfl
 refine Zln ?_
 refine wp_seq ?_
 refine Zsr ?_
 refine lq T (Zra rfl evc) ?_; clear T ac; intro ac T
 refine Zln ?_
 refine wp_block ?_
 refine wp_loop_n (fun mz ac wc => ∃ (k : Nat), mz = n - k ∧ (k ≤ n) ∧ Tm ac 31 [(0, .slice A n c), (1, .slice D n d), (5, .bool true), (6, Zi (k : Int))] ∧ Mem w noEx wc []) ?_ ?_
 ·exact ⟨_, 0, rfl, (Nat.zero_le _), T.pick [2, 3, 1, 0] rfl, M.mask [] rfl⟩
 clear T M
 rintro mz ac wc ⟨k, hmm1, hk, T, M⟩
 refine wp_seq ?_
 refine Zsr ?_
 refine Zg7 T (Zq (Zrm rfl (T.e 2 rfl))) rfl (Zm 0 rfl rfl) rfl (fun _ T => Zw (Zwy rfl rfl (T.e 0 rfl) rfl) (Zrm rfl (T.e 5 rfl))) rfl (fun _ T => Zw (Zwy rfl rfl (T.e 1 rfl) rfl) (Zrm rfl (T.e 3 rfl))) rfl (fun _ T => Zw (Zwy rfl rfl (T.e 2 rfl) rfl) (Zrl rfl Tryz.underlying24 (T.e 0 rfl))) rfl (fun _ T => Zw (Zwy rfl rfl (T.e 3 rfl) rfl) (rn_lss rfl (T.e 2 rfl) (T.e 0 rfl))) rfl (fun _ T => Zq (Zr1 rfl (T.e 4 rfl) rfl (T.e 0 rfl))) rfl ?_; clear T ac; intro ac T
 replace T := T.pick [0, 1, 2, 3, 4, 7, 8, 9, 10] rfl
 refine Zln ?_
 refine wp_if (T.e 0 rfl) ?_ ?_
 ·intro h1
  obtain ⟨x, hkx, -⟩ := sc_next (l := l) (k := k) (by omega)
  refine Zsk ?_
  refine wp_seq ?_
  refine wp_block ?_
  refine Zgs M (M.mask [] rfl) 10 (by kernel_rfl) rfl (by kernel_rfl) ?_
  clear M; intro wc M
  refine gq T 0 1 rfl (fun _ _ _ _ _ => (Zrm rfl (T.e 5 rfl))) ?_; clear T ac; intro ac T
  refine gq T 1 3 rfl (fun _ _ _ _ _ => (Zrm rfl (T.e 9 rfl))) ?_; clear T ac; intro ac T
  refine gq T 2 7 rfl (fun _ _ _ _ _ => (Zri (size := 4) k rfl (T.e 1 rfl) (T.e 0 rfl) ⟨_, Tryz.underlying24, by kernel_rfl⟩ rfl (by omega) (SJ.at0 (by omega)))) ?_; clear T ac; intro ac T
  refine gq (v := (.agg #[Zi x.t0, Zi x.t1, Zi x.s0, Zi x.s1])) T 3 15 rfl (fun B w' hD hl hS => (rn_rowat (Sp.scR4 SJ (show Mem w noEx w' _ from hS) (Zz9 _) hkx) rfl (T.e 0 rfl) rfl)) ?_; clear T ac; intro ac T
  refine gq T 4 31 rfl (fun _ _ _ _ _ => (Zrm rfl (T.e 10 rfl))) ?_; clear T ac; intro ac T
  refine gq T 5 63 rfl (fun _ _ _ _ _ => (Zrm rfl (T.e 13 rfl))) ?_; clear T ac; intro ac T
  refine gq T 6 127 rfl (fun _ _ _ _ _ => (Zri (size := 4) k rfl (T.e 1 rfl) (T.e 0 rfl) ⟨_, Tryz.underlying24, by kernel_rfl⟩ rfl (by omega) (SI.at0 (by omega)))) ?_; clear T ac; intro ac T
  refine gq (v := (.agg #[Zi x.t0, Zi x.t1, Zi x.s0, Zi x.s1])) T 7 255 rfl (fun B w' hD hl hS => (rn_rowat (Sp.scR4 SI (show Mem w noEx w' _ from hS) (Zz9 _) hkx) rfl (T.e 0 rfl) rfl)) ?_; clear T ac; intro ac T
  refine gq (v := (.bool true)) T 8 511 rfl (fun _ _ _ _ _ => (Zrq (rn_bin rfl (T.e 4 rfl) (T.e 0 rfl) eqT32) (by simp))) ?_; clear T ac; intro ac T
  refine g_q (v := (.bool true)) (T := T.pick [0, 1, 2, 3, 4, 5, 6, 7, 8, 9, 10, 11, 12, 13, 14, 15, 17] rfl) (i := 9) rfl (by kernel_rfl) (by kernel_rfl : (Zpb 10 511).setIfInBounds 9 true = Zpb 10 1023) si_U (fun _ _ _ h => h) rfl rfl rfl rfl (fun _ _ _ _ _ => (Zra rfl (T.e 0 rfl))) ?_; clear T ac; intro ac T
  refine Zgd (by kernel_rfl) ?_
  replace T := T.pick [0, 11, 12, 13, 14, 15, 16, 17] rfl
  refine Znb ?_
  refine nm_then ?_
  refine wp_region_lit ?_
  refine Zg2 T (Zq (Zrm rfl (T.e 7 rfl))) rfl (fun _ T => Zq (rn_add rfl (T.e 0 rfl) evc (by omega))) rfl ?_; clear T ac; intro ac T
  refine l_q (v := (Zi ((k : Int) + 1))) (T.pick [0, 1, 2, 3, 4, 5, 6, 7, 8] rfl) rfl rfl rfl rfl (Zra rfl (T.e 0 rfl)) ?_; clear T ac; intro ac T
  replace T := T.pick [0, 3, 4, 5, 6, 7, 8, 9] rfl
  refine Zln ?_
  exact ⟨_, by omega, k + 1, rfl, (by omega), T.pick [6, 7, 1, 0] rfl, M.mask [] rfl⟩
 intro h1
 refine wp_exit ?_
 refine Zet ?_
 refine Zet ?_
 refine ex_hit ?_
 refine nm_then ?_
 refine Zsr ?_
 refine Zg2 T (Zq (Zrm rfl (T.e 7 rfl))) rfl (Za 0 rfl rfl) rfl ?_; clear T ac; intro ac T
 replace T := T.pick [0] rfl
 refine Zln ?_
 refine wp_ret ?_
 refine rt_1 T rfl (T.e 0 rfl) ?_
 exact ⟨rfl, M.below⟩
theorem Tryz.append0s (B : Option Addr) (d g : Nat) (ty : TypeId) (w : World) : (Builtin.append_ #[24, 24] ty #[.slice (some ⟨g, 0, none⟩) 0 0, .slice B 0 d]).run Tryz.prog w = .ok (.slice (some ⟨g, 0, none⟩) 0 0) w := by
 cases B <;> kernel_rfl
theorem sc_one (l : List Snd) : ∀ u ∈ sc l, u.oneCell' = true := by
 intro u hu
 obtain ⟨p, _, hp⟩ := List.mem_flatMap.1 hu
 simp only [sndC, List.mem_cons, List.not_mem_nil, or_false] at hp
 rcases hp with rfl | rfl | rfl | rfl <;> rfl
theorem Sm.spV {e size n c : Nat} {A : Option Addr} {xs : List Value} {I : List (Nat × BA)} (h : Sm e size A n c xs I) (hl : xs.length = n * size) : ∃ b o, ∀ (w : World) (ex : Nat → Prop), Sp w ex I A n size b o xs := Cl.spV (.inr h) hl
def RowsIn (LL : List LS) (I : List (Nat × BA)) : Prop := ∃ Is : List (List (Nat × BA)), Is.length = LL.length ∧ I = Is.flatten ∧ ∀ (k : Nat) (x : LS) (J : List (Nat × BA)), LL[k]? = some x → Is[k]? = some J → Sm 32 4 x.2.1 x.1.length x.2.2 (sc x.1) J
theorem RowsIn.nil : RowsIn [] [] := ⟨[], rfl, rfl, fun k x J h => by simp at h⟩
theorem RowsIn.snoc {LL : List LS} {I J : List (Nat × BA)} {l : List Snd} {B : Option Addr} {c : Nat} (h : RowsIn LL I) (hs : Sm 32 4 B l.length c (sc l) J) : RowsIn (LL ++ [(l, B, c)]) (I ++ J) := by
 obtain ⟨Is, h1, h2, h3⟩ := h
 refine ⟨Is ++ [J], by simp [h1], by simp [h2], fun k x J' hx hJ => ?_⟩
 rcases Nat.lt_or_ge k LL.length with hk | hk
 ·rw [List.getElem?_append_left hk] at hx
  rw [List.getElem?_append_left (by omega)] at hJ
  exact h3 k x J' hx hJ
 ·rw [List.getElem?_append_right hk] at hx
  rw [List.getElem?_append_right (by omega), h1] at hJ
  obtain ⟨q, hq⟩ : ∃ q, k - LL.length = q := ⟨_, rfl⟩
  rw [hq] at hx hJ
  cases q with
  | zero =>
   simp only [List.getElem?_cons_zero, Option.some.injEq] at hx hJ
   subst hx hJ
   exact hs
  | succ q => simp at hx
def ElsSV (LL : List LS) (I : List (Nat × BA)) : Prop := ∀ x ∈ LL, ∃ b o, ∀ (w : World) (ex : Nat → Prop), Sp w ex I x.2.1 x.1.length 4 b o (sc x.1)
theorem ElsSV.mono {LL : List LS} {I I' : List (Nat × BA)} (h : ElsSV LL I) (hs : I.Sublist I') : ElsSV LL I' := fun x hx => by
 obtain ⟨b, o, h1⟩ := h x hx
 exact ⟨b, o, fun w ex => (h1 w ex).mono hs⟩
theorem sub_flat {α : Type} {Is : List (List α)} {J : List α} (h : J ∈ Is) : J.Sublist Is.flatten := by
 induction Is with
 | nil => cases h
 | cons x r ih =>
  rw [List.flatten_cons]
  rcases List.mem_cons.1 h with rfl | h
  ·exact Zsl _ _
  ·exact (ih h).trans (Zsq _ _)
theorem RowsIn.els {LL : List LS} {I : List (Nat × BA)} (h : RowsIn LL I) : ElsSV LL I := fun x hx => by
 obtain ⟨Is, h1, rfl, h3⟩ := h
 obtain ⟨k, hk, e⟩ := List.mem_iff_getElem.1 hx
 have hJ : Is[k]? = some Is[k] := List.getElem?_eq_getElem (by omega)
 obtain ⟨b, o, S⟩ := (h3 k x _ (by rw [List.getElem?_eq_getElem hk, e]) hJ).spV (sc_length _)
 exact ⟨b, o, fun w ex => (S w ex).mono (sub_flat (List.mem_of_getElem? hJ))⟩
theorem RowsIn.split {LL : List LS} {I K F : List (Nat × BA)} {w0 w : World} {ex : Nat → Prop} {k : Nat} {l : List Snd} {B : Option Addr} {c : Nat} (h : RowsIn LL I) (hk : LL[k]? = some (l, B, c)) (hn : 0 < l.length) (M : Mem w0 ex w (K ++ (I ++ F))) :
  ∃ g ys I', B = some ⟨g, 0, none⟩ ∧ Mem w0 ex w ((g, .cells (sc l ++ ys)) :: (K ++ (I' ++ F))) ∧ ∀ j x, j ≠ k → LL[j]? = some x → ∃ b o, ∀ (w : World) (ex : Nat → Prop), Sp w ex I' x.2.1 x.1.length 4 b o (sc x.1) := by
 obtain ⟨Is, h1, rfl, h3⟩ := h
 have hkl := (List.getElem?_eq_some_iff.1 hk).1
 have hJ : Is[k]? = some Is[k] := List.getElem?_eq_getElem (by omega)
 have hs := h3 k _ _ hk hJ
 have hsp : Is = Is.take k ++ Is[k] :: Is.drop (k + 1) := by
  rw [List.getElem_cons_drop]
  exact (List.take_append_drop k Is).symm
 obtain ⟨I', hI'⟩ : ∃ I', I' = (Is.take k).flatten ++ (Is.drop (k + 1)).flatten := ⟨_, rfl⟩
 have hp : (K ++ (Is.flatten ++ F)).Perm ((K ++ (I' ++ F)) ++ Is[k]) := by
  have e : Is.flatten = (Is.take k).flatten ++ (Is[k] ++ (Is.drop (k + 1)).flatten) := by
   conv => lhs; rw [hsp]
   rw [List.flatten_append, List.flatten_cons]
  rw [e, hI', List.append_assoc]
  rw [List.append_assoc K]
  refine List.Perm.append_left K ?_
  simp only [List.append_assoc]
  refine List.Perm.append_left _ ?_
  rw [← List.append_assoc (List.drop (k + 1) Is).flatten F]
  exact List.perm_append_comm
 have M1 : Mem w0 ex w ((K ++ (I' ++ F)) ++ Is[k]) := ⟨M.os, M.tape, M.output, M.size, M.block, fun p h => M.blk p (hp.mem_iff.2 h), (hp.map _).nodup_iff.1 M.nd⟩
 obtain ⟨b, J', ⟨hl, hw⟩, M2⟩ := hs.sw M1
 rcases hw with hw | ⟨hB, ys, rfl⟩
 ·have hw : l.length = 0 := hw
  omega
 ·refine ⟨b, ys, I', hB, Mem.swapI (I := K ++ (I' ++ F)) (L := [(b, .cells (sc l ++ ys))]) M2, fun j x hjk hx => ?_⟩
  have hjl := (List.getElem?_eq_some_iff.1 hx).1
  have hJ2 : Is[j]? = some Is[j] := List.getElem?_eq_getElem (by omega)
  obtain ⟨b2, o2, S⟩ := (h3 j x _ hx hJ2).spV (sc_length _)
  refine ⟨b2, o2, fun w ex => (S w ex).mono ?_⟩
  rw [hI', ← List.flatten_append]
  refine sub_flat ?_
  rcases Nat.lt_or_ge j k with hlt | hge
  ·exact List.mem_append_left _ (List.mem_of_getElem? (i := j) (by rw [List.getElem?_take, if_pos hlt]; exact hJ2))
  ·exact List.mem_append_right _ (List.mem_of_getElem? (i := j - (k + 1)) (by rw [List.getElem?_drop, show k + 1 + (j - (k + 1)) = j by omega]; exact hJ2))
theorem lsC_set {LL : List LS} {k : Nat} {l l' : List Snd} {B : Option Addr} {c : Nat} (h : LL[k]? = some (l, B, c)) (hl : l'.length = l.length) : lsC (LL.set k (l', B, c)) = lsC LL := by
 unfold lsC
 apply List.ext_getElem?
 intro i
 rw [List.getElem?_map, List.getElem?_map, List.getElem?_set]
 have hk := (List.getElem?_eq_some_iff.1 h).1
 split
 ·rename_i e
  subst e
  first
   | rw [if_pos hk, h, Option.map_some, Option.map_some, hl]
   | rw [h, Option.map_some, Option.map_some, hl]
 ·rfl
def CopyScPost (l : Lw) (LL : List LS) (w : World) (e : Ending) (w' : World) : Prop := ∃ A1 c1 LL1 Ie I1, e = .returned (.agg #[Zi l.first, Zi l.step, Zi l.span, Zi l.press, .slice A1 LL1.length c1]) ∧ LL1.map (·.1) = LL.map (·.1) ∧ RowsIn LL1 Ie ∧ (∃ b o, ∀ (w : World) (ex : Nat → Prop), Sp w ex I1 A1 LL1.length 1 b o (lsC LL1)) ∧ Mem w noEx w' (Ie ++ I1)
def turnN (x : Int) (n : Nat) : Nat := if n < 2 then 0 else ((x.tmod n + n).tmod n).toNat
theorem turnN_lt {x : Int} {n : Nat} (h : 0 < n) : turnN x n < n := by
 unfold turnN
 split
 ·omega
 ·have := turn_bd x n h
  omega
theorem turnN_any (x : Int) (n : Nat) (w : World) (h0 : 0 < n) (h9 : n ≤ 1000) :
   Calls Tryz.prog 34 #[Zi x, Zi (n : Int)] w fun e w' => e = .returned (Zi ((turnN x n : Nat) : Int)) ∧ Below w.heap.size w w' := by
 have hb := turn_bd x n h0
 refine Zpx noEx Tryz.func34 rfl 14 rfl [Zi x, Zi (n : Int)] rfl rfl (Mem.init w _) ?_
 intro ac wc T M
 refine Zsr ?_
 refine lq T (Zra rfl evc) ?_; clear T ac; intro ac T
 replace T := T.pick [1, 2] rfl
 refine Zln ?_
 refine wp_seq ?_
 refine Zsr ?_
 refine Zg2 T (Zq (Zrm rfl (T.e 1 rfl))) rfl (fun _ T => Zq (rn_lss rfl (T.e 0 rfl) evc)) rfl ?_; clear T ac; intro ac T
 replace T := T.pick [0, 2, 3] rfl
 refine Zln ?_
 refine wp_if (T.e 0 rfl) ?_ ?_
 ·intro h1
  refine Zsr ?_
  refine lq T (Zra rfl evc) ?_; clear T ac; intro ac T
  replace T := T.pick [0] rfl
  refine Zln ?_
  refine wp_ret ?_
  refine Zrt ?_
  refine rt_1 T rfl (T.e 0 rfl) ?_
  have e9 : ((turnN x n : Nat) : Int) = 0 := by unfold turnN; rw [if_pos (by omega)]; rfl
  rw [e9]
  exact ⟨rfl, M.below⟩
 intro h1
 refine Zsk ?_
 refine Zsr ?_
 refine Zg8 T (Zq (Zrm rfl (T.e 1 rfl))) rfl (Zm 3 rfl rfl) rfl (fun _ T => Zq (rn_rem rfl (T.e 1 rfl) (T.e 0 rfl) (by omega))) rfl (Zm 5 rfl rfl) rfl (fun _ T => Zq (rn_add rfl (T.e 1 rfl) (T.e 0 rfl) (by omega))) rfl (Zm 7 rfl rfl) rfl (fun _ T => Zq (rn_rem rfl (T.e 1 rfl) (T.e 0 rfl) (by omega))) rfl (Za 0 rfl rfl) rfl ?_; clear T ac; intro ac T
 replace T := T.pick [0] rfl
 refine Zln ?_
 refine wp_ret ?_
 refine rt_1 T rfl (T.e 0 rfl) ?_
 have e9 : ((turnN x n : Nat) : Int) = Int.tmod (Int.tmod x (n : Int) + (n : Int)) (n : Int) := by unfold turnN; rw [if_neg (by omega), Int.toNat_of_nonneg hb.2.1]
 rw [e9]
 exact ⟨rfl, M.below⟩
def longB (R : List (List Snd)) (g : List Int) : Bool := ((R.take 20).any fun x => decide (20 < x.length)) || (decide (20 < R.length) || decide (20 < g.length))
theorem longB_no {R : List (List Snd)} {g : List Int} (h : longB R g = false) : (∀ x ∈ R, x.length ≤ 20) ∧ R.length ≤ 20 ∧ g.length ≤ 20 := by
 unfold longB at h
 simp only [Bool.or_eq_false_iff, decide_eq_false_iff_not] at h
 obtain ⟨h1, h2, h3⟩ := h
 rw [List.take_of_length_le (by omega), List.any_eq_false] at h1
 exact ⟨fun x hx => by have := h1 x hx; simpa using this, by omega, by omega⟩
theorem long_any (l : Lw) (A : Option Addr) (c : Nat) (LL : List LS) (G : Option Addr) (d : Nat) (g : List Int)  (w : World) (hA : Rd w w.heap.size 1 A LL.length (lsC LL)) (hE : ElsS w LL) (nL : LL.length ≤ 9223372036854775807) (nE : ∀ x ∈ LL, x.1.length ≤ 9223372036854775807) (hG : Rd w w.heap.size 1 G g.length (ic g)) (nG : g.length ≤ 9223372036854775807)  :
   Calls Tryz.prog 31 #[.agg #[Zi l.first, Zi l.step, Zi l.span, Zi l.press, .slice A LL.length c], .slice G g.length d] w fun e w' => e = .returned (.bool (longB (rowsOf LL) g)) ∧ Below w.heap.size w w' := by
 obtain ⟨bA, oA, SA⟩ := Sp.old hA
 obtain ⟨bG, oG, SG⟩ := Sp.old hG
 refine Zpx noEx Tryz.func31 rfl 33 rfl [.agg #[Zi l.first, Zi l.step, Zi l.span, Zi l.press, .slice A LL.length c], .slice G g.length d] rfl rfl (Mem.init w _) ?_
 intro ac wc T M
 refine Zsr ?_
 refine Zl2 ?_
 refine Zob M T rfl rfl rfl rfl (T.e 0 rfl) rfl ?_; clear M T; intro g1 wc ac M T
 refine lq T (Zra rfl evc) ?_; clear T ac; intro ac T
 replace T := T.pick [1, 3] rfl
 refine Zln ?_
 refine wp_seq ?_
 refine Zsr ?_
 refine lq T (Zra rfl evc) ?_; clear T ac; intro ac T
 refine Zln ?_
 refine wp_block ?_
 refine wp_loop_n (fun mz ac wc => ∃ (i : Nat), mz = LL.length - i ∧ (i ≤ LL.length ∧ i ≤ 20) ∧ (((rowsOf LL).take i).any (fun x => decide (20 < x.length)) = false) ∧ Tm ac 33 [(1, .slice G g.length d), (2, Zj g1), (5, Zi (i : Int))] ∧ Mem w noEx wc [(g1, .cells [Zi l.first, Zi l.step, Zi l.span, Zi l.press, .slice A LL.length c])]) ?_ ?_
 ·exact ⟨_, 0, rfl, (by omega), rfl, T.pick [2, 1, 0] rfl, M.mask [true] rfl⟩
 clear T M
 rintro mz ac wc ⟨i, hmm1, hi, H, T, M⟩
 refine wp_seq ?_
 refine cut_seq (fun ac wc => Tm ac 33 [(1, .slice G g.length d), (2, Zj g1), (5, Zi (i : Int)), (14, .bool ((decide ((i : Int) < ((LL.length : Nat) : Int))) && (decide ((i : Int) < 20))))] ∧ Mem w noEx wc [(g1, .cells [Zi l.first, Zi l.step, Zi l.span, Zi l.press, .slice A LL.length c])]) ?_ ?_
 ·refine wp_region_lit ?_
  refine Zg6 (v2 := (.pointer (some ⟨g1, 4, none⟩))) T (Zq (Zrm rfl (T.e 2 rfl))) rfl (Zf 4 2 rfl rfl) rfl (Zo M 0 0 rfl rfl rfl rfl) rfl (Zl Tryz.underlying62 0 rfl rfl) rfl (fun _ T => Zq (rn_lss rfl (T.e 3 rfl) (T.e 0 rfl))) rfl (Zm 0 rfl rfl) rfl ?_; clear T ac; intro ac T
  rcases Bool.eq_false_or_eq_true (decide ((i : Int) < ((LL.length : Nat) : Int))) with h1 | h1
  ·replace h1 := of_decide_eq_true h1
   refine Zg3 T (Zw (Zwy rfl rfl (T.e 0 rfl) (Zdt h1)) (Zrm rfl (T.e 8 rfl))) rfl (fun _ T => Zw (Zwy rfl rfl (T.e 1 rfl) (Zdt h1)) (rn_lss rfl (T.e 0 rfl) evc)) rfl (fun _ T => Zq (Zr1 rfl (T.e 2 rfl) (Zdt h1) (T.e 0 rfl))) rfl ?_; clear T ac; intro ac T
   refine wpList_nil ?_
   replace T := T.pick [0, 1, 2, 9, 10, 11] rfl
   exact ⟨(T.pick (E' := [(1, .slice G g.length d), (2, Zj g1), (5, Zi (i : Int)), (14, .bool (decide ((i : Int) < 20)))]) [3, 4, 5, 0] rfl).as (by (try rw [show (decide ((i : Int) < ((LL.length : Nat) : Int))) = true from (Zdt h1)]); (try rfl)), M.mask [true] rfl⟩
  replace h1 := of_decide_eq_false h1
  refine Zg3 T (Zp (Zwn rfl rfl (T.e 0 rfl) (Zdf h1))) rfl (fun _ T => Zp (Zwn rfl rfl (T.e 1 rfl) (Zdf h1))) rfl (fun _ T => Zq (Zr0 rfl (T.e 2 rfl) (Zdf h1) evc)) rfl ?_; clear T ac; intro ac T
  refine wpList_nil ?_
  replace T := T.pick [0, 1, 2, 9, 10, 11] rfl
  exact ⟨(T.pick (E' := [(1, .slice G g.length d), (2, Zj g1), (5, Zi (i : Int)), (14, .bool false)]) [3, 4, 5, 0] rfl).as (by (try rw [show (decide ((i : Int) < ((LL.length : Nat) : Int))) = false from (Zdf h1)]); (try rfl)), M.mask [true] rfl⟩
 clear T M
 rintro ac wc ⟨T, M⟩
 refine wp_cond_split (T.e 3 rfl) ?_ ?_
 ·intro h2
  (have h2' := h2; try simp only [Zb1, Zb2, Zb3, Zb4, Zb5, Zb6, Zb7] at h2')
  have hi9 : i < LL.length ∧ i < 20 := by simp at h2; omega
  obtain ⟨⟨x1, B1, d1⟩, hk1⟩ : ∃ x, LL[i]? = some x := ⟨_, List.getElem?_eq_getElem (by omega)⟩
  obtain ⟨bs1, os1, Ss1⟩ := Sp.old (hE _ (List.mem_of_getElem? hk1))
  dsimp only at Ss1
  have nx1 := nE _ (List.mem_of_getElem? hk1)
  dsimp only at nx1
  have hkr : (rowsOf LL)[i]? = some x1 := by rw [List.getElem?_map, hk1]; rfl
  refine Zsk ?_
  refine wp_seq ?_
  refine wp_block ?_
  refine Zsr ?_
  refine Zg7 (v1 := (.pointer (some ⟨g1, 4, none⟩))) (v5 := (.slice B1 x1.length d1)) T (Zq (Zrf (off := 4) rfl (T.e 1 rfl) (fun _ _ _ => by kernel_rfl))) rfl (Zo M 0 0 rfl rfl rfl rfl) rfl (Zm 4 rfl rfl) rfl (fun _ T => Zq (Zri (size := 1) i rfl (T.e 1 rfl) (T.e 0 rfl) ⟨_, Tryz.underlying62, by kernel_rfl⟩ rfl (by omega) (SA.at0 (by omega)))) rfl (fun _ T => Zq (rn_cell (Sp.ls0 SA M (Zz9 _) hk1) rfl (T.e 0 rfl))) rfl (Zl Tryz.underlying24 0 rfl rfl) rfl (fun _ T => Zq (rn_gtr rfl (T.e 0 rfl) evc)) rfl ?_; clear T ac; intro ac T
  replace T := T.pick [0, 7, 8, 9] rfl
  refine Zln ?_
  refine wp_if (T.e 0 rfl) ?_ ?_
  ·intro h3
   refine Zsr ?_
   refine lq T (Zra rfl evc) ?_; clear T ac; intro ac T
   refine wpList_nil ?_
   replace T := T.pick [0] rfl
   replace M := M.mask [false] rfl
   refine Znr ?_
   refine Zrb ?_
   refine Zrt ?_
   refine Zrt ?_
   refine Zrb ?_
   refine Zrt ?_
   refine rt_1 T rfl (T.e 0 rfl) ?_
   have e9 : longB (rowsOf LL) g = true := by unfold longB; rw [show ((rowsOf LL).take 20).any (fun x => decide (20 < x.length)) = true from List.any_eq_true.2 ⟨x1, List.mem_of_getElem? (i := i) (by rw [List.getElem?_take, if_pos hi9.2]; exact hkr), by rw [decide_eq_true_eq]; omega⟩, Bool.true_or]
   rw [e9]
   exact ⟨rfl, M.below⟩
  intro h3
  refine wp_skip ?_
  refine Znb ?_
  refine nm_then ?_
  refine wp_region_lit ?_
  refine Zg2 T (Zq (Zrm rfl (T.e 3 rfl))) rfl (fun _ T => Zq (rn_add rfl (T.e 0 rfl) evc (by omega))) rfl ?_; clear T ac; intro ac T
  refine l_q (v := (Zi ((i : Int) + 1))) (T.pick [0, 1, 2, 3, 4] rfl) rfl rfl rfl rfl (Zra rfl (T.e 0 rfl)) ?_; clear T ac; intro ac T
  replace T := T.pick [0, 4, 5] rfl
  refine Zln ?_
  exact ⟨_, by omega, i + 1, rfl, (by omega), (by rw [List.take_add_one, hkr, List.any_append, H]; simp; omega), T.pick [1, 2, 0] rfl, M.mask [true] rfl⟩
 intro h2
 (have h2' := h2; try simp only [Zb1, Zb2, Zb3, Zb4, Zb5, Zb6, Zb7] at h2')
 have hfin : ((rowsOf LL).take 20).any (fun x => decide (20 < x.length)) = false := by
   rcases Nat.lt_or_ge i 20 with h9 | h9
   · have h8 : ¬ i < LL.length := by simp at h2; omega
     rw [List.take_of_length_le (by simp; omega)] at H ⊢; exact H
   · obtain rfl : i = 20 := by omega
     exact H
 refine wp_exit ?_
 refine Zet ?_
 refine Zet ?_
 refine ex_hit ?_
 refine nm_then ?_
 refine cut_seq (fun ac wc => Tm ac 33 [(4, .bool ((decide (20 < ((LL.length : Nat) : Int))) || (decide (20 < ((g.length : Nat) : Int)))))] ∧ Mem w noEx wc []) ?_ ?_
 ·refine wp_region_lit ?_
  refine Zg5 (v1 := (.pointer (some ⟨g1, 4, none⟩))) T (Zq (Zrf (off := 4) rfl (T.e 1 rfl) (fun _ _ _ => by kernel_rfl))) rfl (Zo M 0 0 rfl rfl rfl rfl) rfl (Zl Tryz.underlying62 0 rfl rfl) rfl (fun _ T => Zq (rn_gtr rfl (T.e 0 rfl) evc)) rfl (Zm 0 rfl rfl) rfl ?_; clear T ac; intro ac T
  rcases Bool.eq_false_or_eq_true (decide (20 < ((LL.length : Nat) : Int))) with h4 | h4
  ·replace h4 := of_decide_eq_true h4
   refine Zg5 T (Zp (Zwn rfl rfl (T.e 0 rfl) (Zdt h4))) rfl (fun _ T => Zp (Zwn rfl rfl (T.e 1 rfl) (Zdt h4))) rfl (fun _ T => Zp (Zwn rfl rfl (T.e 2 rfl) (Zdt h4))) rfl (fun _ T => Zq (Zr1 rfl (T.e 3 rfl) (Zdt h4) evc)) rfl (Za 0 rfl rfl) rfl ?_; clear T ac; intro ac T
   refine wpList_nil ?_
   replace T := T.pick [0] rfl
   replace M := M.mask [false] rfl
   exact ⟨(T.pick (E' := [(4, .bool true)]) [0] rfl).as (by (try rw [show (decide (20 < ((LL.length : Nat) : Int))) = true from (Zdt h4)]); (try rfl)), M.mask [] rfl⟩
  replace h4 := of_decide_eq_false h4
  refine Zg5 T (Zw (Zwy rfl rfl (T.e 0 rfl) (Zdf h4)) (Zrm rfl (T.e 5 rfl))) rfl (fun _ T => Zw (Zwy rfl rfl (T.e 1 rfl) (Zdf h4)) (Zrl rfl Tryz.underlying33 (T.e 0 rfl))) rfl (fun _ T => Zw (Zwy rfl rfl (T.e 2 rfl) (Zdf h4)) (rn_gtr rfl (T.e 0 rfl) evc)) rfl (fun _ T => Zq (Zr0 rfl (T.e 3 rfl) (Zdf h4) (T.e 0 rfl))) rfl (Za 0 rfl rfl) rfl ?_; clear T ac; intro ac T
  refine wpList_nil ?_
  replace T := T.pick [0] rfl
  replace M := M.mask [false] rfl
  exact ⟨(T.pick (E' := [(4, .bool (decide (20 < ((g.length : Nat) : Int))))]) [0] rfl).as (by (try rw [show (decide (20 < ((LL.length : Nat) : Int))) = false from (Zdf h4)]); (try rfl)), M.mask [] rfl⟩
 clear T M
 rintro ac wc ⟨T, M⟩
 refine wp_ret ?_
 refine rt_1 T rfl (T.e 0 rfl) ?_
 exact ⟨ret_bool (by unfold longB; rw [hfin, Bool.false_or, show (rowsOf LL).length = LL.length by simp]; rw [Bool.eq_iff_iff]; simp <;> omega), M.below⟩
theorem copyScale_any (l : Lw) (A : Option Addr) (c : Nat) (LL : List LS)  (w : World) (hA : Rd w w.heap.size 1 A LL.length (lsC LL)) (hE : ElsS w LL) (nL : LL.length ≤ 1000000) (nE : ∀ x ∈ LL, x.1.length ≤ 1000000)  :
   Calls Tryz.prog 33 #[.agg #[Zi l.first, Zi l.step, Zi l.span, Zi l.press, .slice A LL.length c]] w (CopyScPost l LL w) := by
 obtain ⟨bA, oA, SA⟩ := Sp.old hA
 refine Zpx noEx Tryz.func33 rfl 25 rfl [.agg #[Zi l.first, Zi l.step, Zi l.span, Zi l.press, .slice A LL.length c]] rfl rfl (Mem.init w _) ?_
 intro ac wc T M
 refine Zsr ?_
 refine Zl2 ?_
 refine Zob M T rfl rfl rfl rfl (T.e 0 rfl) rfl ?_; clear M T; intro g1 wc ac M T
 refine Zl2 ?_
 refine Zoa M T rfl rfl rfl rfl ?_; clear M T; intro g2 wc ac M T
 replace T := T.pick [0, 1] rfl
 refine Zln ?_
 refine Zsr ?_
 refine lq T (Zra rfl evc) ?_; clear T ac; intro ac T
 refine Zln ?_
 refine wp_seq ?_
 refine Zsr ?_
 refine lq T (Zra rfl evc) ?_; clear T ac; intro ac T
 refine Zln ?_
 refine wp_block ?_
 refine wp_loop_n (fun mz ac wc => ∃ (k : Nat) (OL : List LS) (A3 : Option Addr) (c3 : Nat) (Ie Io : List (Nat × BA)), mz = LL.length - k ∧ (k ≤ LL.length) ∧ (OL.map (·.1) = (LL.map (·.1)).take k) ∧ (OL.length = k) ∧ (RowsIn OL Ie) ∧ (Sl 24 1 (.slice A3 OL.length c3) OL.length (lsC OL) Io) ∧ Tm ac 25 [(1, Zj g1), (2, Zj g2), (3, .slice A3 OL.length c3), (4, Zi (k : Int))] ∧ Mem w noEx wc ((g2, .cells [Zi 0, Zi 0, Zi 0, Zi 0, .slice none 0 0]) :: (g1, .cells [Zi l.first, Zi l.step, Zi l.span, Zi l.press, .slice A LL.length c]) :: (Ie ++ Io))) ?_ ?_
 ·exact ⟨_, 0, [], none, 0, [], [], rfl, (Nat.zero_le _), rfl, rfl, RowsIn.nil, (Sl.nil _ _), T.pick [3, 2, 1, 0] rfl, ((M.mask [true, true] rfl).as (by simp))⟩
 clear T M
 rintro mz ac wc ⟨k, OL, A3, c3, Ie, Io, hmm1, hk, hO, hOl, hR, hsl, T, M⟩
 refine wp_seq ?_
 refine Zsr ?_
 refine Zg5 (v2 := (.pointer (some ⟨g1, 4, none⟩))) T (Zq (Zrm rfl (T.e 3 rfl))) rfl (Zf 4 1 rfl rfl) rfl (Zo M 1 0 rfl rfl rfl rfl) rfl (Zl Tryz.underlying62 0 rfl rfl) rfl (fun _ T => Zq (rn_lss rfl (T.e 3 rfl) (T.e 0 rfl))) rfl ?_; clear T ac; intro ac T
 replace T := T.pick [0, 5, 6, 7, 8] rfl
 refine Zln ?_
 refine wp_if (T.e 0 rfl) ?_ ?_
 ·intro h1
  obtain ⟨⟨x1, B1, d1⟩, hk1⟩ : ∃ x, LL[k]? = some x := ⟨_, List.getElem?_eq_getElem (by omega)⟩
  obtain ⟨bs1, os1, Ss1⟩ := Sp.old (hE _ (List.mem_of_getElem? hk1))
  dsimp only at Ss1
  have nx1 := nE _ (List.mem_of_getElem? hk1)
  dsimp only at nx1
  refine Zsk ?_
  refine wp_seq ?_
  refine wp_block ?_
  refine wp_region_lit ?_
  refine lq T (Zrm rfl (T.e 3 rfl)) ?_; clear T ac; intro ac T
  refine Zl2 ?_
  refine ow_bs0 (e := 32) M T rfl rfl rfl rfl (fun _ => by kernel_rfl) ?_; clear M T; intro g3 wc ac M T
  refine Zg5 (v1 := (.pointer (some ⟨g1, 4, none⟩))) (v5 := (.slice B1 x1.length d1)) T (Zq (Zrf (off := 4) rfl (T.e 3 rfl) (fun _ _ _ => by kernel_rfl))) rfl (Zo M 2 0 rfl rfl rfl rfl) rfl (Zm 8 rfl rfl) rfl (fun _ T => Zq (Zri (size := 1) k rfl (T.e 1 rfl) (T.e 0 rfl) ⟨_, Tryz.underlying62, by kernel_rfl⟩ rfl (by omega) (SA.at0 (by omega)))) rfl (fun _ T => Zq (rn_cell (Sp.ls0 SA M (Zz9 _) hk1) rfl (T.e 0 rfl))) rfl ?_; clear T ac; intro ac T
  refine Zl2 ?_
  refine ow_appS Tryz.info32 M T rfl rfl rfl rfl (fun g w => Tryz.append0s _ _ g _ w) Tryz.underlying24 rfl rfl rfl (by omega) (T.e 5 rfl) (T.e 0 rfl) (Ss1.rd M (Zz9 _)) (sc_one _) ?_; clear M T; intro Aucp cucp Iucp wc ac hSmcp M T
  replace M : Mem w noEx wc ((g2, .cells [Zi 0, Zi 0, Zi 0, Zi 0, .slice none 0 0]) :: (g1, .cells [Zi l.first, Zi l.step, Zi l.span, Zi l.press, .slice A LL.length c]) :: (Ie ++ Io ++ Iucp)) := M.swapI.as (by simp only [List.append_assoc, List.cons_append, List.nil_append])
  refine Zl2 ?_
  refine ow_bs (e := 24) [.slice Aucp x1.length cucp] M T rfl rfl rfl rfl (.cons (T.e 0 rfl) .nil) (fun _ => by kernel_rfl) ?_; clear M T; intro g4 wc ac M T
  refine Zl2 ?_
  replace M : Mem w noEx wc ((g4, .cells [.slice Aucp x1.length cucp]) :: (g2, .cells [Zi 0, Zi 0, Zi 0, Zi 0, .slice none 0 0]) :: (g1, .cells [Zi l.first, Zi l.step, Zi l.span, Zi l.press, .slice A LL.length c]) :: (Ie ++ Iucp ++ Io)) := Mem.tail9 (K := [(g4, .cells [.slice Aucp x1.length cucp]), (g2, .cells [Zi 0, Zi 0, Zi 0, Zi 0, .slice none 0 0]), (g1, .cells [Zi l.first, Zi l.step, Zi l.span, Zi l.press, .slice A LL.length c])]) (A := Ie) M
  refine ow_app (((g4, .cells [.slice Aucp x1.length cucp]) :: (g2, .cells [Zi 0, Zi 0, Zi 0, Zi 0, .slice none 0 0]) :: (g1, .cells [Zi l.first, Zi l.step, Zi l.span, Zi l.press, .slice A LL.length c]) :: (Ie ++ Iucp))) Tryz.info24 hsl M (by first | rfl | simp) T rfl rfl rfl rfl Tryz.underlying62 rfl rfl rfl (by omega) (T.e 8 rfl) (T.e 0 rfl) (Zne (i := 0) rfl) rfl rfl ?_; clear M T; intro ga1 cga1 wc ac M T
  refine l_q (v := (.slice (some ⟨ga1, 0, none⟩) (OL.length + 1) cga1)) (T.pick [0, 1, 2, 3, 4, 5, 6, 7, 8, 9, 10, 11, 12, 14] rfl) rfl rfl rfl rfl (Zra rfl (T.e 0 rfl)) ?_; clear T ac; intro ac T
  refine wpList_nil ?_
  replace T := T.pick [0, 12, 13, 14] rfl
  replace M := M.mask [true, false, true, true] rfl
  refine Znb ?_
  refine nm_then ?_
  refine wp_region_lit ?_
  refine Zg2 T (Zq (Zrm rfl (T.e 3 rfl))) rfl (fun _ T => Zq (rn_add rfl (T.e 0 rfl) evc (by omega))) rfl ?_; clear T ac; intro ac T
  refine l_q (v := (Zi ((k : Int) + 1))) (T.pick [0, 1, 2, 3, 4] rfl) rfl rfl rfl rfl (Zra rfl (T.e 0 rfl)) ?_; clear T ac; intro ac T
  replace T := T.pick [0, 3, 4, 5] rfl
  refine Zln ?_
  have e9 : OL.length + 1 = (OL ++ [(x1, Aucp, cucp)]).length := by simp
  have e8 : ((lsC OL) ++ [.slice Aucp x1.length cucp]) = lsC (OL ++ [(x1, Aucp, cucp)]) := lsC_snoc _ _ _ _
  rw [e9, e8] at M
  rw [e9] at T
  clear e9 e8
  exact ⟨_, by omega, k + 1, (OL ++ [(x1, Aucp, cucp)]), _, _, (Ie ++ Iucp), [(ga1, .row 24 1 (OL ++ [(x1, Aucp, cucp)]).length (lsC (OL ++ [(x1, Aucp, cucp)])) cga1)], rfl, (by omega), (by rw [List.map_append, hO, List.take_add_one, List.getElem?_map, hk1]; rfl), (by simp [hOl]), (hR.snoc hSmcp), (Sl.row _ _ _ _ _ _), T.pick [2, 3, 1, 0] rfl, ((Mem.swapI (I := [(ga1, .row 24 1 (OL ++ [(x1, Aucp, cucp)]).length (lsC (OL ++ [(x1, Aucp, cucp)])) cga1)]) (L := [(g2, .cells [Zi 0, Zi 0, Zi 0, Zi 0, .slice none 0 0]), (g1, .cells [Zi l.first, Zi l.step, Zi l.span, Zi l.press, .slice A LL.length c])] ++ (Ie ++ Iucp)) (M.permT [0, 1, 2] 3 rfl rfl rfl rfl)).as (by simp))⟩
 intro h1
 refine wp_exit ?_
 refine Zet ?_
 refine Zet ?_
 refine ex_hit ?_
 refine nm_then ?_
 refine Zsr ?_
 refine Zg2 (v2 := (.pointer (some ⟨g1, 4, none⟩))) T (Zq (Zrm rfl (T.e 3 rfl))) rfl (Zf 4 2 rfl rfl) rfl ?_; clear T ac; intro ac T
 refine Zl2 ?_
 refine Zos M T rfl rfl (T.e 0 rfl) (T.e 1 rfl) rfl (.tail .head) rfl (by simp) rfl (by kernel_rfl) ?_; clear M T; intro wc ac M T
 replace T := T.pick [3, 4] rfl
 refine Zln ?_
 refine Zsr ?_
 refine lq T (Zrr (Mem.nth M 1 rfl) rfl (T.e 0 rfl) rfl) ?_; clear T ac; intro ac T
 refine Zl2 ?_
 refine Zos M T rfl rfl (T.e 2 rfl) (T.e 0 rfl) rfl .head rfl (by simp) rfl (by kernel_rfl) ?_; clear M T; intro wc ac M T
 refine wpList_nil ?_
 replace T := T.pick [2] rfl
 replace M := M.mask [true, false] rfl
 refine Znr ?_
 refine rt_c M T rfl (T.e 0 rfl) (Zne (i := 0) rfl) rfl ?_
 obtain ⟨b9, o9, h9⟩ := hsl.spV (by simp [lsC_length])
 exact ⟨A3, c3, OL, Ie, Io, rfl, by rw [hO, List.take_of_length_le (by simp; omega)], hR, ⟨b9, o9, h9⟩, M.sub (Zsq ([(g2, .cells [Zi l.first, Zi l.step, Zi l.span, Zi l.press, .slice A3 OL.length c3])] : List (Nat × BA)) _)⟩
theorem rows_at {LL RR : List LS} (h : LL.map (·.1) = RR.map (·.1)) {k : Nat} {x y : List Snd} {B C : Option Addr} {d e : Nat} (hx : LL[k]? = some (x, B, d)) (hy : RR[k]? = some (y, C, e)) : x = y := by
 have h1 : (LL.map (·.1))[k]? = some x := by rw [List.getElem?_map, hx]; rfl
 have h2 : (RR.map (·.1))[k]? = some y := by rw [List.getElem?_map, hy]; rfl
 rw [h, h2] at h1
 injection h1 with h1
 exact h1.symm
theorem rows_len {LL RR : List LS} (h : LL.map (·.1) = RR.map (·.1)) : LL.length = RR.length := by
 have := congrArg List.length h
 simpa using this
theorem sameScales_same (l : Lw) (A : Option Addr) (c : Nat) (LL : List LS) (B : Option Addr) (d : Nat) (RR : List LS)  (w : World) (hA : Rd w w.heap.size 1 A LL.length (lsC LL)) (hE : ElsS w LL) (nL : LL.length ≤ 1000000) (nE : ∀ x ∈ LL, x.1.length ≤ 1000000) (hB : Rd w w.heap.size 1 B RR.length (lsC RR)) (hF : ElsS w RR) (hLR : LL.map (·.1) = RR.map (·.1))  :
   Calls Tryz.prog 45 #[.agg #[Zi l.first, Zi l.step, Zi l.span, Zi l.press, .slice A LL.length c], .agg #[Zi l.first, Zi l.step, Zi l.span, Zi l.press, .slice B RR.length d]] w fun e w' => e = .returned (.bool true) ∧ Below w.heap.size w w' := by
 obtain ⟨bA, oA, SA⟩ := Sp.old hA
 have hnn := rows_len hLR
 obtain ⟨bB, oB, SB⟩ := Sp.old hB
 refine Zpx noEx Tryz.func45 rfl 43 rfl [.agg #[Zi l.first, Zi l.step, Zi l.span, Zi l.press, .slice A LL.length c], .agg #[Zi l.first, Zi l.step, Zi l.span, Zi l.press, .slice B RR.length d]] rfl rfl (Mem.init w _) ?_
 intro ac wc T M
 refine Zsr ?_
 refine Zl2 ?_
 refine Zob M T rfl rfl rfl rfl (T.e 0 rfl) rfl ?_; clear M T; intro g1 wc ac M T
 refine Zl2 ?_
 refine Zob M T rfl rfl rfl rfl (T.e 2 rfl) rfl ?_; clear M T; intro g2 wc ac M T
 refine lq T (Zra rfl evc) ?_; clear T ac; intro ac T
 replace T := T.pick [1, 2] rfl
 refine Zln ?_
 refine Zsr ?_
 refine Zg8 (v1 := (Zj g1)) (v3 := (Zj g2)) (v5 := (.bool true)) (v7 := (.pointer (some ⟨g1, 4, none⟩))) T (Zq (Zrf (off := 0) rfl (T.e 1 rfl) (fun _ _ _ => by kernel_rfl))) rfl (Zr M 1 0 rfl rfl rfl rfl) rfl (Zf 0 2 rfl rfl) rfl (Zr M 0 0 rfl rfl rfl rfl) rfl (fun _ T => Zq (Zrq (rn_bin rfl (T.e 2 rfl) (T.e 0 rfl) eqT23) (by simp))) rfl (Zm 0 rfl rfl) rfl (fun _ T => Zw (Zwy rfl rfl (T.e 0 rfl) rfl) (Zrf (off := 4) rfl (T.e 7 rfl) (fun _ _ _ => by kernel_rfl))) rfl (fun _ T => Zw (Zwy rfl rfl (T.e 1 rfl) rfl) (Zro (Mem.nth M 1 rfl) rfl (T.e 0 rfl) rfl)) rfl ?_; clear T ac; intro ac T
 refine Zg7 (v2 := (.pointer (some ⟨g2, 4, none⟩))) T (Zw (Zwy rfl rfl (T.e 2 rfl) rfl) (Zrl rfl Tryz.underlying62 (T.e 0 rfl))) rfl (fun _ T => Zw (Zwy rfl rfl (T.e 3 rfl) rfl) (Zrf (off := 4) rfl (T.e 9 rfl) (fun _ _ _ => by kernel_rfl))) rfl (fun _ T => Zw (Zwy rfl rfl (T.e 4 rfl) rfl) (Zro (Mem.nth M 0 rfl) rfl (T.e 0 rfl) rfl)) rfl (fun _ T => Zw (Zwy rfl rfl (T.e 5 rfl) rfl) (Zrl rfl Tryz.underlying62 (T.e 0 rfl))) rfl (fun _ T => Zw (Zwy rfl rfl (T.e 6 rfl) rfl) (rn_eql rfl (T.e 3 rfl) (T.e 0 rfl))) rfl (fun _ T => Zq (Zr1 rfl (T.e 7 rfl) rfl (T.e 0 rfl))) rfl (Za 0 rfl rfl) rfl ?_; clear T ac; intro ac T
 replace T := T.pick [0, 15, 16] rfl
 refine Zln ?_
 refine wp_seq ?_
 refine Zsr ?_
 refine lq T (Zra rfl evc) ?_; clear T ac; intro ac T
 refine Zln ?_
 refine wp_block ?_
 refine wp_loop_n (fun mz ac wc => ∃ (k : Nat), mz = LL.length - k ∧ (k ≤ LL.length) ∧ Tm ac 43 [(2, Zj g1), (3, Zj g2), (5, .bool true), (6, Zi (k : Int))] ∧ Mem w noEx wc [(g2, .cells [Zi l.first, Zi l.step, Zi l.span, Zi l.press, .slice B RR.length d]), (g1, .cells [Zi l.first, Zi l.step, Zi l.span, Zi l.press, .slice A LL.length c])]) ?_ ?_
 ·rw [Zdt (show ((LL.length : Nat) : Int) = (RR.length : Nat) by omega)] at T
  exact ⟨_, 0, rfl, (Nat.zero_le _), T.pick [3, 2, 1, 0] rfl, M.mask [true, true] rfl⟩
 clear T M
 rintro mz ac wc ⟨k, hmm1, hk, T, M⟩
 refine wp_seq ?_
 refine Zsr ?_
 refine Zg8 (v4 := (.pointer (some ⟨g1, 4, none⟩))) T (Zq (Zrm rfl (T.e 2 rfl))) rfl (Zm 0 rfl rfl) rfl (fun _ T => Zw (Zwy rfl rfl (T.e 0 rfl) rfl) (Zrm rfl (T.e 5 rfl))) rfl (fun _ T => Zw (Zwy rfl rfl (T.e 1 rfl) rfl) (Zrf (off := 4) rfl (T.e 3 rfl) (fun _ _ _ => by kernel_rfl))) rfl (fun _ T => Zw (Zwy rfl rfl (T.e 2 rfl) rfl) (Zro (Mem.nth M 1 rfl) rfl (T.e 0 rfl) rfl)) rfl (fun _ T => Zw (Zwy rfl rfl (T.e 3 rfl) rfl) (Zrl rfl Tryz.underlying62 (T.e 0 rfl))) rfl (fun _ T => Zw (Zwy rfl rfl (T.e 4 rfl) rfl) (rn_lss rfl (T.e 3 rfl) (T.e 0 rfl))) rfl (fun _ T => Zq (Zr1 rfl (T.e 5 rfl) rfl (T.e 0 rfl))) rfl ?_; clear T ac; intro ac T
 replace T := T.pick [0, 1, 2, 3, 4, 5, 8, 9, 10, 11] rfl
 refine Zln ?_
 refine wp_if (T.e 0 rfl) ?_ ?_
 ·intro h1
  obtain ⟨⟨x1, B1, d1⟩, hk1⟩ : ∃ x, LL[k]? = some x := ⟨_, List.getElem?_eq_getElem (by omega)⟩
  obtain ⟨⟨x2, B2, d2⟩, hk2⟩ : ∃ x, RR[k]? = some x := ⟨_, List.getElem?_eq_getElem (by omega)⟩
  obtain rfl : x1 = x2 := rows_at hLR hk1 hk2
  obtain ⟨bs1, os1, Ss1⟩ := Sp.old (hE _ (List.mem_of_getElem? hk1))
  obtain ⟨bs2, os2, Ss2⟩ := Sp.old (hF _ (List.mem_of_getElem? hk2))
  dsimp only at Ss1 Ss2
  have nx1 := nE _ (List.mem_of_getElem? hk1)
  dsimp only at nx1
  refine Zsk ?_
  refine wp_seq ?_
  refine wp_block ?_
  refine Zgs M (M.mask [true, true] rfl) 12 (by kernel_rfl) rfl (by kernel_rfl) ?_
  clear M; intro wc M
  refine gq (v := (.pointer (some ⟨g1, 4, none⟩))) T 0 1 rfl (fun _ _ _ _ _ => (Zrf (off := 4) rfl (T.e 6 rfl) (fun _ _ _ => by kernel_rfl))) ?_; clear T ac; intro ac T
  refine gq T 1 3 rfl (fun B w' hD hl hS => (Zro (Mem.nth (show Mem w noEx w' _ from hS) 1 rfl) rfl (T.e 0 rfl) rfl)) ?_; clear T ac; intro ac T
  refine gq T 2 7 rfl (fun _ _ _ _ _ => (Zrm rfl (T.e 11 rfl))) ?_; clear T ac; intro ac T
  refine gq T 3 15 rfl (fun _ _ _ _ _ => (Zri (size := 1) k rfl (T.e 1 rfl) (T.e 0 rfl) ⟨_, Tryz.underlying62, by kernel_rfl⟩ rfl (by omega) (SA.at0 (by omega)))) ?_; clear T ac; intro ac T
  refine gq (v := (.slice B1 x1.length d1)) T 4 31 rfl (fun B w' hD hl hS => (rn_cell (Sp.ls0 SA (show Mem w noEx w' _ from hS) (Zz9 _) hk1) rfl (T.e 0 rfl))) ?_; clear T ac; intro ac T
  refine gq (v := (.pointer (some ⟨g2, 4, none⟩))) T 5 63 rfl (fun _ _ _ _ _ => (Zrf (off := 4) rfl (T.e 12 rfl) (fun _ _ _ => by kernel_rfl))) ?_; clear T ac; intro ac T
  refine gq T 6 127 rfl (fun B w' hD hl hS => (Zro (Mem.nth (show Mem w noEx w' _ from hS) 0 rfl) rfl (T.e 0 rfl) rfl)) ?_; clear T ac; intro ac T
  refine gq T 7 255 rfl (fun _ _ _ _ _ => (Zrm rfl (T.e 16 rfl))) ?_; clear T ac; intro ac T
  refine gq T 8 511 rfl (fun _ _ _ _ _ => (Zri (size := 1) k rfl (T.e 1 rfl) (T.e 0 rfl) ⟨_, Tryz.underlying62, by kernel_rfl⟩ rfl (by omega) (SB.at0 (by omega)))) ?_; clear T ac; intro ac T
  refine gq (v := (.slice B2 x1.length d2)) T 9 1023 rfl (fun B w' hD hl hS => (rn_cell (Sp.ls0 SB (show Mem w noEx w' _ from hS) (Zz9 _) hk2) rfl (T.e 0 rfl))) ?_; clear T ac; intro ac T
  refine gw 10 2047 ?_; intro K hK
  refine Zoc (first := []) (cap := []) T rfl rfl rfl rfl evf (.cons (T.e 5 rfl) (.cons (T.e 0 rfl) .nil)) Tryz.func68 rfl rfl ?_
  refine Calls.mono (sameSounds_same _ _ _ _ _ x1 _ (Ss1.rd M (Zz9 _)) (Ss2.rd M (Zz9 _)) (by omega)) ?_
  clear T; rintro e wc ⟨rfl, hb⟩ ac T
  replace M := M.call hb; clear hb
  refine Zso hK _ _ (M.mask [true, true] rfl) ?_; clear hK K
  refine g_q (v := (.bool true)) (T := T.pick [0, 1, 2, 3, 4, 5, 6, 7, 8, 9, 10, 11, 12, 13, 14, 15, 16, 17, 18, 20] rfl) (i := 11) rfl (by kernel_rfl) (by kernel_rfl : (Zpb 12 2047).setIfInBounds 11 true = Zpb 12 4095) si_U (fun _ _ _ h => h) rfl rfl rfl rfl (fun _ _ _ _ _ => (Zra rfl (T.e 0 rfl))) ?_; clear T ac; intro ac T
  refine Zgd (by kernel_rfl) ?_
  replace T := T.pick [0, 13, 14, 15, 16, 17, 18, 19, 20] rfl
  refine Znb ?_
  refine nm_then ?_
  refine wp_region_lit ?_
  refine Zg2 T (Zq (Zrm rfl (T.e 8 rfl))) rfl (fun _ T => Zq (rn_add rfl (T.e 0 rfl) evc (by omega))) rfl ?_; clear T ac; intro ac T
  refine l_q (v := (Zi ((k : Int) + 1))) (T.pick [0, 1, 2, 3, 4, 5, 6, 7, 8, 9] rfl) rfl rfl rfl rfl (Zra rfl (T.e 0 rfl)) ?_; clear T ac; intro ac T
  replace T := T.pick [0, 3, 4, 5, 6, 7, 8, 9, 10] rfl
  refine Zln ?_
  exact ⟨_, by omega, k + 1, rfl, (by omega), T.pick [7, 8, 1, 0] rfl, M.mask [true, true] rfl⟩
 intro h1
 refine wp_exit ?_
 refine Zet ?_
 refine Zet ?_
 refine ex_hit ?_
 refine nm_then ?_
 refine Zsr ?_
 refine Zg2 T (Zq (Zrm rfl (T.e 8 rfl))) rfl (Za 0 rfl rfl) rfl ?_; clear T ac; intro ac T
 refine wpList_nil ?_
 replace T := T.pick [0] rfl
 replace M := M.mask [false, false] rfl
 refine Znr ?_
 refine rt_1 T rfl (T.e 0 rfl) ?_
 exact ⟨rfl, M.below⟩
def IntsMPost (g : List Int) (w : World) (e : Ending) (w' : World) : Prop := ∃ A c I, e = .returned (.slice A g.length c) ∧ Sm 3 1 A g.length c (ic g) I ∧ Mem w noEx w' I
theorem intsM_any (G : Option Addr) (d : Nat) (g : List Int)  (w : World) (hG : Rd w w.heap.size 1 G g.length (ic g)) (nG : g.length ≤ 1000000)  :
  Calls Tryz.prog 36 #[.slice G g.length d] w (IntsMPost g w) := by
 obtain ⟨bG, oG, SG⟩ := Sp.old hG
 refine Zpx noEx Tryz.func36 rfl 6 rfl [.slice G g.length d] rfl rfl (Mem.init w _) ?_
 intro ac wc T M
 refine Zsr ?_
 refine lq T (Zra rfl evc) ?_; clear T ac; intro ac T
 replace T := T.pick [1] rfl
 refine Zln ?_
 refine Zsr ?_
 refine Zl2 ?_
 refine ow_bs0 (e := 3) M T rfl rfl rfl rfl (fun _ => by kernel_rfl) ?_; clear M T; intro g1 wc ac M T
 refine lq T (Zrm rfl (T.e 1 rfl)) ?_; clear T ac; intro ac T
 refine Zl2 ?_
 refine ow_appS Tryz.info3 M T rfl rfl rfl rfl (fun g w => Tryz.append0i _ _ g _ w) Tryz.underlying33 rfl rfl rfl (by omega) (T.e 1 rfl) (T.e 0 rfl) (SG.rd M (Zz9 _)) (ic_one _) ?_; clear M T; intro Aucp cucp Iucp wc ac hSmcp M T
 replace M : Mem w noEx wc (Iucp) := M.swapI
 refine lq T (Zra rfl (T.e 0 rfl)) ?_; clear T ac; intro ac T
 replace T := T.pick [0] rfl
 refine Zln ?_
 refine wp_ret ?_
 refine rt_1 T rfl (T.e 0 rfl) ?_
 exact ⟨_, _, Iucp, rfl, hSmcp, M⟩
theorem sc_put (f : Nat) (x' : Snd) (ds : List Value) : ∀ (l : List Snd) (k : Nat) (x : Snd), l[k]? = some x → sndC x' = (sndC x).take f ++ ds ++ (sndC x).drop (f + ds.length) → f + ds.length ≤ 4 → (sc l).take (k * 4 + f) ++ ds ++ (sc l).drop (k * 4 + f + ds.length) = sc (l.set k x')
 | [], k, x, h, _, _ => by simp at h
 | y :: l, 0, x, h, he, hf => by
  simp at h
  subst h
  have h4 : (sndC y).length = 4 := rfl
  show (sndC y ++ sc l).take (0 * 4 + f) ++ ds ++ (sndC y ++ sc l).drop (0 * 4 + f + ds.length) = sndC x' ++ sc l
  rw [Nat.zero_mul, Nat.zero_add, List.take_append_of_le_length (by omega), List.drop_append_of_le_length (by omega), he]
  simp
 | y :: l, k + 1, x, h, he, hf => by
  have h4 : (sndC y).length = 4 := rfl
  have ih := sc_put f x' ds l k x (by simpa using h) he hf
  show (sndC y ++ sc l).take ((k + 1) * 4 + f) ++ ds ++ (sndC y ++ sc l).drop ((k + 1) * 4 + f + ds.length) = sndC y ++ sc (l.set k x')
  rw [show (k + 1) * 4 + f = (sndC y).length + (k * 4 + f) by omega, List.take_length_add_append, show (sndC y).length + (k * 4 + f) + ds.length = (sndC y).length + (k * 4 + f + ds.length) by omega, List.drop_length_add_append, ← ih]
  simp
section
variable {P : Program} {op : Oper} {a : Act} {K : Act → World → Prop} {Q : Exit → Act → World → Prop} {w0 w : World} {ex : Nat → Prop} {L0 L : List (Nat × BA)} {E : List (Nat × Value)} {t n : Nat}
theorem ow_stS {ty : TypeId} {x y : Operand} {g k : Nat} {v0 v1 v2 v3 : Int} {l : List Snd} {ys : List Value} {L' : List (Nat × BA)} (M : Mem w0 ex w L) (T : Tm a n E) (ho : op.op = .store ty x y) (hd : op.dst = none) (hx : a.eval x = .pointer (some ⟨g, 0 + k * 4, none⟩)) (hy : a.eval y = .agg #[Zi v0, Zi v1, Zi v2, Zi v3])
   (hu : Upd L g (.cells (sc l ++ ys)) (.cells (sc (l.set k ⟨v0, v1, v2, v3⟩) ++ ys)) L') (hk : k < l.length) (hi : (P.info? ty).map (·.size) = some 4)
   (h : ∀ w' a', Mem w0 ex w' L' → Tm a' n E → K a' w') : op.wp P a w K Q := by
 refine m_stw (ds := [Zi v0, Zi v1, Zi v2, Zi v3]) M ho hx hy rfl hu ?_ (by simp only [List.length_append, List.length_cons, List.length_nil, sc_length]; omega) rfl hi fun w' M' => h w' _ M' (by rw [hd]; exact T)
 have hp := sc_put 0 ⟨v0, v1, v2, v3⟩ [Zi v0, Zi v1, Zi v2, Zi v3] l k l[k] (List.getElem?_eq_getElem hk) rfl (by simp)
 rw [Nat.zero_add, List.take_append_of_le_length (by rw [sc_length]; omega), List.drop_append_of_le_length (by rw [sc_length]; simp; omega), ← List.append_assoc, ← hp]
 simp
end
theorem Tremolo_R (l : Lw) (A : Option Addr) (c : Nat) (LL : List LS) (G : Option Addr) (d : Nat) (g : List Int) (R : List (List Snd)) (hR : LL.map (·.1) = R) (w : World) (hA : Rd w w.heap.size 1 A LL.length (lsC LL)) (hE : ElsS w LL) (nL : LL.length ≤ 1000000) (nE : ∀ x ∈ LL, x.1.length ≤ 1000000) (hG : Rd w w.heap.size 1 G g.length (ic g)) (nG : g.length ≤ 1000000) : Calls Tryz.prog 37 #[.agg #[Zi l.first, Zi l.step, Zi l.span, Zi l.press, .slice A LL.length c], .slice G g.length d] w (LEPost (tremE l R g).1 (tremE l R g).2 w) := by
 subst hR
 exact Tremolo_any l A c LL G d g w hA hE nL nE hG nG
theorem Span_R (l : Lw) (A : Option Addr) (c : Nat) (LL : List LS) (G : Option Addr) (d : Nat) (g : List Int) (R : List (List Snd)) (hR : LL.map (·.1) = R) (w : World) (hA : Rd w w.heap.size 1 A LL.length (lsC LL)) (hE : ElsS w LL) (nL : LL.length ≤ 1000000) (nE : ∀ x ∈ LL, x.1.length ≤ 1000000) (hG : Rd w w.heap.size 1 G g.length (ic g)) (nG : g.length ≤ 1000000) : Calls Tryz.prog 39 #[.agg #[Zi l.first, Zi l.step, Zi l.span, Zi l.press, .slice A LL.length c], .slice G g.length d] w (fun e w' => e = .returned (.tuple #[Zi ((spanE l R g).1), Zi ((spanE l R g).2)]) ∧ Below w.heap.size w w') := by
 subst hR
 exact Span_any l A c LL G d g w hA hE nL nE hG nG
theorem Bad_R (l : Lw) (A : Option Addr) (c : Nat) (LL : List LS) (G : Option Addr) (d : Nat) (g : List Int) (R : List (List Snd)) (hR : LL.map (·.1) = R) (w : World) (hA : Rd w w.heap.size 1 A LL.length (lsC LL)) (hE : ElsS w LL) (nL : LL.length ≤ 1000000) (nE : ∀ x ∈ LL, x.1.length ≤ 1000000) (hG : Rd w w.heap.size 1 G g.length (ic g)) (nG : g.length ≤ 1000000) : Calls Tryz.prog 41 #[.agg #[Zi l.first, Zi l.step, Zi l.span, Zi l.press, .slice A LL.length c], .slice G g.length d] w (fun e w' => e = .returned (.tuple #[Zi ((badE l R g).1.1), Zi ((badE l R g).1.2), Zi ((badE l R g).2)]) ∧ Below w.heap.size w w') := by
 subst hR
 exact Bad_any l A c LL G d g w hA hE nL nE hG nG
theorem CheckScale_R (l : Lw) (A : Option Addr) (c : Nat) (LL : List LS) (R : List (List Snd)) (hR : LL.map (·.1) = R) (w : World) (hA : Rd w w.heap.size 1 A LL.length (lsC LL)) (hE : ElsS w LL) (nL : LL.length ≤ 1000000) (nE : ∀ x ∈ LL, x.1.length ≤ 1000000) : Calls Tryz.prog 43 #[.agg #[Zi l.first, Zi l.step, Zi l.span, Zi l.press, .slice A LL.length c]] w (fun e w' => e = .returned (Zi (checkS l R)) ∧ Below w.heap.size w w') := by
 subst hR
 exact checkScale_any l A c LL w hA hE nL nE
abbrev ZE := Lw × Option Addr × List LS × Nat
def szC (l : Lw) (A : Option Addr) (LL : List LS) (c : Nat) : List Value := [Zi l.first, Zi l.step, Zi l.span, Zi l.press, .slice A LL.length c]
def sz (l : List ZE) : List Value := l.flatMap fun x => szC x.1 x.2.1 x.2.2.1 x.2.2.2
theorem sz_get : ∀ (l : List ZE) (k : Nat) {x : ZE}, l[k]? = some x → ∀ (i : Nat) (v : Value), (szC x.1 x.2.1 x.2.2.1 x.2.2.2)[i]? = some v → (sz l)[k * 5 + i]? = some v
 | [], k, x, h, _, _, _ => by simp at h
 | y :: l, 0, x, h, i, v, hv => by
  simp only [List.getElem?_cons_zero, Option.some.injEq] at h
  subst h
  have hi : i < (szC y.1 y.2.1 y.2.2.1 y.2.2.2).length := (List.getElem?_eq_some_iff.1 hv).1
  show (szC y.1 y.2.1 y.2.2.1 y.2.2.2 ++ sz l)[0 * 5 + i]? = some v
  rw [Nat.zero_mul, Nat.zero_add, List.getElem?_append_left hi]
  exact hv
 | y :: l, k + 1, x, h, i, v, hv => by
  rw [List.getElem?_cons_succ] at h
  have := sz_get l k h i v hv
  show (szC y.1 y.2.1 y.2.2.1 y.2.2.2 ++ sz l)[(k + 1) * 5 + i]? = some v
  have hl : (szC y.1 y.2.1 y.2.2.1 y.2.2.2).length = 5 := rfl
  rw [List.getElem?_append_right (by rw [hl]; omega), hl, show (k + 1) * 5 + i - 5 = k * 5 + i by omega]
  exact this
theorem Sp.szR {w w' : World} {ex : Nat → Prop} {I L : List (Nat × BA)} {n b o k : Nat} {A : Option Addr} {l : List ZE} {x : Lw} {B : Option Addr} {LL : List LS} {c : Nat} (S : Sp w ex I A n 5 b o (sz l)) (M : Mem w ex w' L) (hI : I.Sublist L) (h : l[k]? = some (x, B, LL, c)) : w'.rangeAt b (o + k * 5) (szC x B LL c) := fun i v hv => by
 have := S.cell w' L M hI _ _ (sz_get l k h i v hv)
 rwa [← Nat.add_assoc] at this
theorem tdiv8_bd {x : Int} (h : -9223372036854775808 ≤ x ∧ x ≤ 9223372036854775807) : -9223372036854775808 ≤ Int.tdiv x 8 ∧ Int.tdiv x 8 ≤ 9223372036854775807 := by
 rcases Int.le_total 0 x with h0 | h0
 ·rw [Int.tdiv_eq_ediv_of_nonneg h0]
  omega
 ·obtain ⟨y, rfl⟩ : ∃ y, x = -y := ⟨-x, by omega⟩
  rw [Int.neg_tdiv, Int.tdiv_eq_ediv_of_nonneg (by omega)]
  omega
theorem head_row {LL : List LS} {x : LS} (hz : x = LL.headD ([], none, 0)) (h : 0 < LL.length) : LL[0]? = some x := by
 cases LL with
 | nil => simp at h
 | cons a r => rw [hz]; rfl
theorem ElsSV.set {LL : List LS} {I9 Io : List (Nat × BA)} {k g d : Nat} {lo : List Snd} {ys : List Value} (h : ∀ j x, j ≠ k → LL[j]? = some x → ∃ b o, ∀ (w : World) (ex : Nat → Prop), Sp w ex I9 x.2.1 x.1.length 4 b o (sc x.1)) : ElsSV (LL.set k (lo, some ⟨g, 0, none⟩, d)) (I9 ++ Io ++ [(g, .cells (sc lo ++ ys))]) := fun x hx => by
 obtain ⟨j, hj, e⟩ := List.mem_iff_getElem.1 hx
 rw [List.getElem_set] at e
 split at e
 ·subst e
  exact ⟨g, 0, fun w ex => (Sp.pre (by simp [sc_length])).mono (Zsq _ _)⟩
 ·rename_i hne
  rw [List.length_set] at hj
  obtain ⟨b, o, S⟩ := h j x (fun e9 => hne e9.symm) (by rw [List.getElem?_eq_getElem hj, e])
  exact ⟨b, o, fun w ex => (S w ex).mono ((Zsl _ _).trans (Zsl _ _))⟩
theorem len_of {LL RR : List LS} (h : LL.map (·.1) = RR.map (·.1)) {m : Nat} (hb : ∀ y ∈ RR, y.1.length ≤ m) : ∀ x ∈ LL, x.1.length ≤ m := fun x hx => by
 have h1 : x.1 ∈ RR.map (·.1) := by rw [← h]; exact List.mem_map.2 ⟨x, hx, rfl⟩
 obtain ⟨y, hy, e⟩ := List.mem_map.1 h1
 have := hb y hy
 rw [← e]
 exact this
theorem len_set {LL : List LS} {k m : Nat} {x : LS} (hb : ∀ y ∈ LL, y.1.length ≤ m) (hx : x.1.length ≤ m) : ∀ y ∈ LL.set k x, y.1.length ≤ m := fun y hy => by
 rcases List.mem_or_eq_of_mem_set hy with h | rfl
 · exact hb y h
 · exact hx
set_option maxHeartbeats 4000000 in
theorem VoiceScales_any (la0 : Lw) (A0 : Option Addr) (c0 : Nat) (L0 : List LS) (Gz : Option Addr) (dz : Nat) (gz : List Int) (xm : Snd) (x3 : Int) (D : Option Addr) (n d : Nat) (l : List Int) (w : World) (hl : Rd w w.heap.size 1 D n (ic l)) (hm : n ≤ 9223372036854775807) (hA0 : Rd w w.heap.size 1 A0 L0.length (lsC L0)) (hE0 : ElsS w L0) (hn0 : L0.length ≤ 9223372036854775807) (hle0 : ∀ x ∈ L0, x.1.length ≤ 9223372036854775807) (hGz : Rd w w.heap.size 1 Gz gz.length (ic gz)) (hnz : gz.length ≤ 9223372036854775807) (hdz : gz.length ≤ dz) (hx3 : -9223372036854775808 ≤ x3 ∧ x3 ≤ 9223372036854775807)  :
   Calls Tryz.prog 5 #[.agg #[Zi la0.first, Zi la0.step, Zi la0.span, Zi la0.press, .slice A0 L0.length c0], .slice Gz gz.length dz, .agg #[Zi xm.t0, Zi xm.t1, Zi xm.s0, Zi xm.s1], Zi x3, .slice D n d] w fun e w' => e = .returned (.bool true) ∧ Below w.heap.size w w' := by
 have hll := hl.len1
 obtain ⟨bI, oI, SI⟩ := Sp.old hl
 have hq9 := tdiv8_bd hx3
 obtain ⟨b0, o0, SA0⟩ := Sp.old hA0
 obtain ⟨bgz, ogz, SGz⟩ := Sp.old hGz
 refine Zpx noEx Tryz.func5 rfl 225 rfl [.agg #[Zi la0.first, Zi la0.step, Zi la0.span, Zi la0.press, .slice A0 L0.length c0], .slice Gz gz.length dz, .agg #[Zi xm.t0, Zi xm.t1, Zi xm.s0, Zi xm.s1], Zi x3, .slice D n d] rfl rfl (Mem.init w _) ?_
 intro ac wc T M
 refine Zsr ?_
 refine Zl2 ?_
 refine Zob M T rfl rfl rfl rfl (T.e 0 rfl) rfl ?_; clear M T; intro g1 wc ac M T
 refine Zl2 ?_
 refine Zob M T rfl rfl rfl rfl (T.e 3 rfl) rfl ?_; clear M T; intro g2 wc ac M T
 refine lq T (Zra rfl evc) ?_; clear T ac; intro ac T
 replace T := T.pick [1, 2, 4, 6, 7] rfl
 refine Zln ?_
 refine wp_seq ?_
 refine Zsr ?_
 refine Zg2 T (Zq (Zrr (Mem.nth M 1 rfl) rfl (T.e 1 rfl) rfl)) rfl (Zm 3 rfl rfl) rfl ?_; clear T ac; intro ac T
 refine Zl2 ?_
 refine Zoc (first := []) (cap := []) T rfl rfl rfl rfl evf (.cons (T.e 1 rfl) (.cons (T.e 0 rfl) .nil)) Tryz.func31 rfl rfl ?_
 refine Calls.mono (long_any la0 A0 c0 L0 Gz dz gz _ (SA0.rd M (Zz9 _)) (fun x hx => M.rd (hE0 x hx) (Nat.le_refl _)) hn0 hle0 (SGz.rd M (Zz9 _)) hnz) ?_
 clear T; rintro e wc ⟨rfl, hb⟩ ac T
 replace M := M.call hb; clear hb
 replace T := T.pick [0, 3, 4, 5, 6, 7] rfl
 refine Zln ?_
 refine wp_cond_split (T.e 0 rfl) ?_ ?_
 ·intro h1
  refine Zsr ?_
  refine Zl2 ?_
  refine Zoc (first := []) (cap := []) T rfl rfl rfl rfl evf .nil Tryz.func6 rfl rfl ?_
  refine Calls.mono (trembling_any _) ?_
  clear T; rintro e wc ⟨rfl, hb⟩ ac T
  replace M := M.call hb; clear hb
  refine lq T (Zra rfl (T.e 0 rfl)) ?_; clear T ac; intro ac T
  refine wpList_nil ?_
  replace T := T.pick [0] rfl
  replace M := M.mask [false, false] rfl
  refine Znr ?_
  refine Zrt ?_
  refine rt_1 T rfl (T.e 0 rfl) ?_
  exact ⟨rfl, M.below⟩
 intro h1
 obtain ⟨hL0r, hL0n, hgz9⟩ := longB_no (by simpa using h1)
 rw [show (rowsOf L0).length = L0.length by simp] at hL0n
 have hL020 : ∀ x ∈ L0, x.1.length ≤ 20 := fun x hx => hL0r x.1 (List.mem_map.2 ⟨x, hx, rfl⟩)
 refine Zsk ?_
 refine Zsr ?_
 refine lq T (Zrm rfl (T.e 5 rfl)) ?_; clear T ac; intro ac T
 refine Zl2 ?_
 refine Zoc (first := []) (cap := []) T rfl rfl rfl rfl evf (.cons (T.e 0 rfl) .nil) Tryz.func8 rfl rfl ?_
 refine Calls.mono (newPot_any _ _ _ l _ (SI.rd M (Zz9 _)) (by omega)) ?_
 clear T; rintro e wc ⟨bpu3, su3, hsu3, rfl, N⟩ ac T
 replace M := M.join N; clear N
 replace M := M.mask [true, true, true] rfl
 refine lq T (Zra rfl (T.e 0 rfl)) ?_; clear T ac; intro ac T
 replace T := T.pick [0, 4, 5, 6, 7] rfl
 refine Zln ?_
 refine Zsr ?_
 refine lq T (Zrm rfl (T.e 0 rfl)) ?_; clear T ac; intro ac T
 refine Zl2 ?_
 refine Zoc (first := []) (cap := []) T rfl rfl rfl rfl evf (.cons (T.e 0 rfl) (.cons evc (.cons evc (.cons evc .nil)))) Tryz.func32 rfl rfl ?_
 refine Calls.mono (scaleOf_any _ bpu3 4 4 2 _ (by omega) (by omega) (by omega) (M.nth 0 rfl) hsu3) ?_
 clear T; rintro e wc ⟨lu4, LLu4, Au4, cu4, su4, Iu4, rfl, hSu4, hsu4, Su4, Eu4, N⟩ ac T
 obtain ⟨bu4, ou4, Su4⟩ := Su4
 replace Su4 := Su4 w noEx
 replace M := (M.joinW .head N).swapI
 clear N
 replace M : Mem w noEx wc ((bpu3, .cells [.int .u64 su4]) :: (g2, .cells [Zi xm.t0, Zi xm.t1, Zi xm.s0, Zi xm.s1]) :: (g1, .cells [Zi la0.first, Zi la0.step, Zi la0.span, Zi la0.press, .slice A0 L0.length c0]) :: Iu4) := M
 have hlenu4 := hSu4.len
 rw [show (rowsOf LLu4).length = LLu4.length by simp] at hlenu4
 have hNu4 := hSu4.notes
 have hleu4 : ∀ x ∈ LLu4, x.1.length ≤ 20 := fun x hx => by have := (hSu4.rows x.1 (List.mem_map.2 ⟨x, hx, rfl⟩)).1; omega
 refine Zl2 ?_
 refine Zoa M T rfl rfl rfl rfl ?_; clear M T; intro g3 wc ac M T
 refine Zl2 ?_
 refine Zos M T rfl rfl (T.e 0 rfl) (T.e 1 rfl) rfl .head rfl (by simp) rfl (by kernel_rfl) ?_; clear M T; intro wc ac M T
 replace T := T.pick [0, 3, 4, 5, 6, 7] rfl
 refine Zln ?_
 refine Zsr ?_
 refine lq T (Zrr (Mem.nth M 0 rfl) rfl (T.e 0 rfl) rfl) ?_; clear T ac; intro ac T
 refine Zl2 ?_
 refine Zoc (first := []) (cap := []) T rfl rfl rfl rfl evf (.cons (T.e 0 rfl) .nil) Tryz.func33 rfl rfl ?_
 refine Calls.mono (copyScale_any lu4 Au4 cu4 LLu4 _ (Su4.rd M (.cons _ (.cons _ (.cons _ (.cons _ (List.Sublist.refl _)))))) (fun x hx => by obtain ⟨b8, o8, h8⟩ := Eu4 x hx; exact (h8 w noEx).rd M (.cons _ (.cons _ (.cons _ (.cons _ (List.Sublist.refl _)))))) (by omega) (fun x hx => by have := hleu4 x hx; omega)) ?_
 clear T; rintro e wc ⟨Au5, cu5, LLu5, Ieu5, Iou5, rfl, hrou5, hRiu5, SVu5, N⟩ ac T
 have hlnu5 := rows_len hrou5
 have hEou5 := hRiu5.els
 obtain ⟨bu5, ou5, SVu5⟩ := SVu5
 have SAu5 := SVu5 w noEx
 replace M : Mem w noEx wc ((g3, .cells [Zi lu4.first, Zi lu4.step, Zi lu4.span, Zi lu4.press, .slice Au4 LLu4.length cu4]) :: (bpu3, .cells [.int .u64 su4]) :: (g2, .cells [Zi xm.t0, Zi xm.t1, Zi xm.s0, Zi xm.s1]) :: (g1, .cells [Zi la0.first, Zi la0.step, Zi la0.span, Zi la0.press, .slice A0 L0.length c0]) :: (Iu4 ++ Ieu5 ++ Iou5)) := (M.join N).swapI.as (by simp only [List.append_assoc, List.cons_append, List.nil_append])
 clear N
 obtain ⟨⟨xz, Bz, dz9⟩, hz⟩ : ∃ x, x = LLu5.headD ([], none, 0) := ⟨_, rfl⟩
 refine Zl2 ?_
 refine Zoa M T rfl rfl rfl rfl ?_; clear M T; intro g4 wc ac M T
 refine Zl2 ?_
 refine Zos M T rfl rfl (T.e 0 rfl) (T.e 1 rfl) rfl .head rfl (by simp) rfl (by kernel_rfl) ?_; clear M T; intro wc ac M T
 replace T := T.pick [0, 3, 4, 5, 6, 7, 8] rfl
 refine Zln ?_
 refine cut_seq (fun ac wc => ∃ (LLo : List LS) (Io9 : List (Nat × BA)), (LLo.length = LLu5.length) ∧ (ElsSV LLo Io9) ∧ (∃ b o, ∀ (w : World) (ex : Nat → Prop), Sp w ex Io9 Au5 LLo.length 1 b o (lsC LLo)) ∧ (∀ x ∈ LLo, x.1.length ≤ 20) ∧ Tm ac 225 [(1, .slice Gz gz.length dz), (5, Zj g1), (11, Zj bpu3), (12, Zj g3), (13, Zj g4)] ∧ Mem w noEx wc ((g4, .cells [Zi lu4.first, Zi lu4.step, Zi lu4.span, Zi lu4.press, .slice Au5 LLo.length cu5]) :: (g3, .cells [Zi lu4.first, Zi lu4.step, Zi lu4.span, Zi lu4.press, .slice Au4 LLu4.length cu4]) :: (bpu3, .cells [.int .u64 su4]) :: (g1, .cells [Zi la0.first, Zi la0.step, Zi la0.span, Zi la0.press, .slice A0 L0.length c0]) :: (Iu4 ++ Io9))) ?_ ?_
 ·refine cut_seq (fun ac wc => Tm ac 225 [(1, .slice Gz gz.length dz), (3, Zi x3), (5, Zj g1), (7, Zj g2), (11, Zj bpu3), (12, Zj g3), (13, Zj g4), (55, .bool ((decide (0 < ((LLu5.length : Nat) : Int))) && (decide (0 < ((xz.length : Nat) : Int)))))] ∧ Mem w noEx wc ((g4, .cells [Zi lu4.first, Zi lu4.step, Zi lu4.span, Zi lu4.press, .slice Au5 LLu5.length cu5]) :: (g3, .cells [Zi lu4.first, Zi lu4.step, Zi lu4.span, Zi lu4.press, .slice Au4 LLu4.length cu4]) :: (bpu3, .cells [.int .u64 su4]) :: (g2, .cells [Zi xm.t0, Zi xm.t1, Zi xm.s0, Zi xm.s1]) :: (g1, .cells [Zi la0.first, Zi la0.step, Zi la0.span, Zi la0.press, .slice A0 L0.length c0]) :: (Iu4 ++ Ieu5 ++ Iou5))) ?_ ?_
  ·refine wp_region_lit ?_
   refine Zg5 (v1 := (.pointer (some ⟨g4, 4, none⟩))) T (Zq (Zrf (off := 4) rfl (T.e 0 rfl) (fun _ _ _ => by kernel_rfl))) rfl (Zo M 0 0 rfl rfl rfl rfl) rfl (Zl Tryz.underlying62 0 rfl rfl) rfl (fun _ T => Zq (rn_gtr rfl (T.e 0 rfl) evc)) rfl (Zm 0 rfl rfl) rfl ?_; clear T ac; intro ac T
   rcases Bool.eq_false_or_eq_true (decide (0 < ((LLu5.length : Nat) : Int))) with h2 | h2
   ·replace h2 := of_decide_eq_true h2
    refine Zg7 (v1 := (.pointer (some ⟨g4, 4, none⟩))) (v4 := (.slice Bz xz.length dz9)) T (Zw (Zwy rfl rfl (T.e 0 rfl) (Zdt h2)) (Zrf (off := 4) rfl (T.e 5 rfl) (fun _ _ _ => by kernel_rfl))) rfl (fun _ T => Zw (Zwy rfl rfl (T.e 1 rfl) (Zdt h2)) (Zro (Mem.nth M 0 rfl) rfl (T.e 0 rfl) rfl)) rfl (fun _ T => Zw (Zwy rfl rfl (T.e 2 rfl) (Zdt h2)) (Zri (size := 1) 0 rfl (T.e 0 rfl) evc ⟨_, Tryz.underlying62, by kernel_rfl⟩ rfl (by omega) (SAu5.at0 (by omega)))) rfl (fun _ T => Zw (Zwy rfl rfl (T.e 3 rfl) (Zdt h2)) (rn_cell (Sp.ls0 SAu5 M (.cons _ (.cons _ (.cons _ (.cons _ (.cons _ (Zsq _ _)))))) (head_row hz (by omega))) rfl (T.e 0 rfl))) rfl (fun _ T => Zw (Zwy rfl rfl (T.e 4 rfl) (Zdt h2)) (Zrl rfl Tryz.underlying24 (T.e 0 rfl))) rfl (fun _ T => Zw (Zwy rfl rfl (T.e 5 rfl) (Zdt h2)) (rn_gtr rfl (T.e 0 rfl) evc)) rfl (fun _ T => Zq (Zr1 rfl (T.e 6 rfl) (Zdt h2) (T.e 0 rfl))) rfl ?_; clear T ac; intro ac T
    refine wpList_nil ?_
    replace T := T.pick [0, 12, 13, 14, 15, 16, 17, 18] rfl
    exact ⟨(T.pick (E' := [(1, .slice Gz gz.length dz), (3, Zi x3), (5, Zj g1), (7, Zj g2), (11, Zj bpu3), (12, Zj g3), (13, Zj g4), (55, .bool (decide (0 < ((xz.length : Nat) : Int))))]) [6, 7, 5, 4, 3, 2, 1, 0] rfl).as (by (try rw [show (decide (0 < ((LLu5.length : Nat) : Int))) = true from (Zdt h2)]); (try rfl)), M.mask [true, true, true, true, true] rfl⟩
   replace h2 := of_decide_eq_false h2
   refine Zg7 T (Zp (Zwn rfl rfl (T.e 0 rfl) (Zdf h2))) rfl (fun _ T => Zp (Zwn rfl rfl (T.e 1 rfl) (Zdf h2))) rfl (fun _ T => Zp (Zwn rfl rfl (T.e 2 rfl) (Zdf h2))) rfl (fun _ T => Zp (Zwn rfl rfl (T.e 3 rfl) (Zdf h2))) rfl (fun _ T => Zp (Zwn rfl rfl (T.e 4 rfl) (Zdf h2))) rfl (fun _ T => Zp (Zwn rfl rfl (T.e 5 rfl) (Zdf h2))) rfl (fun _ T => Zq (Zr0 rfl (T.e 6 rfl) (Zdf h2) evc)) rfl ?_; clear T ac; intro ac T
   refine wpList_nil ?_
   replace T := T.pick [0, 12, 13, 14, 15, 16, 17, 18] rfl
   exact ⟨(T.pick (E' := [(1, .slice Gz gz.length dz), (3, Zi x3), (5, Zj g1), (7, Zj g2), (11, Zj bpu3), (12, Zj g3), (13, Zj g4), (55, .bool false)]) [6, 7, 5, 4, 3, 2, 1, 0] rfl).as (by (try rw [show (decide (0 < ((LLu5.length : Nat) : Int))) = false from (Zdf h2)]); (try rfl)), M.mask [true, true, true, true, true] rfl⟩
  clear T M
  rintro ac wc ⟨T, M⟩
  refine wp_cond_split (T.e 7 rfl) ?_ ?_
  ·intro h3
   (have h3' := h3; try simp only [Zb1, Zb2, Zb3, Zb4, Zb5, Zb6, Zb7] at h3')
   have hz0 : 0 < LLu5.length ∧ 0 < xz.length := by simp at h3; omega
   have hkz := head_row hz hz0.1
   obtain ⟨k19, hk19⟩ : ∃ q, q = turnN x3 LLu5.length := ⟨_, rfl⟩
   have hl19 : k19 < LLu5.length := by rw [hk19]; exact turnN_lt hz0.1
   obtain ⟨k29, hk29⟩ : ∃ q, q = turnN (Int.tdiv x3 8) xz.length := ⟨_, rfl⟩
   have hl29 : k29 < xz.length := by rw [hk29]; exact turnN_lt hz0.2
   obtain ⟨⟨xk, Bk, dk⟩, hkk⟩ : ∃ x, LLu5[k19]? = some x := ⟨_, List.getElem?_eq_getElem hl19⟩
   have hrl : ∀ x ∈ LLu5, x.1.length = notesP (rowsOf LLu4) := fun x hx => by have h1 : x.1 ∈ LLu4.map (·.1) := (by rw [← hrou5]; exact List.mem_map.2 ⟨x, hx, rfl⟩); exact (hSu4.rows x.1 h1).2.1
   have hxl : xk.length = xz.length := (hrl _ (List.mem_of_getElem? hkk)).trans (hrl _ (List.mem_of_getElem? hkz)).symm
   have M8 : Mem w noEx wc (([(g4, .cells [Zi lu4.first, Zi lu4.step, Zi lu4.span, Zi lu4.press, .slice Au5 LLu5.length cu5]), (g3, .cells [Zi lu4.first, Zi lu4.step, Zi lu4.span, Zi lu4.press, .slice Au4 LLu4.length cu4]), (bpu3, .cells [.int .u64 su4]), (g2, .cells [Zi xm.t0, Zi xm.t1, Zi xm.s0, Zi xm.s1]), (g1, .cells [Zi la0.first, Zi la0.step, Zi la0.span, Zi la0.press, .slice A0 L0.length c0])] ++ (Iu4)) ++ (Ieu5 ++ Iou5)) := M.as (by simp)
   obtain ⟨gk, yk, I9, hBk, M9, hoth⟩ := hRiu5.split hkk (by omega) M8
   subst hBk
   have Sxk := Sp.pre (w := w) (ex := noEx) (size := 4) (n := xk.length) (g := gk) (xs := sc xk) (ys := yk) (by simp [sc_length])
   have hxk20 : xk.length ≤ 20 := by have := len_of hrou5 hleu4 _ (List.mem_of_getElem? hkk); exact this
   replace M : Mem w noEx wc ((gk, .cells (sc xk ++ yk)) :: (g4, .cells [Zi lu4.first, Zi lu4.step, Zi lu4.span, Zi lu4.press, .slice Au5 LLu5.length cu5]) :: (g3, .cells [Zi lu4.first, Zi lu4.step, Zi lu4.span, Zi lu4.press, .slice Au4 LLu4.length cu4]) :: (bpu3, .cells [.int .u64 su4]) :: (g2, .cells [Zi xm.t0, Zi xm.t1, Zi xm.s0, Zi xm.s1]) :: (g1, .cells [Zi la0.first, Zi la0.step, Zi la0.span, Zi la0.press, .slice A0 L0.length c0]) :: (Iu4 ++ I9 ++ Iou5)) := M9.as (by simp)
   clear M8 M9
   refine Zgs M (M.mask [false, false, false, false, false, false] rfl) 20 (by kernel_rfl) rfl (by kernel_rfl) ?_
   clear M; intro wc M
   refine g_addG 19 M ?_
   refine gq (v := (.pointer (some ⟨g4, 4, none⟩))) T 0 1 rfl (fun _ _ _ _ _ => (Zrf (off := 4) rfl (T.e 6 rfl) (fun _ _ _ => by kernel_rfl))) ?_; clear T ac; intro ac T
   refine gq T 1 3 rfl (fun B w' hD hl hS => (Zro (Mem.nth (show Mem w noEx w' _ from ((MA.lft hS) (hD.wait (i := 1) (m := 19) (by kernel_rfl) hl))) 1 rfl) rfl (T.e 0 rfl) rfl)) ?_; clear T ac; intro ac T
   refine gq T 2 7 rfl (fun _ _ _ _ _ => (Zrm rfl (T.e 3 rfl))) ?_; clear T ac; intro ac T
   refine gq (v := (.pointer (some ⟨g4, 4, none⟩))) T 3 15 rfl (fun _ _ _ _ _ => (Zrf (off := 4) rfl (T.e 9 rfl) (fun _ _ _ => by kernel_rfl))) ?_; clear T ac; intro ac T
   refine gq T 4 31 rfl (fun B w' hD hl hS => (Zro (Mem.nth (show Mem w noEx w' _ from ((MA.lft hS) (hD.wait (i := 4) (m := 19) (by kernel_rfl) hl))) 1 rfl) rfl (T.e 0 rfl) rfl)) ?_; clear T ac; intro ac T
   refine gq T 5 63 rfl (fun _ _ _ _ _ => (Zrl rfl Tryz.underlying62 (T.e 0 rfl))) ?_; clear T ac; intro ac T
   refine gq T 9 575 rfl (fun _ _ _ _ _ => (Zrm rfl (T.e 7 rfl))) ?_; clear T ac; intro ac T
   refine gq T 10 1599 rfl (fun _ _ _ _ _ => (rn_quo rfl (T.e 0 rfl) evc (by omega) (by omega))) ?_; clear T ac; intro ac T
   refine gq (v := (.pointer (some ⟨g4, 4, none⟩))) T 11 3647 rfl (fun _ _ _ _ _ => (Zrf (off := 4) rfl (T.e 14 rfl) (fun _ _ _ => by kernel_rfl))) ?_; clear T ac; intro ac T
   refine gq T 12 7743 rfl (fun B w' hD hl hS => (Zro (Mem.nth (show Mem w noEx w' _ from ((MA.lft hS) (hD.wait (i := 12) (m := 19) (by kernel_rfl) hl))) 1 rfl) rfl (T.e 0 rfl) rfl)) ?_; clear T ac; intro ac T
   refine gq T 13 15935 rfl (fun _ _ _ _ _ => (Zri (size := 1) 0 rfl (T.e 0 rfl) evc ⟨_, Tryz.underlying62, by kernel_rfl⟩ rfl (by omega) (SAu5.at0 (by omega)))) ?_; clear T ac; intro ac T
   refine gq (v := (.slice Bz xz.length dz9)) T 14 32319 rfl (fun B w' hD hl hS => (rn_cell (Sp.ls0 SAu5 (show Mem w noEx w' _ from ((MA.lft hS) (hD.wait (i := 14) (m := 19) (by kernel_rfl) hl))) (.cons _ (.cons _ (.cons _ (.cons _ (.cons _ (.cons _ (Zsq _ _))))))) hkz) rfl (T.e 0 rfl))) ?_; clear T ac; intro ac T
   refine gq T 15 65087 rfl (fun _ _ _ _ _ => (Zrl rfl Tryz.underlying24 (T.e 0 rfl))) ?_; clear T ac; intro ac T
   refine gq T 17 196159 rfl (fun B w' hD hl hS => (Zrr (Mem.nth (show Mem w noEx w' _ from ((MA.lft hS) (hD.wait (i := 17) (m := 19) (by kernel_rfl) hl))) 4 rfl) rfl (T.e 16 rfl) rfl)) ?_; clear T ac; intro ac T
   refine gw 6 196223 ?_; intro K hK
   refine Zoc (first := []) (cap := []) T rfl rfl rfl rfl evf (.cons (T.e 11 rfl) (.cons (T.e 8 rfl) .nil)) Tryz.func34 rfl rfl ?_
   refine Calls.mono (turnN_any x3 LLu5.length _ (by omega) (by omega)) ?_
   clear T; rintro e wc ⟨rfl, hb⟩ ac T
   replace M := M.call hb; clear hb
   rw [← hk19] at T
   refine Zso hK _ _ (MA.mk (fun _ => M.mask [true, true, true, true, true, true] rfl) (M.mask [false, false, false, false, false, false] rfl)) ?_; clear hK K
   refine g_addG 19 M ?_
   refine gq T 7 196351 rfl (fun _ _ _ _ _ => (Zri (size := 1) k19 rfl (T.e 13 rfl) (T.e 0 rfl) ⟨_, Tryz.underlying62, by kernel_rfl⟩ rfl (by omega) (SAu5.at0 (by omega)))) ?_; clear T ac; intro ac T
   refine gq (v := (.slice (some ⟨gk, 0, none⟩) xk.length dk)) T 8 196607 rfl (fun B w' hD hl hS => (rn_cell (Sp.ls0 SAu5 (show Mem w noEx w' _ from ((MA.lft hS) (hD.wait (i := 8) (m := 19) (by kernel_rfl) hl))) (.cons _ (.cons _ (.cons _ (.cons _ (.cons _ (.cons _ (Zsq _ _))))))) hkk) rfl (T.e 0 rfl))) ?_; clear T ac; intro ac T
   refine gw 16 262143 ?_; intro K hK
   refine Zoc (first := []) (cap := []) T rfl rfl rfl rfl evf (.cons (T.e 9 rfl) (.cons (T.e 4 rfl) .nil)) Tryz.func34 rfl rfl ?_
   refine Calls.mono (turnN_any (Int.tdiv x3 8) xz.length _ (by omega) (by omega)) ?_
   clear T; rintro e wc ⟨rfl, hb⟩ ac T
   replace M := M.call hb; clear hb
   rw [← hk29] at T
   refine Zso hK _ _ (MA.mk (fun _ => M.mask [true, true, true, true, true, true] rfl) (MA.mk (fun _ => M.mask [true, true, true, true, true, true] rfl) (M.mask [false, false, false, false, false, false] rfl))) ?_; clear hK K
   refine gq T 18 524287 rfl (fun _ _ _ _ _ => (Zri (size := 4) k29 rfl (T.e 1 rfl) (T.e 0 rfl) ⟨_, Tryz.underlying24, by kernel_rfl⟩ rfl (by omega) rfl)) ?_; clear T ac; intro ac T
   refine gw 19 1048575 ?_; intro K hK
   refine ow_stS M T rfl rfl (T.e 0 rfl) (T.e 5 rfl) .head (by omega) rfl ?_; clear M T; intro wc ac M T
   obtain ⟨lo1, hlo1⟩ : ∃ q, q = xk.set k29 (⟨xm.t0, xm.t1, xm.s0, xm.s1⟩ : Snd) := ⟨_, rfl⟩
   have lhlo1 : xk.length = lo1.length := by rw [hlo1, List.length_set]
   rw [← hlo1] at M; (try rw [lhlo1] at M); (try rw [lhlo1] at T)
   have Ss1 := Sp.pre (w := w) (ex := noEx) (size := 4) (n := lo1.length) (g := gk) (xs := sc lo1) (ys := yk) (by simp [sc_length])
   refine Zso hK _ _ (MA.mk (fun h => (no_of (by kernel_rfl) h).elim) (MA.mk (fun h => (no_of (by kernel_rfl) h).elim) (M.mask [false, false, false, false, false, false] rfl))) ?_; clear hK K
   refine Zgd (by kernel_rfl) ?_
   replace T := T.pick [19, 21, 23, 24, 25] rfl
   replace M := M.mask [true, true, true, true, false, true] rfl
   replace M : Mem w noEx wc ((gk, .cells (sc lo1 ++ yk)) :: (g4, .cells [Zi lu4.first, Zi lu4.step, Zi lu4.span, Zi lu4.press, .slice Au5 LLu5.length cu5]) :: (g3, .cells [Zi lu4.first, Zi lu4.step, Zi lu4.span, Zi lu4.press, .slice Au4 LLu4.length cu4]) :: (bpu3, .cells [.int .u64 su4]) :: (g1, .cells [Zi la0.first, Zi la0.step, Zi la0.span, Zi la0.press, .slice A0 L0.length c0]) :: (Iu4 ++ I9 ++ Iou5)) := M
   have hlo9 : lo1.length = xk.length := by omega
   exact ⟨(LLu5.set k19 (lo1, some ⟨gk, 0, none⟩, dk)), (I9 ++ Iou5 ++ [(gk, .cells (sc lo1 ++ yk))]), (List.length_set), (ElsSV.set hoth), ⟨bu5, ou5, fun w ex => by rw [List.length_set, lsC_set hkk hlo9]; exact (SVu5 w ex).mono ((Zsq _ _).trans (Zsl _ _))⟩, (len_set (len_of hrou5 hleu4) (by show lo1.length ≤ 20; omega)), T.pick [0, 1, 2, 3, 4] rfl, ((Mem.swapI (I := [(gk, .cells (sc lo1 ++ yk))]) (L := [(g4, .cells [Zi lu4.first, Zi lu4.step, Zi lu4.span, Zi lu4.press, .slice Au5 LLu5.length cu5]), (g3, .cells [Zi lu4.first, Zi lu4.step, Zi lu4.span, Zi lu4.press, .slice Au4 LLu4.length cu4]), (bpu3, .cells [.int .u64 su4]), (g1, .cells [Zi la0.first, Zi la0.step, Zi la0.span, Zi la0.press, .slice A0 L0.length c0])] ++ (Iu4 ++ I9 ++ Iou5)) (M.permT [0, 1, 2, 3, 4] 5 rfl rfl rfl rfl)).as (by simp))⟩
  intro h3
  (have h3' := h3; try simp only [Zb1, Zb2, Zb3, Zb4, Zb5, Zb6, Zb7] at h3')
  refine wp_skip ?_
  exact ⟨LLu5, (Ieu5 ++ Iou5), rfl, (hEou5.mono (Zsl _ _)), ⟨bu5, ou5, fun w ex => (SVu5 w ex).mono (Zsq _ _)⟩, (len_of hrou5 hleu4), T.pick [0, 2, 4, 5, 6] rfl, ((M.mask [true, true, true, false, true] rfl).as (by simp))⟩
 clear T M
 rintro ac wc ⟨LLo, Io9, hLn, hEo9, hSo9, hRo9, T, M⟩
 obtain ⟨bo9, oo9, SVo9⟩ := hSo9
 have So9 := SVo9 w noEx
 refine Zsr ?_
 refine Zg4 (v2 := (.pointer (some ⟨g3, 4, none⟩))) T (Zq (Zrm rfl (T.e 2 rfl))) rfl (Zf 4 4 rfl rfl) rfl (Zo M 1 0 rfl rfl rfl rfl) rfl (Zl Tryz.underlying62 0 rfl rfl) rfl ?_; clear T ac; intro ac T
 refine Zl2 ?_
 refine Zoc (first := []) (cap := []) T rfl rfl rfl rfl evf (.cons (T.e 3 rfl) (.cons (T.e 0 rfl) .nil)) Tryz.func35 rfl rfl ?_
 refine Calls.mono (pick_any _ bpu3 ((LLu4.length : Nat) : Int) _ (by omega) (M.nth 2 rfl) hsu4) ?_
 clear T; rintro e wc ⟨gu8, Au8, cu8, su8, Iu8, rfl, hau8, hsu8, hcu8, Su8, N⟩ ac T
 obtain ⟨bu8, ou8, Su8⟩ := Su8
 replace Su8 := Su8 w noEx
 replace M := (M.joinW (.tail (.tail .head)) N).swapI
 clear N
 replace M : Mem w noEx wc ((g4, .cells [Zi lu4.first, Zi lu4.step, Zi lu4.span, Zi lu4.press, .slice Au5 LLo.length cu5]) :: (g3, .cells [Zi lu4.first, Zi lu4.step, Zi lu4.span, Zi lu4.press, .slice Au4 LLu4.length cu4]) :: (bpu3, .cells [.int .u64 su8]) :: (g1, .cells [Zi la0.first, Zi la0.step, Zi la0.span, Zi la0.press, .slice A0 L0.length c0]) :: (Iu4 ++ Io9 ++ Iu8)) := M
 replace hau8 : Asc ((rowsOf LLu4).length : Nat) gu8 := by rw [show (rowsOf LLu4).length = LLu4.length by simp]; exact hau8
 have hglu8 := hau8.short
 rw [show (rowsOf LLu4).length = LLu4.length by simp] at hglu8
 refine lq T (Zra rfl (T.e 0 rfl)) ?_; clear T ac; intro ac T
 refine wpList_nil ?_
 replace T := T.pick [0, 6, 7, 9, 10] rfl
 replace M := M.mask [true, true, false, true] rfl
 replace M : Mem w noEx wc ((g4, .cells [Zi lu4.first, Zi lu4.step, Zi lu4.span, Zi lu4.press, .slice Au5 LLo.length cu5]) :: (g3, .cells [Zi lu4.first, Zi lu4.step, Zi lu4.span, Zi lu4.press, .slice Au4 LLu4.length cu4]) :: (g1, .cells [Zi la0.first, Zi la0.step, Zi la0.span, Zi la0.press, .slice A0 L0.length c0]) :: (Iu4 ++ Io9 ++ Iu8)) := M
 refine nm_then ?_
 refine Zsr ?_
 refine Zg4 T (Zq (Zrr (Mem.nth M 2 rfl) rfl (T.e 2 rfl) rfl)) rfl (Zr M 1 4 rfl rfl rfl rfl) rfl (Zr M 0 6 rfl rfl rfl rfl) rfl (Zr M 1 6 rfl rfl rfl rfl) rfl ?_; clear T ac; intro ac T
 refine Zl2 ?_
 refine ow_bs (e := 64) [Zi la0.first, Zi la0.step, Zi la0.span, Zi la0.press, .slice A0 L0.length c0, Zi lu4.first, Zi lu4.step, Zi lu4.span, Zi lu4.press, .slice Au4 LLu4.length cu4, Zi lu4.first, Zi lu4.step, Zi lu4.span, Zi lu4.press, .slice Au5 LLo.length cu5, Zi lu4.first, Zi lu4.step, Zi lu4.span, Zi lu4.press, .slice Au4 LLu4.length cu4] M T rfl rfl rfl rfl (.cons (T.e 3 rfl) (.cons (T.e 2 rfl) (.cons (T.e 1 rfl) (.cons (T.e 0 rfl) .nil)))) (fun _ => by kernel_rfl) ?_; clear M T; intro g5 wc ac M T
 refine Zg4 T (Zq (Zrm rfl (T.e 6 rfl))) rfl (Zm 6 rfl rfl) rfl (Zm 7 rfl rfl) rfl (Zm 9 rfl rfl) rfl ?_; clear T ac; intro ac T
 refine Zl2 ?_
 refine ow_bs (e := 33) [.slice Gz gz.length dz, .slice Au8 gu8.length cu8, .slice Au8 gu8.length cu8, .slice Gz gz.length dz] M T rfl rfl rfl rfl (.cons (T.e 3 rfl) (.cons (T.e 2 rfl) (.cons (T.e 1 rfl) (.cons (T.e 0 rfl) .nil)))) (fun _ => by kernel_rfl) ?_; clear M T; intro g6 wc ac M T
 refine Zg2 T (Zq (Zra rfl (T.e 5 rfl))) rfl (Za 1 rfl rfl) rfl ?_; clear T ac; intro ac T
 refine wpList_nil ?_
 replace T := T.pick [0, 1] rfl
 replace M := M.mask [true, true, false, false, false] rfl
 replace M : Mem w noEx wc ((g6, .cells [.slice Gz gz.length dz, .slice Au8 gu8.length cu8, .slice Au8 gu8.length cu8, .slice Gz gz.length dz]) :: (g5, .cells [Zi la0.first, Zi la0.step, Zi la0.span, Zi la0.press, .slice A0 L0.length c0, Zi lu4.first, Zi lu4.step, Zi lu4.span, Zi lu4.press, .slice Au4 LLu4.length cu4, Zi lu4.first, Zi lu4.step, Zi lu4.span, Zi lu4.press, .slice Au5 LLo.length cu5, Zi lu4.first, Zi lu4.step, Zi lu4.span, Zi lu4.press, .slice Au4 LLu4.length cu4]) :: (Iu4 ++ Io9 ++ Iu8)) := M
 refine Zns ?_
 refine Zsr ?_
 refine lq T (Zra rfl evc) ?_; clear T ac; intro ac T
 refine Zln ?_
 refine wp_block ?_
 obtain ⟨IT, hIT⟩ : ∃ IT : List (Nat × BA), IT = ((g6, .cells [.slice Gz gz.length dz, .slice Au8 gu8.length cu8, .slice Au8 gu8.length cu8, .slice Gz gz.length dz]) :: (g5, .cells [Zi la0.first, Zi la0.step, Zi la0.span, Zi la0.press, .slice A0 L0.length c0, Zi lu4.first, Zi lu4.step, Zi lu4.span, Zi lu4.press, .slice Au4 LLu4.length cu4, Zi lu4.first, Zi lu4.step, Zi lu4.span, Zi lu4.press, .slice Au5 LLo.length cu5, Zi lu4.first, Zi lu4.step, Zi lu4.span, Zi lu4.press, .slice Au4 LLu4.length cu4]) :: (Iu4 ++ Io9 ++ Iu8)) := ⟨_, rfl⟩
 have S0 : Sp w noEx IT (some ⟨g5, 0, none⟩) 4 5 g5 0 (sz ([(la0, A0, L0, c0), (lu4, Au4, LLu4, cu4), (lu4, Au5, LLo, cu5), (lu4, Au4, LLu4, cu4)] : List ZE)) := (Sp.cells (w := w) (ex := noEx) (g := g5) (xs := sz ([(la0, A0, L0, c0), (lu4, Au4, LLu4, cu4), (lu4, Au5, LLo, cu5), (lu4, Au4, LLu4, cu4)] : List ZE)) (n := 4) (size := 5) (by rfl)).mono (by rw [hIT]; exact (.cons _ (List.Sublist.cons_cons _ (Zz9 _))))
 have E0 : ∀ x ∈ ([(la0, A0, L0, c0), (lu4, Au4, LLu4, cu4), (lu4, Au5, LLo, cu5), (lu4, Au4, LLu4, cu4)] : List ZE), x.2.2.1.length ≤ 20 ∧ (∀ y ∈ x.2.2.1, y.1.length ≤ 20) ∧ (∀ y ∈ x.2.2.1, ∃ b o, Sp w noEx IT y.2.1 y.1.length 4 b o (sc y.1)) ∧ ∃ b o, Sp w noEx IT x.2.1 x.2.2.1.length 1 b o (lsC x.2.2.1) := by
   intro x hx
   simp only [List.mem_cons, List.not_mem_nil, or_false] at hx
   rcases hx with rfl | rfl | rfl | rfl
   · exact ⟨by dsimp only; omega, hL020, (fun y hy => by obtain ⟨b8, o8, h8⟩ := (fun y hy => Sp.old (hE0 y hy)) y hy; exact ⟨b8, o8, (h8).mono (by rw [hIT]; exact Zz9 _)⟩), _, _, SA0.mono (by rw [hIT]; exact Zz9 _)⟩
   · exact ⟨by dsimp only; omega, hleu4, (fun y hy => by obtain ⟨b8, o8, h8⟩ := Eu4 y hy; exact ⟨b8, o8, (h8 w noEx).mono (by rw [hIT]; exact (.cons _ (.cons _ (subL (subL (List.Sublist.refl _))))))⟩), _, _, Su4.mono (by rw [hIT]; exact (.cons _ (.cons _ (subL (subL (List.Sublist.refl _))))))⟩
   · exact ⟨by dsimp only; omega, hRo9, (fun y hy => by obtain ⟨b8, o8, h8⟩ := hEo9 y hy; exact ⟨b8, o8, (h8 w noEx).mono (by rw [hIT]; exact (.cons _ (.cons _ (subL (Zsq _ _)))))⟩), _, _, So9.mono (by rw [hIT]; exact (.cons _ (.cons _ (subL (Zsq _ _)))))⟩
   · exact ⟨by dsimp only; omega, hleu4, (fun y hy => by obtain ⟨b8, o8, h8⟩ := Eu4 y hy; exact ⟨b8, o8, (h8 w noEx).mono (by rw [hIT]; exact (.cons _ (.cons _ (subL (subL (List.Sublist.refl _))))))⟩), _, _, Su4.mono (by rw [hIT]; exact (.cons _ (.cons _ (subL (subL (List.Sublist.refl _))))))⟩
 obtain ⟨ZZ, hZZ, SZZ, EZZ⟩ : ∃ ZZ : List ZE, ZZ.length = 4 ∧ Sp w noEx IT (some ⟨g5, 0, none⟩) 4 5 g5 0 (sz ZZ) ∧ ∀ x ∈ ZZ, x.2.2.1.length ≤ 20 ∧ (∀ y ∈ x.2.2.1, y.1.length ≤ 20) ∧ (∀ y ∈ x.2.2.1, ∃ b o, Sp w noEx IT y.2.1 y.1.length 4 b o (sc y.1)) ∧ ∃ b o, Sp w noEx IT x.2.1 x.2.2.1.length 1 b o (lsC x.2.2.1) := ⟨_, rfl, S0, E0⟩
 clear S0 E0
 have S0 : Sp w noEx IT (some ⟨g6, 0, none⟩) 4 1 g6 0 (lc ([(gz, Gz, dz), (gu8, Au8, cu8), (gu8, Au8, cu8), (gz, Gz, dz)] : List LE)) := (Sp.cells (w := w) (ex := noEx) (g := g6) (xs := lc ([(gz, Gz, dz), (gu8, Au8, cu8), (gu8, Au8, cu8), (gz, Gz, dz)] : List LE)) (n := 4) (size := 1) (by rfl)).mono (by rw [hIT]; exact (List.Sublist.cons_cons _ (Zz9 _)))
 have E0 : ∀ x ∈ ([(gz, Gz, dz), (gu8, Au8, cu8), (gu8, Au8, cu8), (gz, Gz, dz)] : List LE), x.1.length ≤ 20 ∧ x.1.length ≤ x.2.2 ∧ ∃ b o, Sp w noEx IT x.2.1 x.1.length 1 b o (ic x.1) := by
   intro x hx
   simp only [List.mem_cons, List.not_mem_nil, or_false] at hx
   rcases hx with rfl | rfl | rfl | rfl
   · exact ⟨by dsimp only; omega, by dsimp only; omega, _, _, SGz.mono (by rw [hIT]; exact Zz9 _)⟩
   · exact ⟨by dsimp only; omega, by dsimp only; omega, _, _, Su8.mono (by rw [hIT]; exact (.cons _ (.cons _ (Zsq _ _))))⟩
   · exact ⟨by dsimp only; omega, by dsimp only; omega, _, _, Su8.mono (by rw [hIT]; exact (.cons _ (.cons _ (Zsq _ _))))⟩
   · exact ⟨by dsimp only; omega, by dsimp only; omega, _, _, SGz.mono (by rw [hIT]; exact Zz9 _)⟩
 obtain ⟨GG, hGG, SGG, EGG⟩ : ∃ GG : List LE, GG.length = 4 ∧ Sp w noEx IT (some ⟨g6, 0, none⟩) 4 1 g6 0 (lc GG) ∧ ∀ x ∈ GG, x.1.length ≤ 20 ∧ x.1.length ≤ x.2.2 ∧ ∃ b o, Sp w noEx IT x.2.1 x.1.length 1 b o (ic x.1) := ⟨_, rfl, S0, E0⟩
 clear S0 E0
 replace M : Mem w noEx wc IT := by rw [hIT]; exact M
 clear hIT
 refine wp_loop_n (fun mz ac wc => ∃ (i : Nat), mz = 4 - i ∧ (i ≤ 4) ∧ Tm ac 225 [(15, .slice (some ⟨g5, 0, none⟩) 4 4), (16, .slice (some ⟨g6, 0, none⟩) 4 4), (17, Zi (i : Int))] ∧ Mem w noEx wc (IT)) ?_ ?_
 ·exact ⟨_, 0, rfl, (Nat.zero_le _), T.pick [2, 1, 0] rfl, M⟩
 clear T M
 rintro mz ac wc ⟨i, hmm1, hi, T, M⟩
 refine wp_seq ?_
 refine Zsr ?_
 refine Zg4 (v3 := (Zi 4)) T (Zq (Zrm rfl (T.e 2 rfl))) rfl (Zm 1 rfl rfl) rfl (Zl Tryz.underlying70 0 rfl rfl) rfl (fun _ T => Zq (rn_lss rfl (T.e 2 rfl) (T.e 0 rfl))) rfl ?_; clear T ac; intro ac T
 replace T := T.pick [0, 4, 5, 6] rfl
 refine Zln ?_
 refine wp_if (T.e 0 rfl) ?_ ?_
 ·intro h4
  obtain ⟨⟨l9, A9, LL9, c9⟩, hk9⟩ : ∃ x, ZZ[i]? = some x := ⟨_, List.getElem?_eq_getElem (by omega)⟩
  obtain ⟨hL9, hle9, hEl9, b9, o9, S9⟩ := EZZ _ (List.mem_of_getElem? hk9)
  replace hL9 : LL9.length ≤ 20 := hL9
  replace hle9 : ∀ y ∈ LL9, y.1.length ≤ 20 := hle9
  replace hEl9 : ∀ y ∈ LL9, ∃ b o, Sp w noEx IT y.2.1 y.1.length 4 b o (sc y.1) := hEl9
  replace S9 : Sp w noEx IT A9 LL9.length 1 b9 o9 (lsC LL9) := S9
  obtain ⟨⟨g9, G9, d9⟩, hkg9⟩ : ∃ x, GG[i]? = some x := ⟨_, List.getElem?_eq_getElem (by omega)⟩
  obtain ⟨hg9, hgd9, bg9, og9, SG9⟩ := EGG _ (List.mem_of_getElem? hkg9)
  replace hg9 : g9.length ≤ 20 := hg9
  replace hgd9 : g9.length ≤ d9 := hgd9
  replace SG9 : Sp w noEx IT G9 g9.length 1 bg9 og9 (ic g9) := SG9
  have hlm9 : ∀ y ∈ LL9, y.1.length ≤ 1000000 := fun y hy => by have := hle9 y hy; omega
  refine Zsk ?_
  refine wp_seq ?_
  refine wp_block ?_
  refine wp_seq ?_
  refine Zgs M (M.mask [] rfl) 13 (by kernel_rfl) rfl (by kernel_rfl) ?_
  clear M; intro wc M
  refine g_have (fun ac wc => ∃ (Aur13_4 : Option Addr), ∃ (cur13_4 : Nat), ∃ (LLur13_4 : List LS), ∃ (Ieur13_4 : List (Nat × BA)), ∃ (Iour13_4 : List (Nat × BA)), ∃ (bur13_4 : Nat), ∃ (our13_4 : Nat), ∃ (AIur13_9 : Option Addr), ∃ (cIur13_9 : Nat), ∃ (IMur13_9 : List (Nat × BA)), ∃ (bIur13_9 : Nat), ∃ (oIur13_9 : Nat), (LLur13_4.map (·.1) = LL9.map (·.1)) ∧ (LLur13_4.length = LL9.length) ∧ (ElsSV LLur13_4 Ieur13_4) ∧ (Sp w noEx Iour13_4 Aur13_4 LLur13_4.length 1 bur13_4 our13_4 (lsC LLur13_4)) ∧ (Sp w noEx IMur13_9 AIur13_9 g9.length 1 bIur13_9 oIur13_9 (ic g9)) ∧ ∃ (gr13_10 : Nat), Tm ac 225 [(18, Zj gr13_10), (105, .slice AIur13_9 g9.length cIur13_9), (100, .agg #[Zi l9.first, Zi l9.step, Zi l9.span, Zi l9.press, .slice Aur13_4 LLur13_4.length cur13_4]), (104, .slice G9 g9.length d9), (103, .pointer (some ⟨g6, 0 + i * 1, none⟩)), (102, Zi (i : Int)), (101, .slice (some ⟨g6, 0, none⟩) 4 4), (99, .agg #[Zi l9.first, Zi l9.step, Zi l9.span, Zi l9.press, .slice A9 LL9.length c9]), (98, .pointer (some ⟨g5, 0 + i * 5, none⟩)), (97, Zi (i : Int)), (96, .slice (some ⟨g5, 0, none⟩) 4 4), (93, .bool (decide ((i : Int) < 4))), (15, .slice (some ⟨g5, 0, none⟩) 4 4), (16, .slice (some ⟨g6, 0, none⟩) 4 4), (17, Zi (i : Int))] ∧ Mem w noEx wc ((gr13_10, .cells [Zi 0, Zi 0, Zi 0, Zi 0, .slice none 0 0]) :: (IT ++ Ieur13_4 ++ Iour13_4 ++ IMur13_9))) (Zpb 13 2047) 2 ?_ ?_
  ·clear T M
   rintro ac wc ⟨Aur13_4, cur13_4, LLur13_4, Ieur13_4, Iour13_4, bur13_4, our13_4, AIur13_9, cIur13_9, IMur13_9, bIur13_9, oIur13_9, hrour13_4, hlnur13_4, hEour13_4, SAur13_4, SIur13_9, gr13_10, T, M⟩
   refine gw 11 4095 ?_; intro K hK
   refine Zos M T rfl rfl (T.e 0 rfl) (T.e 2 rfl) rfl .head rfl (by simp) rfl (by kernel_rfl) ?_; clear M T; intro wc ac M T
   refine Zso hK _ _ ((M.mask [false] rfl).sub (List.Sublist.trans (List.Sublist.trans (Zsl _ _) (Zsl _ _)) (Zsl _ _))) ?_; clear hK K
   refine gq T 12 8191 rfl (fun _ _ _ _ _ => (Zra rfl (T.e 1 rfl))) ?_; clear T ac; intro ac T
   refine Zgd (by kernel_rfl) ?_
   replace T := T.pick [0, 1, 13, 14, 15] rfl
   refine nm_then ?_
   refine Zsr ?_
   refine Zg2 T (Zq (Zrr (Mem.nth M 0 rfl) rfl (T.e 1 rfl) rfl)) rfl (Zm 1 rfl rfl) rfl ?_; clear T ac; intro ac T
   refine Zl2 ?_
   refine Zoc (first := []) (cap := []) T rfl rfl rfl rfl evf (.cons (T.e 1 rfl) (.cons (T.e 0 rfl) .nil)) Tryz.func37 rfl rfl ?_
   refine Calls.mono (Tremolo_R l9 Aur13_4 cur13_4 LLur13_4 AIur13_9 cIur13_9 g9 (rowsOf LL9) hrour13_4 _ (SAur13_4.rd M (.cons _ (subL (Zsq _ _)))) (fun x hx => by obtain ⟨b8, o8, h8⟩ := hEour13_4 x hx; exact (h8 w noEx).rd M (.cons _ (subL (subL (Zsq _ _))))) (by omega) (len_of hrour13_4 hlm9) (SIur13_9.rd M (.cons _ (Zsq _ _))) (by omega)) ?_
   clear T; rintro e wc ⟨ALu9, cLu9, ILu9, rfl, hl6u9, SVLu9, N⟩ ac T
   obtain ⟨bALu9, oALu9, SVLu9⟩ := SVLu9
   have SALu9 := SVLu9 w noEx
   replace M := (M.join N).swapI
   clear N
   replace M : Mem w noEx wc ((gr13_10, .cells [Zi l9.first, Zi l9.step, Zi l9.span, Zi l9.press, .slice Aur13_4 LLur13_4.length cur13_4]) :: (IT ++ Ieur13_4 ++ Iour13_4 ++ IMur13_9 ++ ILu9)) := M
   refine Zg5 T (Zq (Zrm rfl (T.e 0 rfl))) rfl (Ze 0 rfl rfl rfl) rfl (Ze 1 rfl rfl rfl) rfl (Za 1 rfl rfl) rfl (Za 1 rfl rfl) rfl ?_; clear T ac; intro ac T
   replace T := T.pick [0, 1, 8, 9, 10, 11, 12] rfl
   refine Zln ?_
   refine wp_seq ?_
   refine Zgs M (M.mask [true] rfl) 14 (by kernel_rfl) rfl (by kernel_rfl) ?_
   clear M; intro wc M
   refine gq T 0 1 rfl (fun _ _ _ _ _ => (Zrm rfl (T.e 4 rfl))) ?_; clear T ac; intro ac T
   refine gq T 1 3 rfl (fun _ _ _ _ _ => (Zrm rfl (T.e 7 rfl))) ?_; clear T ac; intro ac T
   refine gq T 2 7 rfl (fun _ _ _ _ _ => (Zri (size := 5) i rfl (T.e 1 rfl) (T.e 0 rfl) ⟨_, Tryz.underlying70, by kernel_rfl⟩ rfl (by omega) (SZZ.at0 (by omega)))) ?_; clear T ac; intro ac T
   refine gq (v := (.agg #[Zi l9.first, Zi l9.step, Zi l9.span, Zi l9.press, .slice A9 LL9.length c9])) T 3 15 rfl (fun B w' hD hl hS => (rn_rowat (Sp.szR SZZ (show Mem w noEx w' _ from hS) (.cons _ (subL (subL (subL (subL (List.Sublist.refl _)))))) hk9) rfl (T.e 0 rfl) rfl)) ?_; clear T ac; intro ac T
   refine gq T 4 31 rfl (fun _ _ _ _ _ => (Zrm rfl (T.e 9 rfl))) ?_; clear T ac; intro ac T
   refine gq T 5 63 rfl (fun _ _ _ _ _ => (Zrm rfl (T.e 11 rfl))) ?_; clear T ac; intro ac T
   refine gq T 6 127 rfl (fun _ _ _ _ _ => (Zri (size := 1) i rfl (T.e 1 rfl) (T.e 0 rfl) ⟨_, Tryz.underlying55, by kernel_rfl⟩ rfl (by omega) (SGG.at0 (by omega)))) ?_; clear T ac; intro ac T
   refine gq (v := (.slice G9 g9.length d9)) T 7 255 rfl (fun B w' hD hl hS => (rn_cell (Sp.lc0 SGG (show Mem w noEx w' _ from hS) (.cons _ (subL (subL (subL (subL (List.Sublist.refl _)))))) hkg9) rfl (T.e 0 rfl))) ?_; clear T ac; intro ac T
   refine gw 8 511 ?_; intro K hK
   refine Zoc (first := []) (cap := []) T rfl rfl rfl rfl evf (.cons (T.e 4 rfl) (.cons (T.e 0 rfl) .nil)) Tryz.func38 rfl rfl ?_
   refine Calls.mono (Tremolo5_any l9 A9 c9 LL9 G9 d9 g9 _ (S9.rd M (.cons _ (subL (subL (subL (subL (List.Sublist.refl _))))))) (fun x hx => by obtain ⟨b8, o8, h8⟩ := hEl9 x hx; exact h8.rd M (.cons _ (subL (subL (subL (subL (List.Sublist.refl _))))))) (by omega) hlm9 (SG9.rd M (.cons _ (subL (subL (subL (subL (List.Sublist.refl _))))))) hgd9 (by omega)) ?_
   clear T; rintro e wc ⟨ALu10, cLu10, ILu10, rfl, hl6u10, SVLu10, N⟩ ac T
   obtain ⟨bALu10, oALu10, SVLu10⟩ := SVLu10
   have SALu10 := SVLu10 w noEx
   replace M := (M.join N).swapI
   clear N
   replace M : Mem w noEx wc ((gr13_10, .cells [Zi l9.first, Zi l9.step, Zi l9.span, Zi l9.press, .slice Aur13_4 LLur13_4.length cur13_4]) :: (IT ++ Ieur13_4 ++ Iour13_4 ++ IMur13_9 ++ ILu9 ++ ILu10)) := M
   refine Zso hK _ _ ((M.mask [true] rfl).sub (List.Sublist.cons_cons _ (Zsl _ _))) ?_; clear hK K
   refine gq T 9 1023 rfl (fun _ _ _ _ _ => (Zrm rfl (T.e 0 rfl))) ?_; clear T ac; intro ac T
   refine gq T 10 2047 rfl (fun _ _ _ _ _ => (Zre rfl (T.e 0 rfl) rfl)) ?_; clear T ac; intro ac T
   refine gq T 11 4095 rfl (fun _ _ _ _ _ => (Zre rfl (T.e 1 rfl) rfl)) ?_; clear T ac; intro ac T
   refine gq T 12 8191 rfl (fun _ _ _ _ _ => (Zra rfl (T.e 1 rfl))) ?_; clear T ac; intro ac T
   refine gq T 13 16383 rfl (fun _ _ _ _ _ => (Zra rfl (T.e 1 rfl))) ?_; clear T ac; intro ac T
   refine Zgd (by kernel_rfl) ?_
   replace T := T.pick [0, 1, 14, 15, 16, 17, 18, 19, 20] rfl
   refine nm_then ?_
   refine Zsr ?_
   refine Zg2 T (Zq (Zrr (Mem.nth M 0 rfl) rfl (T.e 5 rfl) rfl)) rfl (Zm 5 rfl rfl) rfl ?_; clear T ac; intro ac T
   refine Zl2 ?_
   refine Zoc (first := []) (cap := []) T rfl rfl rfl rfl evf (.cons (T.e 1 rfl) (.cons (T.e 0 rfl) .nil)) Tryz.func39 rfl rfl ?_
   refine Calls.mono (Span_R l9 Aur13_4 cur13_4 LLur13_4 AIur13_9 cIur13_9 g9 (rowsOf LL9) hrour13_4 _ (SAur13_4.rd M (.cons _ (subL (subL (subL (Zsq _ _)))))) (fun x hx => by obtain ⟨b8, o8, h8⟩ := hEour13_4 x hx; exact (h8 w noEx).rd M (.cons _ (subL (subL (subL (subL (Zsq _ _))))))) (by omega) (len_of hrour13_4 hlm9) (SIur13_9.rd M (.cons _ (subL (subL (Zsq _ _))))) (by omega)) ?_
   clear T; rintro e wc ⟨rfl, hb⟩ ac T
   replace M := M.call hb; clear hb
   refine Zg5 T (Zq (Zrm rfl (T.e 0 rfl))) rfl (Ze 0 rfl rfl rfl) rfl (Ze 1 rfl rfl rfl) rfl (Za 1 rfl rfl) rfl (Za 1 rfl rfl) rfl ?_; clear T ac; intro ac T
   replace T := T.pick [0, 1, 8, 9, 10, 11, 12, 13, 14, 15, 16] rfl
   refine Zln ?_
   refine wp_seq ?_
   refine Zgs M (M.mask [true] rfl) 14 (by kernel_rfl) rfl (by kernel_rfl) ?_
   clear M; intro wc M
   refine gq T 0 1 rfl (fun _ _ _ _ _ => (Zrm rfl (T.e 8 rfl))) ?_; clear T ac; intro ac T
   refine gq T 1 3 rfl (fun _ _ _ _ _ => (Zrm rfl (T.e 11 rfl))) ?_; clear T ac; intro ac T
   refine gq T 2 7 rfl (fun _ _ _ _ _ => (Zri (size := 5) i rfl (T.e 1 rfl) (T.e 0 rfl) ⟨_, Tryz.underlying70, by kernel_rfl⟩ rfl (by omega) (SZZ.at0 (by omega)))) ?_; clear T ac; intro ac T
   refine gq (v := (.agg #[Zi l9.first, Zi l9.step, Zi l9.span, Zi l9.press, .slice A9 LL9.length c9])) T 3 15 rfl (fun B w' hD hl hS => (rn_rowat (Sp.szR SZZ (show Mem w noEx w' _ from hS) (.cons _ (subL (subL (subL (subL (subL (List.Sublist.refl _))))))) hk9) rfl (T.e 0 rfl) rfl)) ?_; clear T ac; intro ac T
   refine gq T 4 31 rfl (fun _ _ _ _ _ => (Zrm rfl (T.e 13 rfl))) ?_; clear T ac; intro ac T
   refine gq T 5 63 rfl (fun _ _ _ _ _ => (Zrm rfl (T.e 15 rfl))) ?_; clear T ac; intro ac T
   refine gq T 6 127 rfl (fun _ _ _ _ _ => (Zri (size := 1) i rfl (T.e 1 rfl) (T.e 0 rfl) ⟨_, Tryz.underlying55, by kernel_rfl⟩ rfl (by omega) (SGG.at0 (by omega)))) ?_; clear T ac; intro ac T
   refine gq (v := (.slice G9 g9.length d9)) T 7 255 rfl (fun B w' hD hl hS => (rn_cell (Sp.lc0 SGG (show Mem w noEx w' _ from hS) (.cons _ (subL (subL (subL (subL (subL (List.Sublist.refl _))))))) hkg9) rfl (T.e 0 rfl))) ?_; clear T ac; intro ac T
   refine gw 8 511 ?_; intro K hK
   refine Zoc (first := []) (cap := []) T rfl rfl rfl rfl evf (.cons (T.e 4 rfl) (.cons (T.e 0 rfl) .nil)) Tryz.func40 rfl rfl ?_
   refine Calls.mono (Span5_any l9 A9 c9 LL9 G9 d9 g9 _ (S9.rd M (.cons _ (subL (subL (subL (subL (subL (List.Sublist.refl _)))))))) (fun x hx => by obtain ⟨b8, o8, h8⟩ := hEl9 x hx; exact h8.rd M (.cons _ (subL (subL (subL (subL (subL (List.Sublist.refl _)))))))) (by omega) hlm9 (SG9.rd M (.cons _ (subL (subL (subL (subL (subL (List.Sublist.refl _)))))))) hgd9 (by omega)) ?_
   clear T; rintro e wc ⟨rfl, hb⟩ ac T
   replace M := M.call hb; clear hb
   refine Zso hK _ _ (M.mask [true] rfl) ?_; clear hK K
   refine gq T 9 1023 rfl (fun _ _ _ _ _ => (Zrm rfl (T.e 0 rfl))) ?_; clear T ac; intro ac T
   refine gq T 10 2047 rfl (fun _ _ _ _ _ => (Zre rfl (T.e 0 rfl) rfl)) ?_; clear T ac; intro ac T
   refine gq T 11 4095 rfl (fun _ _ _ _ _ => (Zre rfl (T.e 1 rfl) rfl)) ?_; clear T ac; intro ac T
   refine gq T 12 8191 rfl (fun _ _ _ _ _ => (Zra rfl (T.e 1 rfl))) ?_; clear T ac; intro ac T
   refine gq T 13 16383 rfl (fun _ _ _ _ _ => (Zra rfl (T.e 1 rfl))) ?_; clear T ac; intro ac T
   refine Zgd (by kernel_rfl) ?_
   replace T := T.pick [0, 1, 14, 15, 16, 17, 18, 19, 20, 21, 22, 23, 24] rfl
   refine nm_then ?_
   refine Zsr ?_
   refine Zg2 T (Zq (Zrr (Mem.nth M 0 rfl) rfl (T.e 9 rfl) rfl)) rfl (Zm 9 rfl rfl) rfl ?_; clear T ac; intro ac T
   refine Zl2 ?_
   refine Zoc (first := []) (cap := []) T rfl rfl rfl rfl evf (.cons (T.e 1 rfl) (.cons (T.e 0 rfl) .nil)) Tryz.func41 rfl rfl ?_
   refine Calls.mono (Bad_R l9 Aur13_4 cur13_4 LLur13_4 AIur13_9 cIur13_9 g9 (rowsOf LL9) hrour13_4 _ (SAur13_4.rd M (.cons _ (subL (subL (subL (Zsq _ _)))))) (fun x hx => by obtain ⟨b8, o8, h8⟩ := hEour13_4 x hx; exact (h8 w noEx).rd M (.cons _ (subL (subL (subL (subL (Zsq _ _))))))) (by omega) (len_of hrour13_4 hlm9) (SIur13_9.rd M (.cons _ (subL (subL (Zsq _ _))))) (by omega)) ?_
   clear T; rintro e wc ⟨rfl, hb⟩ ac T
   replace M := M.call hb; clear hb
   refine Zg7 T (Zq (Zrm rfl (T.e 0 rfl))) rfl (Ze 0 rfl rfl rfl) rfl (Ze 1 rfl rfl rfl) rfl (Ze 2 rfl rfl rfl) rfl (Za 2 rfl rfl) rfl (Za 2 rfl rfl) rfl (Za 2 rfl rfl) rfl ?_; clear T ac; intro ac T
   replace T := T.pick [0, 1, 2, 10, 11, 12, 13, 14, 15, 16, 17, 18, 19, 20, 21, 22] rfl
   refine Zln ?_
   refine wp_seq ?_
   refine Zgs M (M.mask [true] rfl) 16 (by kernel_rfl) rfl (by kernel_rfl) ?_
   clear M; intro wc M
   refine gq T 0 1 rfl (fun _ _ _ _ _ => (Zrm rfl (T.e 13 rfl))) ?_; clear T ac; intro ac T
   refine gq T 1 3 rfl (fun _ _ _ _ _ => (Zrm rfl (T.e 16 rfl))) ?_; clear T ac; intro ac T
   refine gq T 2 7 rfl (fun _ _ _ _ _ => (Zri (size := 5) i rfl (T.e 1 rfl) (T.e 0 rfl) ⟨_, Tryz.underlying70, by kernel_rfl⟩ rfl (by omega) (SZZ.at0 (by omega)))) ?_; clear T ac; intro ac T
   refine gq (v := (.agg #[Zi l9.first, Zi l9.step, Zi l9.span, Zi l9.press, .slice A9 LL9.length c9])) T 3 15 rfl (fun B w' hD hl hS => (rn_rowat (Sp.szR SZZ (show Mem w noEx w' _ from hS) (.cons _ (subL (subL (subL (subL (subL (List.Sublist.refl _))))))) hk9) rfl (T.e 0 rfl) rfl)) ?_; clear T ac; intro ac T
   refine gq T 4 31 rfl (fun _ _ _ _ _ => (Zrm rfl (T.e 18 rfl))) ?_; clear T ac; intro ac T
   refine gq T 5 63 rfl (fun _ _ _ _ _ => (Zrm rfl (T.e 20 rfl))) ?_; clear T ac; intro ac T
   refine gq T 6 127 rfl (fun _ _ _ _ _ => (Zri (size := 1) i rfl (T.e 1 rfl) (T.e 0 rfl) ⟨_, Tryz.underlying55, by kernel_rfl⟩ rfl (by omega) (SGG.at0 (by omega)))) ?_; clear T ac; intro ac T
   refine gq (v := (.slice G9 g9.length d9)) T 7 255 rfl (fun B w' hD hl hS => (rn_cell (Sp.lc0 SGG (show Mem w noEx w' _ from hS) (.cons _ (subL (subL (subL (subL (subL (List.Sublist.refl _))))))) hkg9) rfl (T.e 0 rfl))) ?_; clear T ac; intro ac T
   refine gw 8 511 ?_; intro K hK
   refine Zoc (first := []) (cap := []) T rfl rfl rfl rfl evf (.cons (T.e 4 rfl) (.cons (T.e 0 rfl) .nil)) Tryz.func42 rfl rfl ?_
   refine Calls.mono (Bad5_any l9 A9 c9 LL9 G9 d9 g9 _ (S9.rd M (.cons _ (subL (subL (subL (subL (subL (List.Sublist.refl _)))))))) (fun x hx => by obtain ⟨b8, o8, h8⟩ := hEl9 x hx; exact h8.rd M (.cons _ (subL (subL (subL (subL (subL (List.Sublist.refl _)))))))) (by omega) hlm9 (SG9.rd M (.cons _ (subL (subL (subL (subL (subL (List.Sublist.refl _)))))))) hgd9 (by omega)) ?_
   clear T; rintro e wc ⟨rfl, hb⟩ ac T
   replace M := M.call hb; clear hb
   refine Zso hK _ _ (M.mask [true] rfl) ?_; clear hK K
   refine gq T 9 1023 rfl (fun _ _ _ _ _ => (Zrm rfl (T.e 0 rfl))) ?_; clear T ac; intro ac T
   refine gq T 10 2047 rfl (fun _ _ _ _ _ => (Zre rfl (T.e 0 rfl) rfl)) ?_; clear T ac; intro ac T
   refine gq T 11 4095 rfl (fun _ _ _ _ _ => (Zre rfl (T.e 1 rfl) rfl)) ?_; clear T ac; intro ac T
   refine gq T 12 8191 rfl (fun _ _ _ _ _ => (Zre rfl (T.e 2 rfl) rfl)) ?_; clear T ac; intro ac T
   refine gq T 13 16383 rfl (fun _ _ _ _ _ => (Zra rfl (T.e 2 rfl))) ?_; clear T ac; intro ac T
   refine gq T 14 32767 rfl (fun _ _ _ _ _ => (Zra rfl (T.e 2 rfl))) ?_; clear T ac; intro ac T
   refine gq T 15 65535 rfl (fun _ _ _ _ _ => (Zra rfl (T.e 2 rfl))) ?_; clear T ac; intro ac T
   refine Zgd (by kernel_rfl) ?_
   replace T := T.pick [0, 1, 2, 16, 17, 18, 19, 20, 21, 22, 23, 24, 25, 26, 27, 28, 29, 30, 31] rfl
   refine Zns ?_
   refine Zgs M (M.mask [true] rfl) 62 (by kernel_rfl) rfl (by kernel_rfl) ?_
   clear M; intro wc M
   refine gq T 0 1 rfl (fun B w' hD hl hS => (Zrr (Mem.nth (show Mem w noEx w' _ from hS) 0 rfl) rfl (T.e 15 rfl) rfl)) ?_; clear T ac; intro ac T
   refine gq T 2 5 rfl (fun _ _ _ _ _ => (Zrm rfl (T.e 17 rfl))) ?_; clear T ac; intro ac T
   refine gq T 3 13 rfl (fun _ _ _ _ _ => (Zrm rfl (T.e 20 rfl))) ?_; clear T ac; intro ac T
   refine gq T 4 29 rfl (fun _ _ _ _ _ => (Zri (size := 5) i rfl (T.e 1 rfl) (T.e 0 rfl) ⟨_, Tryz.underlying70, by kernel_rfl⟩ rfl (by omega) (SZZ.at0 (by omega)))) ?_; clear T ac; intro ac T
   refine gq (v := (.agg #[Zi l9.first, Zi l9.step, Zi l9.span, Zi l9.press, .slice A9 LL9.length c9])) T 5 61 rfl (fun B w' hD hl hS => (rn_rowat (Sp.szR SZZ (show Mem w noEx w' _ from hS) (.cons _ (subL (subL (subL (subL (subL (List.Sublist.refl _))))))) hk9) rfl (T.e 0 rfl) rfl)) ?_; clear T ac; intro ac T
   refine gw 1 63 ?_; intro K hK
   refine Zoc (first := []) (cap := []) T rfl rfl rfl rfl evf (.cons (T.e 4 rfl) .nil) Tryz.func43 rfl rfl ?_
   refine Calls.mono (CheckScale_R l9 Aur13_4 cur13_4 LLur13_4 (rowsOf LL9) hrour13_4 _ (SAur13_4.rd M (.cons _ (subL (subL (subL (Zsq _ _)))))) (fun x hx => by obtain ⟨b8, o8, h8⟩ := hEour13_4 x hx; exact (h8 w noEx).rd M (.cons _ (subL (subL (subL (subL (Zsq _ _))))))) (by omega) (len_of hrour13_4 hlm9)) ?_
   clear T; rintro e wc ⟨rfl, hb⟩ ac T
   replace M := M.call hb; clear hb
   refine Zso hK _ _ (M.mask [true] rfl) ?_; clear hK K
   refine g_addU M ?_
   refine gw 6 127 ?_; intro K hK
   refine Zoc (first := []) (cap := []) T rfl rfl rfl rfl evf (.cons (T.e 1 rfl) .nil) Tryz.func44 rfl rfl ?_
   refine Calls.mono (checkScale5_any l9 A9 c9 LL9 _ (S9.rd M (.cons _ (subL (subL (subL (subL (subL (List.Sublist.refl _)))))))) (fun x hx => by obtain ⟨b8, o8, h8⟩ := hEl9 x hx; exact h8.rd M (.cons _ (subL (subL (subL (subL (subL (List.Sublist.refl _)))))))) (by omega) hlm9) ?_
   clear T; rintro e wc ⟨rfl, hb⟩ ac T
   replace M := M.call hb; clear hb
   refine Zso hK _ _ (MA.mk (M.mask [true] rfl) (M.mask [true] rfl)) ?_; clear hK K
   refine g_addU M ?_
   refine gq (v := (.bool false)) T 7 255 rfl (fun _ _ _ _ _ => (Zrq (rn_neq rfl (T.e 1 rfl) (T.e 0 rfl)) (by simp))) ?_; clear T ac; intro ac T
   refine gq T 8 511 rfl (fun _ _ _ _ _ => (Zrm rfl (T.e 0 rfl))) ?_; clear T ac; intro ac T
   refine g_q (T := T) (i := 9) rfl (by kernel_rfl) (by kernel_rfl : (Zpb 62 511).setIfInBounds 9 true = Zpb 62 1023) (si_and si_U (si_and si_U si_U)) (fun _ _ _ h => h) (Zwy rfl rfl (T.e 0 rfl) rfl) rfl rfl rfl (fun _ _ _ _ _ => (Zrm rfl (T.e 21 rfl))) ?_; clear T ac; intro ac T
   refine g_q (T := T) (i := 10) rfl (by kernel_rfl) (by kernel_rfl : (Zpb 62 1023).setIfInBounds 10 true = Zpb 62 2047) (si_and si_U (si_and si_U si_U)) (fun _ _ _ h => h) (Zwy rfl rfl (T.e 1 rfl) rfl) rfl rfl rfl (fun _ _ _ _ _ => (Zrm rfl (T.e 20 rfl))) ?_; clear T ac; intro ac T
   refine g_q (v := (.bool false)) (T := T) (i := 11) rfl (by kernel_rfl) (by kernel_rfl : (Zpb 62 2047).setIfInBounds 11 true = Zpb 62 4095) (si_and si_U (si_and si_U si_U)) (fun _ _ _ h => h) (Zwy rfl rfl (T.e 2 rfl) rfl) rfl rfl rfl (fun _ _ _ _ _ => (Zrq (rn_neq rfl (T.e 1 rfl) (T.e 0 rfl)) (by simp))) ?_; clear T ac; intro ac T
   refine gq T 12 8191 rfl (fun _ _ _ _ _ => (Zr0 rfl (T.e 3 rfl) rfl (T.e 0 rfl))) ?_; clear T ac; intro ac T
   refine gq T 13 16383 rfl (fun _ _ _ _ _ => (Zrm rfl (T.e 0 rfl))) ?_; clear T ac; intro ac T
   refine g_q (T := T) (i := 14) rfl (by kernel_rfl) (by kernel_rfl : (Zpb 62 16383).setIfInBounds 14 true = Zpb 62 32767) (si_and si_U (si_and si_U si_U)) (fun _ _ _ h => h) (Zwy rfl rfl (T.e 0 rfl) rfl) rfl rfl rfl (fun _ _ _ _ _ => (Zrm rfl (T.e 23 rfl))) ?_; clear T ac; intro ac T
   refine g_q (T := T) (i := 15) rfl (by kernel_rfl) (by kernel_rfl : (Zpb 62 32767).setIfInBounds 15 true = Zpb 62 65535) (si_and si_U (si_and si_U si_U)) (fun _ _ _ h => h) (Zwy rfl rfl (T.e 1 rfl) rfl) rfl rfl rfl (fun _ _ _ _ _ => (Zrm rfl (T.e 22 rfl))) ?_; clear T ac; intro ac T
   refine g_q (v := (.bool false)) (T := T) (i := 16) rfl (by kernel_rfl) (by kernel_rfl : (Zpb 62 65535).setIfInBounds 16 true = Zpb 62 131071) (si_and si_U (si_and si_U si_U)) (fun _ _ _ h => h) (Zwy rfl rfl (T.e 2 rfl) rfl) rfl rfl rfl (fun _ _ _ _ _ => (Zrq (rn_neq rfl (T.e 1 rfl) (T.e 0 rfl)) (by simp))) ?_; clear T ac; intro ac T
   refine gq T 17 262143 rfl (fun _ _ _ _ _ => (Zr0 rfl (T.e 3 rfl) rfl (T.e 0 rfl))) ?_; clear T ac; intro ac T
   refine gq T 18 524287 rfl (fun _ _ _ _ _ => (Zrm rfl (T.e 0 rfl))) ?_; clear T ac; intro ac T
   refine g_q (T := T) (i := 19) rfl (by kernel_rfl) (by kernel_rfl : (Zpb 62 524287).setIfInBounds 19 true = Zpb 62 1048575) (si_and si_U (si_and si_U si_U)) (fun _ _ _ h => h) (Zwy rfl rfl (T.e 0 rfl) rfl) rfl rfl rfl (fun _ _ _ _ _ => (Zrm rfl (T.e 27 rfl))) ?_; clear T ac; intro ac T
   refine g_q (T := T) (i := 20) rfl (by kernel_rfl) (by kernel_rfl : (Zpb 62 1048575).setIfInBounds 20 true = Zpb 62 2097151) (si_and si_U (si_and si_U si_U)) (fun _ _ _ h => h) (Zwy rfl rfl (T.e 1 rfl) rfl) rfl rfl rfl (fun _ _ _ _ _ => (Zrm rfl (T.e 26 rfl))) ?_; clear T ac; intro ac T
   refine g_q (v := (.bool false)) (T := T) (i := 21) rfl (by kernel_rfl) (by kernel_rfl : (Zpb 62 2097151).setIfInBounds 21 true = Zpb 62 4194303) (si_and si_U (si_and si_U si_U)) (fun _ _ _ h => h) (Zwy rfl rfl (T.e 2 rfl) rfl) rfl rfl rfl (fun _ _ _ _ _ => (Zrq (rn_neq rfl (T.e 1 rfl) (T.e 0 rfl)) (by simp))) ?_; clear T ac; intro ac T
   refine gq T 22 8388607 rfl (fun _ _ _ _ _ => (Zr0 rfl (T.e 3 rfl) rfl (T.e 0 rfl))) ?_; clear T ac; intro ac T
   refine gq T 23 16777215 rfl (fun _ _ _ _ _ => (Zrm rfl (T.e 0 rfl))) ?_; clear T ac; intro ac T
   refine g_q (T := T) (i := 24) rfl (by kernel_rfl) (by kernel_rfl : (Zpb 62 16777215).setIfInBounds 24 true = Zpb 62 33554431) (si_and si_U (si_and si_U si_U)) (fun _ _ _ h => h) (Zwy rfl rfl (T.e 0 rfl) rfl) rfl rfl rfl (fun _ _ _ _ _ => (Zrm rfl (T.e 29 rfl))) ?_; clear T ac; intro ac T
   refine g_q (T := T) (i := 25) rfl (by kernel_rfl) (by kernel_rfl : (Zpb 62 33554431).setIfInBounds 25 true = Zpb 62 67108863) (si_and si_U (si_and si_U si_U)) (fun _ _ _ h => h) (Zwy rfl rfl (T.e 1 rfl) rfl) rfl rfl rfl (fun _ _ _ _ _ => (Zrm rfl (T.e 27 rfl))) ?_; clear T ac; intro ac T
   refine g_q (v := (.bool false)) (T := T) (i := 26) rfl (by kernel_rfl) (by kernel_rfl : (Zpb 62 67108863).setIfInBounds 26 true = Zpb 62 134217727) (si_and si_U (si_and si_U si_U)) (fun _ _ _ h => h) (Zwy rfl rfl (T.e 2 rfl) rfl) rfl rfl rfl (fun _ _ _ _ _ => (Zrq (rn_neq rfl (T.e 1 rfl) (T.e 0 rfl)) (by simp))) ?_; clear T ac; intro ac T
   refine gq T 27 268435455 rfl (fun _ _ _ _ _ => (Zr0 rfl (T.e 3 rfl) rfl (T.e 0 rfl))) ?_; clear T ac; intro ac T
   refine gq T 28 536870911 rfl (fun _ _ _ _ _ => (Zrm rfl (T.e 0 rfl))) ?_; clear T ac; intro ac T
   refine g_q (T := T) (i := 29) rfl (by kernel_rfl) (by kernel_rfl : (Zpb 62 536870911).setIfInBounds 29 true = Zpb 62 1073741823) (si_and si_U (si_and si_U si_U)) (fun _ _ _ h => h) (Zwy rfl rfl (T.e 0 rfl) rfl) rfl rfl rfl (fun _ _ _ _ _ => (Zrm rfl (T.e 33 rfl))) ?_; clear T ac; intro ac T
   refine g_q (T := T) (i := 30) rfl (by kernel_rfl) (by kernel_rfl : (Zpb 62 1073741823).setIfInBounds 30 true = Zpb 62 2147483647) (si_and si_U (si_and si_U si_U)) (fun _ _ _ h => h) (Zwy rfl rfl (T.e 1 rfl) rfl) rfl rfl rfl (fun _ _ _ _ _ => (Zrm rfl (T.e 31 rfl))) ?_; clear T ac; intro ac T
   refine g_q (v := (.bool false)) (T := T) (i := 31) rfl (by kernel_rfl) (by kernel_rfl : (Zpb 62 2147483647).setIfInBounds 31 true = Zpb 62 4294967295) (si_and si_U (si_and si_U si_U)) (fun _ _ _ h => h) (Zwy rfl rfl (T.e 2 rfl) rfl) rfl rfl rfl (fun _ _ _ _ _ => (Zrq (rn_neq rfl (T.e 1 rfl) (T.e 0 rfl)) (by simp))) ?_; clear T ac; intro ac T
   refine gq T 32 8589934591 rfl (fun _ _ _ _ _ => (Zr0 rfl (T.e 3 rfl) rfl (T.e 0 rfl))) ?_; clear T ac; intro ac T
   refine gq T 33 17179869183 rfl (fun _ _ _ _ _ => (Zrm rfl (T.e 0 rfl))) ?_; clear T ac; intro ac T
   refine g_q (T := T) (i := 34) rfl (by kernel_rfl) (by kernel_rfl : (Zpb 62 17179869183).setIfInBounds 34 true = Zpb 62 34359738367) (si_and si_U (si_and si_U si_U)) (fun _ _ _ h => h) (Zwy rfl rfl (T.e 0 rfl) rfl) rfl rfl rfl (fun _ _ _ _ _ => (Zrm rfl (T.e 37 rfl))) ?_; clear T ac; intro ac T
   refine g_q (T := T) (i := 35) rfl (by kernel_rfl) (by kernel_rfl : (Zpb 62 34359738367).setIfInBounds 35 true = Zpb 62 68719476735) (si_and si_U (si_and si_U si_U)) (fun _ _ _ h => h) (Zwy rfl rfl (T.e 1 rfl) rfl) rfl rfl rfl (fun _ _ _ _ _ => (Zrm rfl (T.e 35 rfl))) ?_; clear T ac; intro ac T
   refine g_q (v := (.bool false)) (T := T) (i := 36) rfl (by kernel_rfl) (by kernel_rfl : (Zpb 62 68719476735).setIfInBounds 36 true = Zpb 62 137438953471) (si_and si_U (si_and si_U si_U)) (fun _ _ _ h => h) (Zwy rfl rfl (T.e 2 rfl) rfl) rfl rfl rfl (fun _ _ _ _ _ => (Zrq (rn_neq rfl (T.e 1 rfl) (T.e 0 rfl)) (by simp))) ?_; clear T ac; intro ac T
   refine gq T 37 274877906943 rfl (fun _ _ _ _ _ => (Zr0 rfl (T.e 3 rfl) rfl (T.e 0 rfl))) ?_; clear T ac; intro ac T
   refine gq T 38 549755813887 rfl (fun _ _ _ _ _ => (Zrm rfl (T.e 0 rfl))) ?_; clear T ac; intro ac T
   refine g_q (T := T) (i := 39) rfl (by kernel_rfl) (by kernel_rfl : (Zpb 62 549755813887).setIfInBounds 39 true = Zpb 62 1099511627775) (si_and si_U (si_and si_U si_U)) (fun _ _ _ h => h) (Zwy rfl rfl (T.e 0 rfl) rfl) rfl rfl rfl (fun _ _ _ _ _ => (Zrm rfl (T.e 52 rfl))) ?_; clear T ac; intro ac T
   refine g_q (T := T) (i := 40) rfl (by kernel_rfl) (by kernel_rfl : (Zpb 62 1099511627775).setIfInBounds 40 true = Zpb 62 2199023255551) (si_and si_U (si_and si_U si_U)) (fun _ _ _ h => h) (Zwy rfl rfl (T.e 1 rfl) rfl) rfl rfl rfl (fun _ _ _ _ _ => (Zrm rfl (T.e 51 rfl))) ?_; clear T ac; intro ac T
   refine g_w (i := 41) (by kernel_rfl) rfl (by kernel_rfl : (Zpb 62 2199023255551).setIfInBounds 41 true = Zpb 62 4398046511103) (Zwy rfl rfl (T.e 2 rfl) rfl) ?_; intro K hK
   refine Zoc (first := []) (cap := []) T rfl rfl rfl rfl evf (.cons (T.e 1 rfl) (.cons (T.e 0 rfl) .nil)) Tryz.func16 rfl rfl ?_
   refine Calls.mono (sameInts_eq _ _ _ _ _ _ ((tremE l9 (rowsOf LL9) g9).1) _ (SALu9.rd M (.cons _ (subL (Zsq _ _)))) (SALu10.rd M (.cons _ (Zsq _ _))) (by omega) (by omega)) ?_
   clear T; rintro e wc ⟨rfl, hb⟩ ac T
   replace M := M.call hb; clear hb
   refine Zso hK _ _ (MA.mk (M.mask [true] rfl) (MA.mk (M.mask [true] rfl) (M.mask [true] rfl))) ?_; clear hK K
   refine g_addU M ?_
   refine g_q (v := (.bool false)) (T := T) (i := 42) rfl (by kernel_rfl) (by kernel_rfl : (Zpb 62 4398046511103).setIfInBounds 42 true = Zpb 62 8796093022207) (si_and si_U (si_and si_U (si_and si_U si_U))) (fun _ _ _ h => h) (Zwy rfl rfl (T.e 3 rfl) rfl) rfl rfl rfl (fun _ _ _ _ _ => (Zrq (rn_not rfl (T.e 0 rfl)) (by simp))) ?_; clear T ac; intro ac T
   refine gq T 43 17592186044415 rfl (fun _ _ _ _ _ => (Zr0 rfl (T.e 4 rfl) rfl (T.e 0 rfl))) ?_; clear T ac; intro ac T
   refine gq T 44 35184372088831 rfl (fun _ _ _ _ _ => (Zrm rfl (T.e 0 rfl))) ?_; clear T ac; intro ac T
   refine g_q (T := T) (i := 45) rfl (by kernel_rfl) (by kernel_rfl : (Zpb 62 35184372088831).setIfInBounds 45 true = Zpb 62 70368744177663) (si_and si_U (si_and si_U (si_and si_U si_U))) (fun _ _ _ h => h) (Zwy rfl rfl (T.e 0 rfl) rfl) rfl rfl rfl (fun B w' hD hl hS => (Zrr (Mem.nth (show Mem w noEx w' _ from (MA.lft hS)) 0 rfl) rfl (T.e 60 rfl) rfl)) ?_; clear T ac; intro ac T
   refine g_q (T := T) (i := 46) rfl (by kernel_rfl) (by kernel_rfl : (Zpb 62 70368744177663).setIfInBounds 46 true = Zpb 62 140737488355327) (si_and si_U (si_and si_U (si_and si_U si_U))) (fun _ _ _ h => h) (Zwy rfl rfl (T.e 1 rfl) rfl) rfl rfl rfl (fun _ _ _ _ _ => (Zrm rfl (T.e 62 rfl))) ?_; clear T ac; intro ac T
   refine g_q (T := T) (i := 47) rfl (by kernel_rfl) (by kernel_rfl : (Zpb 62 140737488355327).setIfInBounds 47 true = Zpb 62 281474976710655) (si_and si_U (si_and si_U (si_and si_U si_U))) (fun _ _ _ h => h) (Zwy rfl rfl (T.e 2 rfl) rfl) rfl rfl rfl (fun _ _ _ _ _ => (Zrm rfl (T.e 65 rfl))) ?_; clear T ac; intro ac T
   refine g_q (T := T) (i := 48) rfl (by kernel_rfl) (by kernel_rfl : (Zpb 62 281474976710655).setIfInBounds 48 true = Zpb 62 562949953421311) (si_and si_U (si_and si_U (si_and si_U si_U))) (fun _ _ _ h => h) (Zwy rfl rfl (T.e 3 rfl) rfl) rfl rfl rfl (fun _ _ _ _ _ => (Zri (size := 5) i rfl (T.e 1 rfl) (T.e 0 rfl) ⟨_, Tryz.underlying70, by kernel_rfl⟩ rfl (by omega) (SZZ.at0 (by omega)))) ?_; clear T ac; intro ac T
   refine g_q (v := (.agg #[Zi l9.first, Zi l9.step, Zi l9.span, Zi l9.press, .slice A9 LL9.length c9])) (T := T) (i := 49) rfl (by kernel_rfl) (by kernel_rfl : (Zpb 62 562949953421311).setIfInBounds 49 true = Zpb 62 1125899906842623) (si_and si_U (si_and si_U (si_and si_U si_U))) (fun _ _ _ h => h) (Zwy rfl rfl (T.e 4 rfl) rfl) rfl rfl rfl (fun B w' hD hl hS => (rn_rowat (Sp.szR SZZ (show Mem w noEx w' _ from (MA.lft hS)) (.cons _ (subL (subL (subL (subL (subL (List.Sublist.refl _))))))) hk9) rfl (T.e 0 rfl) rfl)) ?_; clear T ac; intro ac T
   refine g_w (i := 50) (by kernel_rfl) rfl (by kernel_rfl : (Zpb 62 1125899906842623).setIfInBounds 50 true = Zpb 62 2251799813685247) (Zwy rfl rfl (T.e 5 rfl) rfl) ?_; intro K hK
   refine Zoc (first := []) (cap := []) T rfl rfl rfl rfl evf (.cons (T.e 4 rfl) (.cons (T.e 0 rfl) .nil)) Tryz.func45 rfl rfl ?_
   refine Calls.mono (sameScales_same l9 Aur13_4 cur13_4 LLur13_4 A9 c9 LL9 _ (SAur13_4.rd M (.cons _ (subL (subL (subL (Zsq _ _)))))) (fun x hx => by obtain ⟨b8, o8, h8⟩ := hEour13_4 x hx; exact (h8 w noEx).rd M (.cons _ (subL (subL (subL (subL (Zsq _ _))))))) (by omega) (len_of hrour13_4 hlm9) (S9.rd M (.cons _ (subL (subL (subL (subL (subL (List.Sublist.refl _)))))))) (fun x hx => by obtain ⟨b8, o8, h8⟩ := hEl9 x hx; exact h8.rd M (.cons _ (subL (subL (subL (subL (subL (List.Sublist.refl _)))))))) hrour13_4) ?_
   clear T; rintro e wc ⟨rfl, hb⟩ ac T
   replace M := M.call hb; clear hb
   refine Zso hK _ _ (MA.mk (M.mask [true] rfl) (MA.mk (M.mask [true] rfl) (MA.mk (M.mask [true] rfl) (M.mask [true] rfl)))) ?_; clear hK K
   refine g_addU M ?_
   refine g_q (v := (.bool false)) (T := T) (i := 51) rfl (by kernel_rfl) (by kernel_rfl : (Zpb 62 2251799813685247).setIfInBounds 51 true = Zpb 62 4503599627370495) (si_and si_U (si_and si_U (si_and si_U (si_and si_U si_U)))) (fun _ _ _ h => h) (Zwy rfl rfl (T.e 6 rfl) rfl) rfl rfl rfl (fun _ _ _ _ _ => (Zrq (rn_not rfl (T.e 0 rfl)) (by simp))) ?_; clear T ac; intro ac T
   refine gq T 52 9007199254740991 rfl (fun _ _ _ _ _ => (Zr0 rfl (T.e 7 rfl) rfl (T.e 0 rfl))) ?_; clear T ac; intro ac T
   refine gq T 53 18014398509481983 rfl (fun _ _ _ _ _ => (Zrm rfl (T.e 0 rfl))) ?_; clear T ac; intro ac T
   refine g_q (T := T) (i := 54) rfl (by kernel_rfl) (by kernel_rfl : (Zpb 62 18014398509481983).setIfInBounds 54 true = Zpb 62 36028797018963967) (si_and si_U (si_and si_U (si_and si_U (si_and si_U si_U)))) (fun _ _ _ h => h) (Zwy rfl rfl (T.e 0 rfl) rfl) rfl rfl rfl (fun _ _ _ _ _ => (Zrm rfl (T.e 68 rfl))) ?_; clear T ac; intro ac T
   refine g_q (T := T) (i := 55) rfl (by kernel_rfl) (by kernel_rfl : (Zpb 62 36028797018963967).setIfInBounds 55 true = Zpb 62 72057594037927935) (si_and si_U (si_and si_U (si_and si_U (si_and si_U si_U)))) (fun _ _ _ h => h) (Zwy rfl rfl (T.e 1 rfl) rfl) rfl rfl rfl (fun _ _ _ _ _ => (Zrm rfl (T.e 72 rfl))) ?_; clear T ac; intro ac T
   refine g_q (T := T) (i := 56) rfl (by kernel_rfl) (by kernel_rfl : (Zpb 62 72057594037927935).setIfInBounds 56 true = Zpb 62 144115188075855871) (si_and si_U (si_and si_U (si_and si_U (si_and si_U si_U)))) (fun _ _ _ h => h) (Zwy rfl rfl (T.e 2 rfl) rfl) rfl rfl rfl (fun _ _ _ _ _ => (Zrm rfl (T.e 74 rfl))) ?_; clear T ac; intro ac T
   refine g_q (T := T) (i := 57) rfl (by kernel_rfl) (by kernel_rfl : (Zpb 62 144115188075855871).setIfInBounds 57 true = Zpb 62 288230376151711743) (si_and si_U (si_and si_U (si_and si_U (si_and si_U si_U)))) (fun _ _ _ h => h) (Zwy rfl rfl (T.e 3 rfl) rfl) rfl rfl rfl (fun _ _ _ _ _ => (Zri (size := 1) i rfl (T.e 1 rfl) (T.e 0 rfl) ⟨_, Tryz.underlying55, by kernel_rfl⟩ rfl (by omega) (SGG.at0 (by omega)))) ?_; clear T ac; intro ac T
   refine g_q (v := (.slice G9 g9.length d9)) (T := T) (i := 58) rfl (by kernel_rfl) (by kernel_rfl : (Zpb 62 288230376151711743).setIfInBounds 58 true = Zpb 62 576460752303423487) (si_and si_U (si_and si_U (si_and si_U (si_and si_U si_U)))) (fun _ _ _ h => h) (Zwy rfl rfl (T.e 4 rfl) rfl) rfl rfl rfl (fun B w' hD hl hS => (rn_cell (Sp.lc0 SGG (show Mem w noEx w' _ from (MA.lft hS)) (.cons _ (subL (subL (subL (subL (subL (List.Sublist.refl _))))))) hkg9) rfl (T.e 0 rfl))) ?_; clear T ac; intro ac T
   refine g_w (i := 59) (by kernel_rfl) rfl (by kernel_rfl : (Zpb 62 576460752303423487).setIfInBounds 59 true = Zpb 62 1152921504606846975) (Zwy rfl rfl (T.e 5 rfl) rfl) ?_; intro K hK
   refine Zoc (first := []) (cap := []) T rfl rfl rfl rfl evf (.cons (T.e 4 rfl) (.cons (T.e 0 rfl) .nil)) Tryz.func16 rfl rfl ?_
   refine Calls.mono (sameInts_eq _ _ _ _ _ _ g9 _ (SIur13_9.rd M (.cons _ (subL (subL (Zsq _ _))))) (SG9.rd M (.cons _ (subL (subL (subL (subL (subL (List.Sublist.refl _)))))))) (by omega) (by omega)) ?_
   clear T; rintro e wc ⟨rfl, hb⟩ ac T
   replace M := M.call hb; clear hb
   refine Zso hK _ _ (MA.mk (M.mask [true] rfl) (MA.mk (M.mask [true] rfl) (MA.mk (M.mask [true] rfl) (MA.mk (M.mask [true] rfl) (M.mask [true] rfl))))) ?_; clear hK K
   refine g_q (v := (.bool false)) (T := T) (i := 60) rfl (by kernel_rfl) (by kernel_rfl : (Zpb 62 1152921504606846975).setIfInBounds 60 true = Zpb 62 2305843009213693951) (si_and si_U (si_and si_U (si_and si_U (si_and si_U si_U)))) (fun _ _ _ h => h) (Zwy rfl rfl (T.e 6 rfl) rfl) rfl rfl rfl (fun _ _ _ _ _ => (Zrq (rn_not rfl (T.e 0 rfl)) (by simp))) ?_; clear T ac; intro ac T
   refine gq T 61 4611686018427387903 rfl (fun _ _ _ _ _ => (Zr0 rfl (T.e 7 rfl) rfl (T.e 0 rfl))) ?_; clear T ac; intro ac T
   refine Zgd (by kernel_rfl) ?_
   replace T := T.pick [0, 1, 2, 3, 4, 5, 6, 7, 10, 11, 12, 13, 14, 15, 16, 19, 20, 21, 22, 25, 26, 27, 30, 31, 32, 35, 36, 37, 40, 41, 42, 45, 46, 47, 50, 51, 52, 78, 79, 80] rfl
   replace M := M.mask [false] rfl
   replace M : Mem w noEx wc ((IT ++ Ieur13_4 ++ Iour13_4 ++ IMur13_9 ++ ILu9 ++ ILu10)) := M
   refine nm_then ?_
   refine wp_cond_false (T.e 0 rfl) ?_
   refine wp_skip ?_
   refine Znb ?_
   refine nm_then ?_
   refine wp_region_lit ?_
   refine Zg2 T (Zq (Zrm rfl (T.e 39 rfl))) rfl (fun _ T => Zq (rn_add rfl (T.e 0 rfl) evc (by omega))) rfl ?_; clear T ac; intro ac T
   refine l_q (v := (Zi ((i : Int) + 1))) (T.pick [0, 1, 2, 3, 4, 5, 6, 7, 8, 9, 10, 11, 12, 13, 14, 15, 16, 17, 18, 19, 20, 21, 22, 23, 24, 25, 26, 27, 28, 29, 30, 31, 32, 33, 34, 35, 36, 37, 38, 39, 40] rfl) rfl rfl rfl rfl (Zra rfl (T.e 0 rfl)) ?_; clear T ac; intro ac T
   replace T := T.pick [0, 4, 5, 6, 7, 8, 9, 10, 11, 12, 13, 14, 15, 16, 17, 18, 19, 20, 21, 22, 23, 24, 25, 26, 27, 28, 29, 30, 31, 32, 33, 34, 35, 36, 37, 38, 39, 40, 41] rfl
   refine Zln ?_
   exact ⟨_, by omega, i + 1, rfl, (by omega), T.pick [37, 38, 0] rfl, (M.sub (subL (subL (subL (subL (subL (List.Sublist.refl _)))))))⟩
  intro H1
  refine g_have (fun ac wc => ∃ (Aur13_4 : Option Addr), ∃ (cur13_4 : Nat), ∃ (LLur13_4 : List LS), ∃ (Ieur13_4 : List (Nat × BA)), ∃ (Iour13_4 : List (Nat × BA)), ∃ (bur13_4 : Nat), ∃ (our13_4 : Nat), (LLur13_4.map (·.1) = LL9.map (·.1)) ∧ (LLur13_4.length = LL9.length) ∧ (ElsSV LLur13_4 Ieur13_4) ∧ (Sp w noEx Iour13_4 Aur13_4 LLur13_4.length 1 bur13_4 our13_4 (lsC LLur13_4)) ∧ ∃ (gr13_10 : Nat), Tm ac 225 [(18, Zj gr13_10), (100, .agg #[Zi l9.first, Zi l9.step, Zi l9.span, Zi l9.press, .slice Aur13_4 LLur13_4.length cur13_4]), (104, .slice G9 g9.length d9), (103, .pointer (some ⟨g6, 0 + i * 1, none⟩)), (102, Zi (i : Int)), (101, .slice (some ⟨g6, 0, none⟩) 4 4), (99, .agg #[Zi l9.first, Zi l9.step, Zi l9.span, Zi l9.press, .slice A9 LL9.length c9]), (98, .pointer (some ⟨g5, 0 + i * 5, none⟩)), (97, Zi (i : Int)), (96, .slice (some ⟨g5, 0, none⟩) 4 4), (93, .bool (decide ((i : Int) < 4))), (15, .slice (some ⟨g5, 0, none⟩) 4 4), (16, .slice (some ⟨g6, 0, none⟩) 4 4), (17, Zi (i : Int))] ∧ Mem w noEx wc ((gr13_10, .cells [Zi 0, Zi 0, Zi 0, Zi 0, .slice none 0 0]) :: (IT ++ Ieur13_4 ++ Iour13_4))) (Zpb 13 1535) 3 ?_ ?_
  ·clear T M
   rintro ac wc ⟨Aur13_4, cur13_4, LLur13_4, Ieur13_4, Iour13_4, bur13_4, our13_4, hrour13_4, hlnur13_4, hEour13_4, SAur13_4, gr13_10, T, M⟩
   refine gw 9 2047 ?_; intro K hK
   refine Zoc (first := []) (cap := []) T rfl rfl rfl rfl evf (.cons (T.e 2 rfl) .nil) Tryz.func36 rfl rfl ?_
   refine Calls.mono (intsM_any _ _ g9 _ (SG9.rd M (.cons _ (subL (subL (List.Sublist.refl _))))) (by omega)) ?_
   clear T; rintro e wc ⟨AIur13_9, cIur13_9, IMur13_9, rfl, hsIur13_9, N⟩ ac T
   obtain ⟨bIur13_9, oIur13_9, SVIur13_9⟩ := hsIur13_9.spV (by rw [ic_length]; omega)
   have SIur13_9 := SVIur13_9 w noEx
   replace M := (M.join N).swapI
   clear N
   replace M : Mem w noEx wc ((gr13_10, .cells [Zi 0, Zi 0, Zi 0, Zi 0, .slice none 0 0]) :: (IT ++ Ieur13_4 ++ Iour13_4 ++ IMur13_9)) := M
   refine Zso hK _ _ ((M.mask [false] rfl).sub (List.Sublist.trans (List.Sublist.trans (Zsl _ _) (Zsl _ _)) (Zsl _ _))) ?_; clear hK K
   exact H1 _ _ ⟨Aur13_4, cur13_4, LLur13_4, Ieur13_4, Iour13_4, bur13_4, our13_4, AIur13_9, cIur13_9, IMur13_9, bIur13_9, oIur13_9, hrour13_4, hlnur13_4, hEour13_4, SAur13_4, SIur13_9, gr13_10, T.pick [1, 0, 2, 3, 4, 5, 6, 7, 8, 9, 10, 11, 12, 13, 14] rfl, M⟩
  intro H0
  refine gq T 0 1 rfl (fun _ _ _ _ _ => (Zrm rfl (T.e 1 rfl))) ?_; clear T ac; intro ac T
  refine gq T 1 3 rfl (fun _ _ _ _ _ => (Zrm rfl (T.e 4 rfl))) ?_; clear T ac; intro ac T
  refine gq T 2 7 rfl (fun _ _ _ _ _ => (Zri (size := 5) i rfl (T.e 1 rfl) (T.e 0 rfl) ⟨_, Tryz.underlying70, by kernel_rfl⟩ rfl (by omega) (SZZ.at0 (by omega)))) ?_; clear T ac; intro ac T
  refine gq (v := (.agg #[Zi l9.first, Zi l9.step, Zi l9.span, Zi l9.press, .slice A9 LL9.length c9])) T 3 15 rfl (fun B w' hD hl hS => (rn_rowat (Sp.szR SZZ (show Mem w noEx w' _ from hS) (List.Sublist.refl _) hk9) rfl (T.e 0 rfl) rfl)) ?_; clear T ac; intro ac T
  refine gq T 5 47 rfl (fun _ _ _ _ _ => (Zrm rfl (T.e 6 rfl))) ?_; clear T ac; intro ac T
  refine gq T 6 111 rfl (fun _ _ _ _ _ => (Zrm rfl (T.e 8 rfl))) ?_; clear T ac; intro ac T
  refine gq T 7 239 rfl (fun _ _ _ _ _ => (Zri (size := 1) i rfl (T.e 1 rfl) (T.e 0 rfl) ⟨_, Tryz.underlying55, by kernel_rfl⟩ rfl (by omega) (SGG.at0 (by omega)))) ?_; clear T ac; intro ac T
  refine gq (v := (.slice G9 g9.length d9)) T 8 495 rfl (fun B w' hD hl hS => (rn_cell (Sp.lc0 SGG (show Mem w noEx w' _ from hS) (List.Sublist.refl _) hkg9) rfl (T.e 0 rfl))) ?_; clear T ac; intro ac T
  refine g_m2 (i := 4) (j := 10) (by kernel_rfl) ?_ ?_
  ·refine gi 511 ?_; intro K hK
   refine Zoc (first := []) (cap := []) T rfl rfl rfl rfl evf (.cons (T.e 4 rfl) .nil) Tryz.func33 rfl rfl ?_
   refine Calls.mono (copyScale_any l9 A9 c9 LL9 _ (S9.rd M (List.Sublist.refl _)) (fun x hx => by obtain ⟨b8, o8, h8⟩ := hEl9 x hx; exact h8.rd M (List.Sublist.refl _)) (by omega) hlm9) ?_
   clear T; rintro e wc ⟨Aur13_4, cur13_4, LLur13_4, Ieur13_4, Iour13_4, rfl, hrour13_4, hRiur13_4, SVur13_4, N⟩ ac T
   have hlnur13_4 := rows_len hrour13_4
   have hEour13_4 := hRiur13_4.els
   obtain ⟨bur13_4, our13_4, SVur13_4⟩ := SVur13_4
   have SAur13_4 := SVur13_4 w noEx
   replace M : Mem w noEx wc ((IT ++ Ieur13_4 ++ Iour13_4)) := (M.join N).swapI.as (by simp only [List.append_assoc, List.cons_append, List.nil_append])
   clear N
   refine Zso hK _ _ ((M.mask [] rfl).sub (List.Sublist.trans (Zsl _ _) (Zsl _ _))) ?_; clear hK K
   refine g_m2 (i := 9) (j := 10) (by kernel_rfl) ?_ ?_
   ·refine gi 1023 ?_; intro K hK
    refine Zoc (first := []) (cap := []) T rfl rfl rfl rfl evf (.cons (T.e 1 rfl) .nil) Tryz.func36 rfl rfl ?_
    refine Calls.mono (intsM_any _ _ g9 _ (SG9.rd M (subL (subL (List.Sublist.refl _)))) (by omega)) ?_
    clear T; rintro e wc ⟨AIur13_9, cIur13_9, IMur13_9, rfl, hsIur13_9, N⟩ ac T
    obtain ⟨bIur13_9, oIur13_9, SVIur13_9⟩ := hsIur13_9.spV (by rw [ic_length]; omega)
    have SIur13_9 := SVIur13_9 w noEx
    replace M := (M.join N).swapI
    clear N
    replace M : Mem w noEx wc ((IT ++ Ieur13_4 ++ Iour13_4 ++ IMur13_9)) := M
    refine Zso hK _ _ ((M.mask [] rfl).sub (List.Sublist.trans (List.Sublist.trans (Zsl _ _) (Zsl _ _)) (Zsl _ _))) ?_; clear hK K
    refine gw 10 2047 ?_; intro K hK
    refine Zoa M T rfl rfl rfl rfl ?_; clear M T; intro gr13_10 wc ac M T
    refine Zso hK _ _ ((M.mask [false] rfl).sub (List.Sublist.trans (List.Sublist.trans (Zsl _ _) (Zsl _ _)) (Zsl _ _))) ?_; clear hK K
    exact H1 _ _ ⟨Aur13_4, cur13_4, LLur13_4, Ieur13_4, Iour13_4, bur13_4, our13_4, AIur13_9, cIur13_9, IMur13_9, bIur13_9, oIur13_9, hrour13_4, hlnur13_4, hEour13_4, SAur13_4, SIur13_9, gr13_10, T, M⟩
   refine gi 1535 ?_; intro K hK
   refine Zoa M T rfl rfl rfl rfl ?_; clear M T; intro gr13_10 wc ac M T
   refine Zso hK _ _ ((M.mask [false] rfl).sub (List.Sublist.trans (Zsl _ _) (Zsl _ _))) ?_; clear hK K
   exact H0 _ _ ⟨Aur13_4, cur13_4, LLur13_4, Ieur13_4, Iour13_4, bur13_4, our13_4, hrour13_4, hlnur13_4, hEour13_4, SAur13_4, gr13_10, T, M⟩
  refine gi 1519 ?_; intro K hK
  refine Zoa M T rfl rfl rfl rfl ?_; clear M T; intro gr13_10 wc ac M T
  refine Zso hK _ _ (M.mask [false] rfl) ?_; clear hK K
  refine gw 4 1535 ?_; intro K hK
  refine Zoc (first := []) (cap := []) T rfl rfl rfl rfl evf (.cons (T.e 5 rfl) .nil) Tryz.func33 rfl rfl ?_
  refine Calls.mono (copyScale_any l9 A9 c9 LL9 _ (S9.rd M (.cons _ (List.Sublist.refl _))) (fun x hx => by obtain ⟨b8, o8, h8⟩ := hEl9 x hx; exact h8.rd M (.cons _ (List.Sublist.refl _))) (by omega) hlm9) ?_
  clear T; rintro e wc ⟨Aur13_4, cur13_4, LLur13_4, Ieur13_4, Iour13_4, rfl, hrour13_4, hRiur13_4, SVur13_4, N⟩ ac T
  have hlnur13_4 := rows_len hrour13_4
  have hEour13_4 := hRiur13_4.els
  obtain ⟨bur13_4, our13_4, SVur13_4⟩ := SVur13_4
  have SAur13_4 := SVur13_4 w noEx
  replace M : Mem w noEx wc ((gr13_10, .cells [Zi 0, Zi 0, Zi 0, Zi 0, .slice none 0 0]) :: (IT ++ Ieur13_4 ++ Iour13_4)) := (M.join N).swapI.as (by simp only [List.append_assoc, List.cons_append, List.nil_append])
  clear N
  refine Zso hK _ _ ((M.mask [false] rfl).sub (List.Sublist.trans (Zsl _ _) (Zsl _ _))) ?_; clear hK K
  exact H0 _ _ ⟨Aur13_4, cur13_4, LLur13_4, Ieur13_4, Iour13_4, bur13_4, our13_4, hrour13_4, hlnur13_4, hEour13_4, SAur13_4, gr13_10, T.pick [1, 0, 2, 3, 4, 5, 6, 7, 8, 9, 10, 11, 12, 13] rfl, M⟩
 intro h4
 refine wp_exit ?_
 refine Zet ?_
 refine Zet ?_
 refine ex_hit ?_
 refine nm_then ?_
 refine Zsr ?_
 refine Zl2 ?_
 refine Zoc (first := []) (cap := []) T rfl rfl rfl rfl evf .nil Tryz.func6 rfl rfl ?_
 refine Calls.mono (trembling_any _) ?_
 clear T; rintro e wc ⟨rfl, hb⟩ ac T
 replace M := M.call hb; clear hb
 refine lq T (Zra rfl (T.e 0 rfl)) ?_; clear T ac; intro ac T
 replace T := T.pick [0] rfl
 refine Zln ?_
 refine wp_ret ?_
 refine rt_1 T rfl (T.e 0 rfl) ?_
 exact ⟨rfl, M.below⟩
end Go.Proofs.YtdnbljihhimijaaGreat


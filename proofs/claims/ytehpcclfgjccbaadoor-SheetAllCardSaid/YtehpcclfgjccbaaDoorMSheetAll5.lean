/-
  sheet's law: all spots are gone through.
-/
import Derived.Test.YtehpcclfgjccbaaDoorMSheetAll1
import Derived.Test.YtehpcclfgjccbaaDoorMSheetAll2
import Derived.Test.YtehpcclfgjccbaaDoorMSheetAll3
import Derived.Test.YtehpcclfgjccbaaDoorMSheetAll4
namespace Go.Proofs.YtehpcclfgjccbaaDoor
set_option linter.unusedSimpArgs false
set_option linter.unusedVariables false
open Go.RowKit
theorem Tryd.info28 : (Tryd.prog.info? 28).map (fun i => (i.zero, i.size, i.bytes)) = some (some (.slice none 0 0), 1, 24) := by kernel_rfl
def ElsT (LL : List TE) (I : List (Nat × BA)) : Prop := ∀ x ∈ LL, ∃ b o, ∀ (w : World) (ex : Nat → Prop), Sp w ex I x.2.1 x.1.length 3 b o (tc x.1)
theorem ElsT.mono {LL : List TE} {I J : List (Nat × BA)} (h : ElsT LL I) (hI : I.Sublist J) : ElsT LL J := fun x hx => by
 obtain ⟨b, o, h1⟩ := h x hx
 exact ⟨b, o, fun w ex => (h1 w ex).mono hI⟩
theorem ElsT.snoc {LL : List TE} {I : List (Nat × BA)} {e g c c' : Nat} {l : List Spt} (h : ElsT LL I) : ElsT (LL ++ [(l, some ⟨g, 0, none⟩, c)]) (I ++ [(g, .row e 3 l.length (tc l) c')]) := fun x hx => by
 rcases List.mem_append.1 hx with hx | hx
 ·exact h.mono (Zsl _ _) x hx
 ·rw [List.mem_singleton.1 hx]
  exact ⟨g, 0, fun w ex => (Sp.row (tc_length _)).mono (Zsq _ _)⟩
theorem ltV_len (l : List TE) : (ltV l).length = l.length := by simp [ltV]
theorem ltV_snoc (l : List TE) (x : List Spt) (B : Option Addr) (c : Nat) : ltV l ++ [.slice B x.length c] = ltV (l ++ [(x, B, c)]) := by simp [ltV]
theorem tc_app (l r : List Spt) : tc l ++ tc r = tc (l ++ r) := by simp [tc]
theorem pow32k {i : Nat} (h : i ≤ 2) : 32 ^ i ≤ 1024 := Nat.pow_le_pow_right (n := 32) (by omega) h
theorem stg_next {P : Nat → List Spt → Bool} {EL : List Spt} {LT : List TE} {i : Nat} (h : LT.map (·.1) = stg P EL i) : stg P EL (i + 1) = (LT.take LT.length).flatMap fun x => extS (P (i + 1)) x.1 EL := by
 rw [List.take_length]
 show (stg P EL i).flatMap _ = _
 rw [← h, List.flatMap_map]
theorem fm_snoc {P : List Spt → Bool} {EL : List Spt} {LT : List TE} {k : Nat} {x : TE} (h : LT[k]? = some x) : ((LT.take (k + 1)).flatMap fun x => extS P x.1 EL) = ((LT.take k).flatMap fun x => extS P x.1 EL) ++ extS P x.1 (EL.take EL.length) := by
 rw [List.take_add_one, h, List.flatMap_append, List.take_length]
 simp
theorem Mem.dropL {w0 w : World} {ex : Nat → Prop} {K A B C D : List (Nat × BA)} (M : Mem w0 ex w (K ++ (A ++ B ++ C ++ D))) : Mem w0 ex w (K ++ (A ++ (C ++ D))) :=
 M.sub ((List.Sublist.refl K).append (by rw [List.append_assoc (A ++ B)]; exact (Zsl A B).append (List.Sublist.refl _)))
set_option maxRecDepth 100000 in
set_option maxHeartbeats 4000000 in
theorem SheetAll_any (D : Option Addr) (n d : Nat) (l : List Int) (w : World) (hl : Rd w w.heap.size 1 D n (ic l)) (hm : n ≤ 9223372036854775807) (hT : TabW w) :
   Calls Tryd.prog 4 #[.slice D n d] w fun e w' => e = .returned (.bool true) ∧ Below w.heap.size w w' := by
 have hll := hl.len1
 obtain ⟨bI, oI, SI⟩ := Sp.old hl
 refine Zpx noEx Tryd.func4 rfl 130 rfl [.slice D n d] rfl rfl (Mem.init w _) ?_
 intro ac wc T M
 refine Zsr ?_
 refine lq T (Zra rfl evc) ?_; clear T ac; intro ac T
 refine wpList_nil ?_
 replace T := T.pick [1] rfl
 refine nm_then ?_
 refine Zsr ?_
 refine lq T (Zrm rfl (T.e 0 rfl)) ?_; clear T ac; intro ac T
 refine Zl2 ?_
 refine Zoc (first := []) (cap := []) T rfl rfl rfl rfl evf (.cons (T.e 0 rfl) .nil) Tryd.func18 rfl rfl ?_
 refine Calls.mono (newPot_any _ _ _ l _ (SI.rd M (List.nil_sublist _)) (by omega)) ?_
 clear T; rintro e wc ⟨bpu1, su1, hsu1, rfl, N⟩ ac T
 replace M := M.join N; clear N
 replace M := M.mask [true] rfl
 refine lq T (Zra rfl (T.e 0 rfl)) ?_; clear T ac; intro ac T
 refine wpList_nil ?_
 replace T := T.pick [0] rfl
 refine nm_then ?_
 refine Zsr ?_
 refine lq T (Zrm rfl (T.e 0 rfl)) ?_; clear T ac; intro ac T
 refine Zl2 ?_
 refine Zoc (first := []) (cap := []) T rfl rfl rfl rfl evf (.cons (T.e 0 rfl) (.cons evc (.cons evc .nil))) Tryd.func19 rfl rfl ?_
 refine Calls.mono (sheetOf_any _ bpu1 4 2 _ (by omega) (by omega) (M.nth 0 rfl) hsu1) ?_
 clear T; rintro e wc ⟨sa, AKu2, cKu2, sdu2, IKu2, rfl, hsgsa, ⟨⟨hblsa, hbwsa⟩, hbpsa⟩, hsu2, hcpKu2, SVKu2, N⟩ ac T
 obtain ⟨bAKu2, oAKu2, SVKu2⟩ := SVKu2
 have SAKu2 := SVKu2 w noEx
 replace M := M.joinEI N .head
 clear N
 replace M : Mem w noEx wc ((bpu1, .cells [.int .u64 sdu2]) :: IKu2) := M
 have hlnsa := hsgsa.len
 obtain ⟨hg1sa, hg2sa, hg3sa, hg4sa, -, -⟩ := id hsgsa
 refine Zl2 ?_
 refine Zoa M T rfl rfl rfl rfl ?_; clear M T; intro g1 wc ac M T
 refine Zl2 ?_
 refine Zos M T rfl rfl (T.e 0 rfl) (T.e 1 rfl) rfl .head rfl (by simp) rfl (by kernel_rfl) ?_; clear M T; intro wc ac M T
 refine wpList_nil ?_
 replace T := T.pick [0, 3] rfl
 refine nm_then ?_
 refine cut_seq (fun ac wc => ∃ (s : Sk) (AK : Option Addr) (cK : Nat) (IK : List (Nat × BA)) (sp9 : Int), s.good ∧ (s.lo ≤ 4) ∧ (s.wi ≤ 4) ∧ (s.ps.length ≤ 3) ∧ (s.ps.length ≤ cK) ∧ (u64ok sp9) ∧ (∃ b o, ∀ (w : World) (ex : Nat → Prop), Sp w ex IK AK s.ps.length 4 b o (pc s.ps)) ∧ Tm ac 130 [(3, .pointer (some ⟨bpu1, 0, none⟩)), (4, .pointer (some ⟨g1, 0, none⟩))] ∧ Mem w noEx wc ((g1, .cells [.int .i64 s.lo, .int .i64 s.wi, .int .i64 s.a0, .int .i64 s.a1, .int .i64 s.c0, .int .i64 s.c1, .slice AK s.ps.length cK]) :: (bpu1, .cells [.int .u64 sp9]) :: IK)) ?_ ?_
 ·refine Zsr ?_
  refine lq T (Zrm rfl (T.e 1 rfl)) ?_; clear T ac; intro ac T
  refine Zl2 ?_
  refine Zoc (first := []) (cap := []) T rfl rfl rfl rfl evf (.cons (T.e 0 rfl) (.cons evc (.cons evc .nil))) Tryd.func23 rfl rfl ?_
  refine Calls.mono (odds_any _ bpu1 1 3 _ (by omega) (by omega) (M.nth 1 rfl) hsu2) ?_
  clear T; rintro e wc ⟨bu3, su3, hsu3, rfl, hgr, hbk⟩ ac T
  replace M := M.callC (cs' := [.int .u64 su3]) (.tail .head) hgr hbk
  clear hgr hbk
  refine wpList_nil ?_
  replace T := T.pick [0, 2, 3] rfl
  refine nm_then ?_
  refine wp_cond_split (T.e 0 rfl) ?_ ?_
  ·intro h1
   refine wp_region_lit ?_
   refine lq T (Zrm rfl (T.e 2 rfl)) ?_; clear T ac; intro ac T
   refine Zl2 ?_
   refine Zoc (first := []) (cap := []) T rfl rfl rfl rfl evf (.cons (T.e 0 rfl) (.cons evc (.cons evc .nil))) Tryd.func19 rfl rfl ?_
   refine Calls.mono (sheetOf_any _ bpu1 3 3 _ (by omega) (by omega) (M.nth 1 rfl) hsu3) ?_
   clear T; rintro e wc ⟨sb, AKu4, cKu4, sdu4, IKu4, rfl, hsgsb, ⟨⟨hblsb, hbwsb⟩, hbpsb⟩, hsu4, hcpKu4, SVKu4, N⟩ ac T
   obtain ⟨bAKu4, oAKu4, SVKu4⟩ := SVKu4
   have SAKu4 := SVKu4 w noEx
   replace M := M.joinEI N (.tail .head)
   clear N
   replace M : Mem w noEx wc ((g1, .cells [.int .i64 sa.lo, .int .i64 sa.wi, .int .i64 sa.a0, .int .i64 sa.a1, .int .i64 sa.c0, .int .i64 sa.c1, .slice AKu2 sa.ps.length cKu2]) :: (bpu1, .cells [.int .u64 sdu4]) :: (IKu2 ++ IKu4)) := M
   have hlnsb := hsgsb.len
   obtain ⟨hg1sb, hg2sb, hg3sb, hg4sb, -, -⟩ := id hsgsb
   refine Zl2 ?_
   refine Zos M T rfl rfl (T.e 3 rfl) (T.e 0 rfl) rfl .head rfl (by simp) rfl (by kernel_rfl) ?_; clear M T; intro wc ac M T
   refine wpList_nil ?_
   replace T := T.pick [3, 4] rfl
   exact ⟨sb, _, _, (IKu2 ++ IKu4), sdu4, hsgsb, (by omega), (by omega), (by omega), hcpKu4, hsu4, ⟨_, _, fun w ex => (SVKu4 w ex).mono (Zsq _ _)⟩, T.pick [1, 0] rfl, M⟩
  intro h1
  refine wp_skip ?_
  exact ⟨sa, _, _, (IKu2), su3, hsgsa, (by omega), (by omega), (by omega), hcpKu2, hsu3, ⟨_, _, fun w ex => (SVKu2 w ex).mono (List.Sublist.refl _)⟩, T.pick [2, 1] rfl, M⟩
 clear T M
 rintro ac wc ⟨s, AK, cK, IK, sp9, hsg, hl4, hl5, hp3, hcK, hsp, hKS, T, M⟩
 obtain ⟨bAK, oAK, SVK⟩ := hKS
 have SAK := SVK w noEx
 obtain ⟨⟨l1, l2⟩, ⟨w1, w2⟩, -⟩ := id hsg
 obtain ⟨lo9, hlo9⟩ : ∃ k : Nat, s.lo = (k : Int) := ⟨s.lo.toNat, by omega⟩
 obtain ⟨wi9, hwi9⟩ : ∃ k : Nat, s.wi = (k : Int) := ⟨s.wi.toNat, by omega⟩
 refine Zsr ?_
 refine lq T (Zrm rfl (T.e 0 rfl)) ?_; clear T ac; intro ac T
 refine Zl2 ?_
 refine Zoc (first := []) (cap := []) T rfl rfl rfl rfl evf (.cons (T.e 0 rfl) (.cons evc (.cons evc .nil))) Tryd.func23 rfl rfl ?_
 refine Calls.mono (odds_any _ bpu1 1 2 _ (by omega) (by omega) (M.nth 1 rfl) hsp) ?_
 clear T; rintro e wc ⟨bu5, su5, hsu5, rfl, hgr, hbk⟩ ac T
 replace M := M.callC (cs' := [.int .u64 su5]) (.tail .head) hgr hbk
 clear hgr hbk
 refine lq T (Zra rfl (T.e 0 rfl)) ?_; clear T ac; intro ac T
 refine wpList_nil ?_
 replace T := T.pick [0, 3, 4] rfl
 refine nm_then ?_
 refine Zsr ?_
 refine Zg4 (v2 := (.pointer (some ⟨g1, 6, none⟩))) T (Zq (Zrm rfl (T.e 1 rfl))) rfl (Zf 6 3 rfl rfl) rfl (Zo M 0 0 rfl rfl rfl rfl) rfl (Zl Tryd.underlying24 0 rfl rfl) rfl ?_; clear T ac; intro ac T
 refine Zl2 ?_
 refine Zoc (first := []) (cap := []) T rfl rfl rfl rfl evf (.cons (T.e 3 rfl) (.cons (T.e 0 rfl) .nil)) Tryd.func20 rfl rfl ?_
 refine Calls.mono (mix_any _ bpu1 s.ps.length _ (by omega) (M.nth 1 rfl) hsu5) ?_
 clear T; rintro e wc ⟨lxu6, AXu6, cXu6, sdu6, IXu6, rfl, hixu6, hsu6, hcpXu6, SVXu6, N⟩ ac T
 obtain ⟨bAXu6, oAXu6, SVXu6⟩ := SVXu6
 have SAXu6 := SVXu6 w noEx
 replace M := M.joinEI N (.tail .head)
 clear N
 replace M : Mem w noEx wc ((g1, .cells [.int .i64 s.lo, .int .i64 s.wi, .int .i64 s.a0, .int .i64 s.a1, .int .i64 s.c0, .int .i64 s.c1, .slice AK s.ps.length cK]) :: (bpu1, .cells [.int .u64 sdu6]) :: (IK ++ IXu6)) := M
 refine lq T (Zra rfl (T.e 0 rfl)) ?_; clear T ac; intro ac T
 refine wpList_nil ?_
 replace T := T.pick [0, 6, 8] rfl
 replace M := M.mask [true, false] rfl
 refine nm_then ?_
 refine Zsr ?_
 refine lq T (Zra rfl evc) ?_; clear T ac; intro ac T
 refine Zln ?_
 refine wp_seq ?_
 refine Zsr ?_
 refine lq T (Zra rfl evc) ?_; clear T ac; intro ac T
 refine Zln ?_
 refine wp_block ?_
 refine wp_loop_n (fun mz ac wc => ∃ (x : Nat) (OL : List Spt) (A3 : Option Addr) (c3 : Nat) (Io : List (Nat × BA)), mz = lo9 - x ∧ (x ≤ lo9) ∧ (OL = spotsX wi9 x) ∧ (Sl 30 3 (.slice A3 OL.length c3) OL.length (tc OL) Io) ∧ Tm ac 130 [(4, .pointer (some ⟨g1, 0, none⟩)), (5, .bool bu5), (6, .slice AXu6 lxu6.length cXu6), (7, .slice A3 OL.length c3), (8, .int .i64 (x : Int))] ∧ Mem w noEx wc ((g1, .cells [.int .i64 s.lo, .int .i64 s.wi, .int .i64 s.a0, .int .i64 s.a1, .int .i64 s.c0, .int .i64 s.c1, .slice AK s.ps.length cK]) :: (IK ++ IXu6 ++ Io))) ?_ ?_
 ·exact ⟨_, 0, [], none, 0, [], rfl, (Nat.zero_le _), rfl, (Sl.nil _ _), T.pick [4, 3, 2, 1, 0] rfl, (by simp only [List.append_nil]; exact M)⟩
 clear T M
 rintro mz ac wc ⟨x, OL, A3, c3, Io, hmm1, hx, hO, hsl, T, M⟩
 refine wp_seq ?_
 refine Zsr ?_
 refine Zg4 (v2 := (.pointer (some ⟨g1, 0, none⟩))) T (Zq (Zrm rfl (T.e 4 rfl))) rfl (Zf 0 1 rfl rfl) rfl (Zo M 0 0 rfl rfl rfl rfl) rfl (fun _ T => Zq (rn_lss rfl (T.e 2 rfl) (T.e 0 rfl))) rfl ?_; clear T ac; intro ac T
 refine wpList_nil ?_
 replace T := T.pick [0, 4, 5, 6, 7, 8] rfl
 refine nm_then ?_
 refine wp_if (T.e 0 rfl) ?_ ?_
 ·intro h2
  refine Zsk ?_
  refine wp_seq ?_
  refine wp_block ?_
  refine Zsr ?_
  refine lq T (Zra rfl evc) ?_; clear T ac; intro ac T
  refine wpList_nil ?_
  replace T := T.pick [0, 2, 3, 4, 5, 6] rfl
  refine nm_then ?_
  refine wp_block ?_
  refine wp_loop_n (fun mz ac wc => ∃ (y : Nat) (OM : List Spt) (A4 : Option Addr) (c4 : Nat) (Ip : List (Nat × BA)), mz = wi9 - y ∧ (y ≤ wi9) ∧ (OM = spotsX wi9 x ++ spotsY (x : Int) y) ∧ (OM.length ≤ 64) ∧ (Sl 30 3 (.slice A4 OM.length c4) OM.length (tc OM) Ip) ∧ Tm ac 130 [(4, .pointer (some ⟨g1, 0, none⟩)), (5, .bool bu5), (6, .slice AXu6 lxu6.length cXu6), (7, .slice A4 OM.length c4), (8, .int .i64 (x : Int)), (9, .int .i64 (y : Int))] ∧ Mem w noEx wc ((g1, .cells [.int .i64 s.lo, .int .i64 s.wi, .int .i64 s.a0, .int .i64 s.a1, .int .i64 s.c0, .int .i64 s.c1, .slice AK s.ps.length cK]) :: (IK ++ IXu6 ++ Ip))) ?_ ?_
  ·exact ⟨_, 0, OL, _, _, Io, rfl, (Nat.zero_le _), (by rw [hO]; simp [spotsY]), (by rw [hO, spotsX_len]; exact Nat.le_trans (Nat.mul_le_mul (show x ≤ 4 by omega) (show 2 * wi9 ≤ 8 by omega)) (by omega)), hsl, T.pick [1, 2, 3, 4, 5, 0] rfl, M.mask [true] rfl⟩
  clear T M
  rintro mz ac wc ⟨y, OM, A4, c4, Ip, hmm2, hy, hOM, hml, hsm, T, M⟩
  refine wp_seq ?_
  refine Zsr ?_
  refine Zg4 (v2 := (.pointer (some ⟨g1, 1, none⟩))) T (Zq (Zrm rfl (T.e 5 rfl))) rfl (Zf 1 1 rfl rfl) rfl (Zo M 0 0 rfl rfl rfl rfl) rfl (fun _ T => Zq (rn_lss rfl (T.e 2 rfl) (T.e 0 rfl))) rfl ?_; clear T ac; intro ac T
  refine wpList_nil ?_
  replace T := T.pick [0, 4, 5, 6, 7, 8, 9] rfl
  refine nm_then ?_
  refine wp_if (T.e 0 rfl) ?_ ?_
  ·intro h3
   refine Zsk ?_
   refine wp_seq ?_
   refine wp_block ?_
   refine wp_region_lit ?_
   refine Zg3 T (Zq (Zrm rfl (T.e 4 rfl))) rfl (Zm 6 rfl rfl) rfl (Zm 8 rfl rfl) rfl ?_; clear T ac; intro ac T
   refine Zl2 ?_
   refine Zoc (first := []) (cap := []) T rfl rfl rfl rfl evf (.cons (T.e 1 rfl) (.cons (T.e 0 rfl) (.cons evc .nil))) Tryd.func32 rfl rfl ?_
   refine Calls.mono (spot8_any (x : Int) (y : Int) false _) ?_
   clear T; rintro e wc ⟨rfl, hb⟩ ac T
   replace M := M.call hb; clear hb
   refine Zg2 T (Zq (Zrm rfl (T.e 9 rfl))) rfl (Zm 11 rfl rfl) rfl ?_; clear T ac; intro ac T
   refine Zl2 ?_
   refine Zoc (first := []) (cap := []) T rfl rfl rfl rfl evf (.cons (T.e 1 rfl) (.cons (T.e 0 rfl) (.cons evc .nil))) Tryd.func32 rfl rfl ?_
   refine Calls.mono (spot8_any (x : Int) (y : Int) true _) ?_
   clear T; rintro e wc ⟨rfl, hb⟩ ac T
   replace M := M.call hb; clear hb
   refine Zl2 ?_
   refine ow_bs (e := 30) [.int .i64 (x : Int), .int .i64 (y : Int), .bool false, .int .i64 (x : Int), .int .i64 (y : Int), .bool true] M T rfl rfl rfl rfl (.cons (T.e 3 rfl) (.cons (T.e 0 rfl) .nil)) (fun _ => by kernel_rfl) ?_; clear M T; intro g2 wc ac M T
   refine Zl2 ?_
   refine ow_appV (((g2, .cells [.int .i64 (x : Int), .int .i64 (y : Int), .bool false, .int .i64 (x : Int), .int .i64 (y : Int), .bool true]) :: (g1, .cells [.int .i64 s.lo, .int .i64 s.wi, .int .i64 s.a0, .int .i64 s.a1, .int .i64 s.c0, .int .i64 s.c1, .slice AK s.ps.length cK]) :: (IK ++ IXu6))) Tryd.info30 hsm M (by first | rfl | simp) T rfl rfl rfl rfl Tryd.underlying28 rfl rfl rfl (by omega) (by omega) (T.e 7 rfl) (T.e 0 rfl) (M.rdOwn (xs := tc [⟨(x : Int), (y : Int), false⟩, ⟨(x : Int), (y : Int), true⟩]) (Zne (i := 0) rfl) rfl rfl) (tc_one _) ?_; clear M T; intro ga1 cga1 wc ac M T
   have e9 : OM.length + 2 = (OM ++ ([⟨(x : Int), (y : Int), false⟩, ⟨(x : Int), (y : Int), true⟩] : List Spt)).length := by simp
   rw [e9, tc_app] at M
   rw [e9] at T
   clear e9
   refine l_q (v := (.slice (some ⟨ga1, 0, none⟩) ((OM ++ ([⟨(x : Int), (y : Int), false⟩, ⟨(x : Int), (y : Int), true⟩] : List Spt)).length) cga1)) (T.pick [0, 1, 2, 3, 4, 5, 6, 7, 8, 9, 10, 11, 12, 14, 15] rfl) rfl rfl rfl rfl (Zra rfl (T.e 0 rfl)) ?_; clear T ac; intro ac T
   refine wpList_nil ?_
   replace T := T.pick [0, 11, 12, 13, 14, 15] rfl
   replace M := M.mask [true, false, true] rfl
   refine Znb ?_
   refine nm_then ?_
   refine wp_region_lit ?_
   refine Zg2 T (Zq (Zrm rfl (T.e 5 rfl))) rfl (fun _ T => Zq (rn_add rfl (T.e 0 rfl) evc (by omega))) rfl ?_; clear T ac; intro ac T
   refine l_q (v := (.int .i64 ((y : Int) + 1))) (T.pick [0, 1, 2, 3, 4, 5, 6] rfl) rfl rfl rfl rfl (Zra rfl (T.e 0 rfl)) ?_; clear T ac; intro ac T
   refine wpList_nil ?_
   replace T := T.pick [0, 3, 4, 5, 6, 7] rfl
   refine nm_then ?_
   exact ⟨_, by omega, y + 1, (OM ++ ([⟨(x : Int), (y : Int), false⟩, ⟨(x : Int), (y : Int), true⟩] : List Spt)), _, _, [(ga1, .row 30 3 (OM ++ ([⟨(x : Int), (y : Int), false⟩, ⟨(x : Int), (y : Int), true⟩] : List Spt)).length (tc (OM ++ ([⟨(x : Int), (y : Int), false⟩, ⟨(x : Int), (y : Int), true⟩] : List Spt))) cga1)], rfl, (by omega), (by rw [hOM, spotsY_succ, List.append_assoc]), (by rw [hOM, List.append_assoc, ← spotsY_succ, List.length_append, spotsX_len, spotsY_len]; have := Nat.mul_le_mul (show x ≤ 3 by omega) (show 2 * wi9 ≤ 8 by omega); omega), (Sl.row _ _ _ _ _ _), T.pick [2, 3, 4, 1, 5, 0] rfl, (Mem.swapI (I := [(ga1, .row 30 3 (OM ++ ([⟨(x : Int), (y : Int), false⟩, ⟨(x : Int), (y : Int), true⟩] : List Spt)).length (tc (OM ++ ([⟨(x : Int), (y : Int), false⟩, ⟨(x : Int), (y : Int), true⟩] : List Spt))) cga1)]) (L := ((g1, .cells [.int .i64 s.lo, .int .i64 s.wi, .int .i64 s.a0, .int .i64 s.a1, .int .i64 s.c0, .int .i64 s.c1, .slice AK s.ps.length cK]) :: (IK ++ IXu6))) (M.permT [0, 1] 2 rfl rfl rfl rfl))⟩
  intro h3
  refine wp_exit ?_
  refine Zet ?_
  refine Zet ?_
  refine ex_hit ?_
  refine Znb ?_
  refine nm_then ?_
  refine wp_region_lit ?_
  refine Zg2 T (Zq (Zrm rfl (T.e 5 rfl))) rfl (fun _ T => Zq (rn_add rfl (T.e 0 rfl) evc (by omega))) rfl ?_; clear T ac; intro ac T
  refine l_q (v := (.int .i64 ((x : Int) + 1))) (T.pick [0, 1, 2, 3, 4, 5, 6, 8] rfl) rfl rfl rfl rfl (Zra rfl (T.e 0 rfl)) ?_; clear T ac; intro ac T
  refine wpList_nil ?_
  replace T := T.pick [0, 4, 5, 6, 7] rfl
  refine nm_then ?_
  exact ⟨_, by omega, x + 1, OM, _, _, Ip, rfl, (by omega), (by rw [hOM, show y = wi9 by omega, ← spotsX_succ]), hsm, T.pick [1, 2, 3, 4, 0] rfl, M⟩
 intro h2
 obtain ⟨bEL, oEL, SVEL⟩ := hsl.spV (tc_length _)
 have SEL := SVEL w noEx
 have hO9 : OL = spotsX wi9 lo9 := by rw [hO, show x = lo9 by omega]
 have hE32 : OL.length ≤ 32 := by rw [hO9, spotsX_len]; exact Nat.le_trans (Nat.mul_le_mul (show lo9 ≤ 4 by omega) (show 2 * wi9 ≤ 8 by omega)) (by omega)
 refine wp_exit ?_
 refine Zet ?_
 refine Zet ?_
 refine ex_hit ?_
 refine nm_then ?_
 refine Zsr ?_
 refine Zl2 ?_
 refine ow_bs (e := 28) [.slice none 0 0] M T rfl rfl rfl rfl (.cons evc .nil) (fun _ => by kernel_rfl) ?_; clear M T; intro g3 wc ac M T
 refine lq T (Zra rfl (T.e 0 rfl)) ?_; clear T ac; intro ac T
 refine wpList_nil ?_
 replace T := T.pick [0, 3, 4, 5, 6] rfl
 refine Zns ?_
 refine Zsr ?_
 refine lq T (Zra rfl evc) ?_; clear T ac; intro ac T
 refine Zln ?_
 refine wp_block ?_
 obtain ⟨I0, hI0⟩ : ∃ I : List (Nat × BA), I = [(g3, .cells [.slice none 0 0])] := ⟨_, rfl⟩
 have SV0 : ∀ (w : World) (ex : Nat → Prop), Sp w ex I0 (some ⟨g3, 0, none⟩) 1 1 g3 0 (ltV [([], none, 0)]) := fun w ex => by rw [hI0]; exact Sp.cells (xs := ltV [([], none, 0)]) rfl
 have M9 := (Mem.swapI (I := [(g3, .cells [.slice none 0 0])]) (L := ((g1, .cells [.int .i64 s.lo, .int .i64 s.wi, .int .i64 s.a0, .int .i64 s.a1, .int .i64 s.c0, .int .i64 s.c1, .slice AK s.ps.length cK]) :: (IK ++ IXu6 ++ Io))) (M.permT [0, 1] 2 rfl rfl rfl rfl))
 clear M
 have M : Mem w noEx wc ((g1, .cells [.int .i64 s.lo, .int .i64 s.wi, .int .i64 s.a0, .int .i64 s.a1, .int .i64 s.c0, .int .i64 s.c1, .slice AK s.ps.length cK]) :: (IK ++ IXu6 ++ Io ++ I0)) := by rw [hI0]; exact M9
 clear M9 hI0
 refine wp_loop_n (fun mz ac wc => ∃ (i : Nat) (LT : List TE) (AL : Option Addr) (cL : Nat) (IL : List (Nat × BA)), mz = lxu6.length - i ∧ (i ≤ lxu6.length) ∧ (LT.map (·.1) = stg (aP s lxu6 bu5) OL i) ∧ (∃ b o, ∀ (w : World) (ex : Nat → Prop), Sp w ex IL AL LT.length 1 b o (ltV LT)) ∧ (ElsT LT IL) ∧ Tm ac 130 [(4, .pointer (some ⟨g1, 0, none⟩)), (5, .bool bu5), (6, .slice AXu6 lxu6.length cXu6), (7, .slice A3 OL.length c3), (10, .slice AL LT.length cL), (11, .int .i64 (i : Int))] ∧ Mem w noEx wc ((g1, .cells [.int .i64 s.lo, .int .i64 s.wi, .int .i64 s.a0, .int .i64 s.a1, .int .i64 s.c0, .int .i64 s.c1, .slice AK s.ps.length cK]) :: (IK ++ IXu6 ++ Io ++ IL))) ?_ ?_
 ·exact ⟨_, 0, [([], none, 0)], _, _, I0, rfl, (Nat.zero_le _), rfl, ⟨_, _, SV0⟩, (fun x hx => by rw [List.mem_singleton.1 hx]; exact ⟨0, 0, fun w ex => Sp.nil.mono (List.nil_sublist _)⟩), T.pick [2, 3, 4, 5, 1, 0] rfl, M.mask [true] rfl⟩
 clear T M
 rintro mz ac wc ⟨i, LT, AL, cL, IL, hmm3, hi, hLs, hLS, hLE, T, M⟩
 refine wp_seq ?_
 refine Zsr ?_
 refine Zg4 T (Zq (Zrm rfl (T.e 5 rfl))) rfl (Zm 3 rfl rfl) rfl (Zl Tryd.underlying27 0 rfl rfl) rfl (fun _ T => Zq (rn_lss rfl (T.e 2 rfl) (T.e 0 rfl))) rfl ?_; clear T ac; intro ac T
 refine wpList_nil ?_
 replace T := T.pick [0, 4, 5, 6, 7, 8, 9] rfl
 refine nm_then ?_
 refine wp_if (T.e 0 rfl) ?_ ?_
 ·intro h4
  obtain ⟨bLT, oLT, SVLT⟩ := hLS
  have SLT := SVLT w noEx
  have hLf : LT.length ≤ 1024 := by rw [← List.length_map (f := (·.1)), hLs]; exact Nat.le_trans (stg_few hE32 i) (pow32k (by have := hixu6.2; omega))
  refine Zsk ?_
  refine wp_seq ?_
  refine wp_block ?_
  refine Zsr ?_
  refine lq T (Zra rfl evc) ?_; clear T ac; intro ac T
  refine wpList_nil ?_
  replace T := T.pick [0, 2, 3, 4, 5, 6, 7] rfl
  refine Zns ?_
  refine Zsr ?_
  refine lq T (Zra rfl evc) ?_; clear T ac; intro ac T
  refine Zln ?_
  refine wp_block ?_
  refine wp_loop_n (fun mz ac wc => ∃ (k : Nat) (NL : List TE) (A5 : Option Addr) (c5 : Nat) (Ie In : List (Nat × BA)), mz = LT.length - k ∧ (k ≤ LT.length) ∧ (NL.map (·.1) = (LT.take k).flatMap fun x => extS ((aP s lxu6 bu5) (i + 1)) x.1 OL) ∧ (NL.length ≤ k * 32) ∧ (ElsT NL Ie) ∧ (Sl 28 1 (.slice A5 NL.length c5) NL.length (ltV NL) In) ∧ Tm ac 130 [(4, .pointer (some ⟨g1, 0, none⟩)), (5, .bool bu5), (6, .slice AXu6 lxu6.length cXu6), (7, .slice A3 OL.length c3), (10, .slice AL LT.length cL), (11, .int .i64 (i : Int)), (12, .slice A5 NL.length c5), (13, .int .i64 (k : Int))] ∧ Mem w noEx wc ((g1, .cells [.int .i64 s.lo, .int .i64 s.wi, .int .i64 s.a0, .int .i64 s.a1, .int .i64 s.c0, .int .i64 s.c1, .slice AK s.ps.length cK]) :: (IK ++ IXu6 ++ Io ++ IL ++ Ie ++ In))) ?_ ?_
  ·exact ⟨_, 0, [], none, 0, [], [], rfl, (Nat.zero_le _), rfl, (Nat.zero_le _), (fun x hx => by cases hx), (Sl.nil _ _), T.pick [2, 3, 4, 5, 6, 7, 1, 0] rfl, (by simp only [List.append_nil]; exact M)⟩
  clear T M
  rintro mz ac wc ⟨k, NL, A5, c5, Ie, In, hmm4, hk, hN, hNl, hNE, hsn, T, M⟩
  refine wp_seq ?_
  refine Zsr ?_
  refine Zg4 T (Zq (Zrm rfl (T.e 7 rfl))) rfl (Zm 5 rfl rfl) rfl (Zl Tryd.underlying44 0 rfl rfl) rfl (fun _ T => Zq (rn_lss rfl (T.e 2 rfl) (T.e 0 rfl))) rfl ?_; clear T ac; intro ac T
  refine wpList_nil ?_
  replace T := T.pick [0, 4, 5, 6, 7, 8, 9, 10, 11] rfl
  refine nm_then ?_
  refine wp_if (T.e 0 rfl) ?_ ?_
  ·intro h5
   obtain ⟨⟨l9, A9, c9⟩, hkl⟩ : ∃ x, LT[k]? = some x := ⟨_, List.getElem?_eq_getElem (by omega)⟩
   obtain ⟨b9, o9, SV9⟩ := hLE _ (List.mem_of_getElem? hkl)
   replace SV9 : ∀ (w : World) (ex : Nat → Prop), Sp w ex IL A9 l9.length 3 b9 o9 (tc l9) := SV9
   have S9 := SV9 w noEx
   have hl9 : l9.length = i := stg_size (P := (aP s lxu6 bu5)) (EL := OL) i l9 (by rw [← hLs]; exact List.mem_map.2 ⟨_, List.mem_of_getElem? hkl, rfl⟩)
   have hx3 := hixu6.2
   refine Zsk ?_
   refine wp_seq ?_
   refine wp_block ?_
   refine Zsr ?_
   refine lq T (Zra rfl evc) ?_; clear T ac; intro ac T
   refine wpList_nil ?_
   replace T := T.pick [0, 2, 3, 4, 5, 6, 7, 8, 9] rfl
   refine nm_then ?_
   refine wp_block ?_
   refine wp_loop_n (fun mz ac wc => ∃ (m : Nat) (NM : List TE) (A6 : Option Addr) (c6 : Nat) (If Iq : List (Nat × BA)), mz = OL.length - m ∧ (m ≤ OL.length) ∧ (NM.map (·.1) = ((LT.take k).flatMap fun x => extS ((aP s lxu6 bu5) (i + 1)) x.1 OL) ++ extS ((aP s lxu6 bu5) (i + 1)) l9 (OL.take m)) ∧ (NM.length ≤ k * 32 + m) ∧ (ElsT NM If) ∧ (Sl 28 1 (.slice A6 NM.length c6) NM.length (ltV NM) Iq) ∧ Tm ac 130 [(4, .pointer (some ⟨g1, 0, none⟩)), (5, .bool bu5), (6, .slice AXu6 lxu6.length cXu6), (7, .slice A3 OL.length c3), (10, .slice AL LT.length cL), (11, .int .i64 (i : Int)), (12, .slice A6 NM.length c6), (13, .int .i64 (k : Int)), (14, .int .i64 (m : Int))] ∧ Mem w noEx wc ((g1, .cells [.int .i64 s.lo, .int .i64 s.wi, .int .i64 s.a0, .int .i64 s.a1, .int .i64 s.c0, .int .i64 s.c1, .slice AK s.ps.length cK]) :: (IK ++ IXu6 ++ Io ++ IL ++ If ++ Iq))) ?_ ?_
   ·exact ⟨_, 0, NL, _, _, Ie, In, rfl, (Nat.zero_le _), (by rw [hN]; simp [extS]), (by omega), hNE, hsn, T.pick [1, 2, 3, 4, 5, 6, 7, 8, 0] rfl, M.mask [true] rfl⟩
   clear T M
   rintro mz ac wc ⟨m, NM, A6, c6, If, Iq, hmm5, hm, hNM, hNn, hFE, hsq2, T, M⟩
   refine wp_seq ?_
   refine Zsr ?_
   refine Zg4 T (Zq (Zrm rfl (T.e 8 rfl))) rfl (Zm 4 rfl rfl) rfl (Zl Tryd.underlying28 0 rfl rfl) rfl (fun _ T => Zq (rn_lss rfl (T.e 2 rfl) (T.e 0 rfl))) rfl ?_; clear T ac; intro ac T
   refine wpList_nil ?_
   replace T := T.pick [0, 4, 5, 6, 7, 8, 9, 10, 11, 12] rfl
   refine nm_then ?_
   refine wp_if (T.e 0 rfl) ?_ ?_
   ·intro h6
    obtain ⟨q, hkq, -⟩ := tc_next (l := OL) (k := m) (by omega)
    refine Zsk ?_
    refine wp_seq ?_
    refine wp_block ?_
    refine wp_seq ?_
    refine Zgs M M 13 (by kernel_rfl) rfl (by kernel_rfl) ?_
    clear M; intro wc M
    refine gq T 1 2 rfl (fun _ _ _ _ _ => (Zrm rfl (T.e 5 rfl))) ?_; clear T ac; intro ac T
    refine gq T 2 6 rfl (fun _ _ _ _ _ => (Zrm rfl (T.e 9 rfl))) ?_; clear T ac; intro ac T
    refine gq T 3 14 rfl (fun _ _ _ _ _ => (Zri (size := 1) k rfl (T.e 1 rfl) (T.e 0 rfl) ⟨_, Tryd.underlying44, by kernel_rfl⟩ rfl (by omega) (SLT.at0 (by omega)))) ?_; clear T ac; intro ac T
    refine gq (v := (.slice A9 l9.length c9)) T 4 30 rfl (fun B w' hD hl hS => (rn_cell (Sp.lt0 SLT (show Mem w noEx w' _ from hS) (.cons _ (subL (subL (Zsq _ _)))) hkl) rfl (T.e 0 rfl))) ?_; clear T ac; intro ac T
    refine gq T 6 94 rfl (fun _ _ _ _ _ => (Zrm rfl (T.e 8 rfl))) ?_; clear T ac; intro ac T
    refine gq T 7 222 rfl (fun _ _ _ _ _ => (Zrm rfl (T.e 14 rfl))) ?_; clear T ac; intro ac T
    refine gq T 8 478 rfl (fun _ _ _ _ _ => (Zri (size := 3) m rfl (T.e 1 rfl) (T.e 0 rfl) ⟨_, Tryd.underlying28, by kernel_rfl⟩ rfl (by omega) (SEL.at0 (by omega)))) ?_; clear T ac; intro ac T
    refine gq (v := (.agg #[.int .i64 q.x, .int .i64 q.y, .bool q.t])) T 9 990 rfl (fun B w' hD hl hS => (rn_rowat (Sp.tcR SEL (show Mem w noEx w' _ from hS) (.cons _ (subL (subL (subL (Zsq _ _))))) hkq) rfl (T.e 0 rfl) rfl)) ?_; clear T ac; intro ac T
    refine g_m2 (i := 0) (j := 10) (by kernel_rfl) ?_ ?_
    ·refine gi 991 ?_; intro K hK
     refine ow_bs0 (e := 30) M T rfl rfl rfl rfl (fun _ => by kernel_rfl) ?_; clear M T; intro gr26_0 wc ac M T
     refine Zso hK _ _ (M.mask [false, true] rfl) ?_; clear hK K
     refine g_m2 (i := 5) (j := 10) (by kernel_rfl) ?_ ?_
     ·refine gi 1023 ?_; intro K hK
      refine ow_appS Tryd.info30 M T rfl rfl rfl rfl (fun g w => Tryd.append0_28 _ _ g _ w) Tryd.underlying28 rfl rfl rfl (by omega) (T.e 0 rfl) (T.e 5 rfl) (S9.rd M (.cons _ (.cons _ (subL (subL (Zsq _ _)))))) (tc_one _) ?_; clear M T; intro Augo1 cugo1 Iugo1 wc ac hSmgo1 M T
      replace M : Mem w noEx wc ((g1, .cells [.int .i64 s.lo, .int .i64 s.wi, .int .i64 s.a0, .int .i64 s.a1, .int .i64 s.c0, .int .i64 s.c1, .slice AK s.ps.length cK]) :: (IK ++ IXu6 ++ Io ++ IL ++ If ++ Iq ++ Iugo1)) := M.swapI
      refine Zso hK _ _ ((M.mask [true] rfl).sub (List.Sublist.cons_cons _ (Zsl _ _))) ?_; clear hK K
      have hClgo1 : Cl 30 3 Augo1 l9.length cugo1 (tc l9) Iugo1 := .inr hSmgo1
      refine gw 10 2047 ?_; intro K hK
      refine ow_bs (e := 30) [.int .i64 q.x, .int .i64 q.y, .bool q.t] M T rfl rfl rfl rfl (.cons (T.e 2 rfl) .nil) (fun _ => by kernel_rfl) ?_; clear M T; intro gr26_10 wc ac M T
      refine Zso hK _ _ ((M.mask [false, true] rfl).sub (List.Sublist.cons_cons _ (Zsl _ _))) ?_; clear hK K
      refine gw 11 4095 ?_; intro K hK
      refine ow_appC (((gr26_10, .cells [.int .i64 q.x, .int .i64 q.y, .bool q.t]) :: (g1, .cells [.int .i64 s.lo, .int .i64 s.wi, .int .i64 s.a0, .int .i64 s.a1, .int .i64 s.c0, .int .i64 s.c1, .slice AK s.ps.length cK]) :: (IK ++ IXu6 ++ Io ++ IL ++ If ++ Iq))) Tryd.info30 hClgo1 M (by first | rfl | simp) T rfl rfl rfl rfl Tryd.underlying28 rfl rfl rfl (by omega) (T.e 1 rfl) (T.e 0 rfl) (Zne (i := 0) rfl) rfl rfl ?_; clear M T; intro ga2 cga2 wc ac M T
      refine Zso hK _ _ (M.mask [false, false, true] rfl) ?_; clear hK K
      have e9 : l9.length + 1 = (l9 ++ [q]).length := by simp
      have e8 : ((tc l9) ++ [.int .i64 q.x, .int .i64 q.y, .bool q.t]) = tc (l9 ++ [q]) := tc_snoc l9 q
      rw [e9, e8] at M
      rw [e9] at T
      clear e9 e8
      have hcm9 : (l9 ++ [q]).length ≤ cga2 := (Cl.row 30 3 ga2 _ _ (tc (l9 ++ [q]))).capLe M (List.Sublist.cons_cons _ (List.nil_sublist _))
      refine gq T 12 8191 rfl (fun _ _ _ _ _ => (Zra rfl (T.e 0 rfl))) ?_; clear T ac; intro ac T
      refine Zgd (by kernel_rfl) ?_
      replace T := T.pick [0, 14, 15, 16, 17, 18, 19, 20, 21, 22] rfl
      replace M := M.mask [true, false, true] rfl
      replace M : Mem w noEx wc ((ga2, .row 30 3 (l9 ++ [q]).length (tc (l9 ++ [q])) cga2) :: (g1, .cells [.int .i64 s.lo, .int .i64 s.wi, .int .i64 s.a0, .int .i64 s.a1, .int .i64 s.c0, .int .i64 s.c1, .slice AK s.ps.length cK]) :: (IK ++ IXu6 ++ Io ++ IL ++ If ++ Iq)) := M
      refine Zns ?_
      refine Zgs M (M.mask [true, true] rfl) 13 (by kernel_rfl) rfl (by kernel_rfl) ?_
      clear M; intro wc M
      refine gq T 0 1 rfl (fun B w' hD hl hS => (Zrr (Mem.nth (show Mem w noEx w' _ from hS) 1 rfl) rfl (T.e 1 rfl) rfl)) ?_; clear T ac; intro ac T
      refine gq T 1 3 rfl (fun _ _ _ _ _ => (Zrm rfl (T.e 4 rfl))) ?_; clear T ac; intro ac T
      refine gq T 2 7 rfl (fun _ _ _ _ _ => (Zrm rfl (T.e 8 rfl))) ?_; clear T ac; intro ac T
      refine gq T 3 15 rfl (fun _ _ _ _ _ => (rn_add rfl (T.e 0 rfl) evc (by omega))) ?_; clear T ac; intro ac T
      refine gq T 4 31 rfl (fun _ _ _ _ _ => (rn_slice (size := 1) (l := 0) (h := (i + 1)) rfl Tryd.underlying27 (by kernel_rfl) (T.e 2 rfl) rfl ((T.e 0 rfl).trans (congrArg (Value.int .i64) (by omega))) (by omega) (by omega))) ?_; clear T ac; intro ac T
      obtain ⟨Aq1, hAq1⟩ : ∃ q : Option Addr, q = (if cXu6 = 0 then AXu6 else Option.map (fun x : Addr => x.add (0 * 1)) AXu6) := ⟨_, rfl⟩
      rw [← hAq1] at T
      obtain ⟨lq1, hlq1⟩ : ∃ q, q = (lxu6.drop 0).take ((i + 1) - 0) := ⟨_, rfl⟩
      have nlq1 : lq1.length = (i + 1) - 0 := by rw [hlq1, List.length_take, List.length_drop]; (try simp only [List.length_cons, List.length_append, List.length_nil]); omega
      rw [← nlq1] at T
      have SAq1 : Sp w noEx IXu6 Aq1 lq1.length 1 bAXu6 (oAXu6 + 0 * 1) (ic lq1) := by rw [nlq1, hAq1, hlq1, ← ic_part]; exact SAXu6.sub (by omega) (by omega) (by omega)
      refine gq T 5 63 rfl (fun _ _ _ _ _ => (Zrm rfl (T.e 5 rfl))) ?_; clear T ac; intro ac T
      refine gq T 6 127 rfl (fun _ _ _ _ _ => (Zrm rfl (T.e 8 rfl))) ?_; clear T ac; intro ac T
      refine gw 7 255 ?_; intro K hK
      have hq9 : lq1 = lxu6.take (i + 1) := by rw [hlq1, List.drop_zero, Nat.sub_zero]
      refine Zoc (first := []) (cap := []) T rfl rfl rfl rfl evf (.cons (T.e 6 rfl) (.cons (T.e 2 rfl) (.cons (T.e 1 rfl) (.cons (T.e 0 rfl) .nil)))) Tryd.func27 rfl rfl ?_
      refine Calls.mono (Cuts_any s AK cK Aq1 (cXu6 - 0) lq1 (some ⟨ga2, 0, none⟩) cga2 (l9 ++ [q]) bu5 _ (SAK.rd M (.cons _ (.cons _ (subL (subL (subL (subL (subL (List.Sublist.refl _))))))))) (SAq1.rd M (.cons _ (.cons _ (subL (subL (subL (subL (Zsq _ _)))))))) (by omega) (by omega) (by omega) (M.rdRow (Zne (i := 0) rfl)) (by simp only [List.length_append, List.length_cons, List.length_nil]; omega)) ?_
      clear T; rintro e wc ⟨rfl, hb⟩ ac T
      obtain ⟨hE9, hV9⟩ := cuts_aP (su := bu5) (i := i + 1) (S := l9 ++ [q]) hsg hixu6.1.1 hixu6.1.2 (by omega) (by rw [List.length_append, hl9]; rfl)
      rw [← hq9] at hE9 hV9
      rw [hE9, hV9] at T
      replace M := M.call hb; clear hb
      refine Zso hK _ _ (M.mask [true, true] rfl) ?_; clear hK K
      refine gq T 8 511 rfl (fun _ _ _ _ _ => (Zrm rfl (T.e 0 rfl))) ?_; clear T ac; intro ac T
      refine gq T 9 1023 rfl (fun _ _ _ _ _ => (Zre rfl (T.e 0 rfl) rfl)) ?_; clear T ac; intro ac T
      refine gq T 10 2047 rfl (fun _ _ _ _ _ => (Zre rfl (T.e 1 rfl) rfl)) ?_; clear T ac; intro ac T
      refine gq T 11 4095 rfl (fun _ _ _ _ _ => (Zra rfl (T.e 1 rfl))) ?_; clear T ac; intro ac T
      refine gq T 12 8191 rfl (fun _ _ _ _ _ => (Zra rfl (T.e 1 rfl))) ?_; clear T ac; intro ac T
      refine Zgd (by kernel_rfl) ?_
      replace T := T.pick [0, 1, 13, 14, 15, 16, 17, 18, 19, 20, 21, 22] rfl
      refine Zns ?_
      refine Zsr ?_
      refine Zg2 (v2 := (.bool false)) T (Zq (Zrm rfl (T.e 0 rfl))) rfl (fun _ T => Zq (Zrq (rn_neq rfl (T.e 0 rfl) evc) (by simp))) rfl ?_; clear T ac; intro ac T
      refine wpList_nil ?_
      replace T := T.pick [0, 3, 4, 5, 6, 7, 8, 9, 10, 11, 12, 13] rfl
      refine nm_then ?_
      refine wp_cond_false (T.e 0 rfl) ?_
      refine Zsk ?_
      refine Zsr ?_
      refine lq T (Zrm rfl (T.e 1 rfl)) ?_; clear T ac; intro ac T
      refine wpList_nil ?_
      replace T := T.pick [0, 3, 4, 5, 6, 7, 8, 9, 10, 11, 12] rfl
      refine nm_then ?_
      refine wp_cond_split (T.e 0 rfl) ?_ ?_
      ·intro h7
       have hyes := h7
       refine wp_region_lit ?_
       refine Zg2 T (Zq (Zrm rfl (T.e 8 rfl))) rfl (Zm 2 rfl rfl) rfl ?_; clear T ac; intro ac T
       refine Zl2 ?_
       refine ow_bs (e := 28) [.slice (some ⟨ga2, 0, none⟩) ((l9 ++ [q]).length) cga2] M T rfl rfl rfl rfl (.cons (T.e 0 rfl) .nil) (fun _ => by kernel_rfl) ?_; clear M T; intro g4 wc ac M T
       refine Zl2 ?_
       refine ow_app (((g4, .cells [.slice (some ⟨ga2, 0, none⟩) ((l9 ++ [q]).length) cga2]) :: (ga2, .row 30 3 (l9 ++ [q]).length (tc (l9 ++ [q])) cga2) :: (g1, .cells [.int .i64 s.lo, .int .i64 s.wi, .int .i64 s.a0, .int .i64 s.a1, .int .i64 s.c0, .int .i64 s.c1, .slice AK s.ps.length cK]) :: (IK ++ IXu6 ++ Io ++ IL ++ If))) Tryd.info28 hsq2 M (by first | rfl | simp) T rfl rfl rfl rfl Tryd.underlying44 rfl rfl rfl (by omega) (T.e 2 rfl) (T.e 0 rfl) (Zne (i := 0) rfl) rfl rfl ?_; clear M T; intro ga3 cga3 wc ac M T
       refine l_q (v := (.slice (some ⟨ga3, 0, none⟩) (NM.length + 1) cga3)) (T.pick [0, 1, 2, 3, 4, 5, 6, 7, 8, 9, 10, 11, 13, 14] rfl) rfl rfl rfl rfl (Zra rfl (T.e 0 rfl)) ?_; clear T ac; intro ac T
       refine wpList_nil ?_
       replace T := T.pick [0, 7, 8, 9, 10, 11, 12, 13, 14] rfl
       replace M := M.mask [true, false, true, true] rfl
       replace M : Mem w noEx wc ((ga3, .row 28 1 (NM.length + 1) ((ltV NM) ++ [.slice (some ⟨ga2, 0, none⟩) ((l9 ++ [q]).length) cga2]) cga3) :: (ga2, .row 30 3 (l9 ++ [q]).length (tc (l9 ++ [q])) cga2) :: (g1, .cells [.int .i64 s.lo, .int .i64 s.wi, .int .i64 s.a0, .int .i64 s.a1, .int .i64 s.c0, .int .i64 s.c1, .slice AK s.ps.length cK]) :: (IK ++ IXu6 ++ Io ++ IL ++ If)) := M
       refine Znb ?_
       refine nm_then ?_
       refine wp_region_lit ?_
       refine Zg2 T (Zq (Zrm rfl (T.e 8 rfl))) rfl (fun _ T => Zq (rn_add rfl (T.e 0 rfl) evc (by omega))) rfl ?_; clear T ac; intro ac T
       refine l_q (v := (.int .i64 ((m : Int) + 1))) (T.pick [0, 1, 2, 3, 4, 5, 6, 7, 8, 9] rfl) rfl rfl rfl rfl (Zra rfl (T.e 0 rfl)) ?_; clear T ac; intro ac T
       refine wpList_nil ?_
       replace T := T.pick [0, 3, 4, 5, 6, 7, 8, 9, 10] rfl
       refine nm_then ?_
       have e9 : NM.length + 1 = (NM ++ [((l9 ++ [q]), (some ⟨ga2, 0, none⟩ : Option Addr), cga2)]).length := by simp
       rw [e9, ltV_snoc] at M
       rw [e9] at T
       clear e9
       exact ⟨_, by omega, m + 1, (NM ++ [((l9 ++ [q]), (some ⟨ga2, 0, none⟩ : Option Addr), cga2)]), _, _, (If ++ [(ga2, .row 30 3 (l9 ++ [q]).length (tc (l9 ++ [q])) cga2)]), [(ga3, .row 28 1 (NM ++ [((l9 ++ [q]), (some ⟨ga2, 0, none⟩ : Option Addr), cga2)]).length (ltV (NM ++ [((l9 ++ [q]), (some ⟨ga2, 0, none⟩ : Option Addr), cga2)])) cga3)], rfl, (by omega), (by rw [extS_snoc hkq, if_pos hyes, List.map_append, hNM, List.append_assoc]; rfl), (by simp only [List.length_append, List.length_cons, List.length_nil]; omega), hFE.snoc, (Sl.row _ _ _ _ _ _), T.pick [2, 3, 4, 5, 6, 7, 1, 8, 0] rfl, (by rw [← List.append_assoc (IK ++ IXu6 ++ Io ++ IL) If, List.append_assoc (IK ++ IXu6 ++ Io ++ IL ++ If)]; exact Mem.swapI (I := [(ga2, .row 30 3 (l9 ++ [q]).length (tc (l9 ++ [q])) cga2), (ga3, .row 28 1 (NM ++ [((l9 ++ [q]), (some ⟨ga2, 0, none⟩ : Option Addr), cga2)]).length (ltV (NM ++ [((l9 ++ [q]), (some ⟨ga2, 0, none⟩ : Option Addr), cga2)])) cga3)]) (L := ((g1, .cells [.int .i64 s.lo, .int .i64 s.wi, .int .i64 s.a0, .int .i64 s.a1, .int .i64 s.c0, .int .i64 s.c1, .slice AK s.ps.length cK]) :: (IK ++ IXu6 ++ Io ++ IL ++ If))) (M.permT [1, 0, 2] 3 rfl rfl rfl rfl))⟩
      intro h7
      have hno := h7
      refine wp_skip ?_
      refine Znb ?_
      refine nm_then ?_
      refine wp_region_lit ?_
      refine Zg2 T (Zq (Zrm rfl (T.e 10 rfl))) rfl (fun _ T => Zq (rn_add rfl (T.e 0 rfl) evc (by omega))) rfl ?_; clear T ac; intro ac T
      refine l_q (v := (.int .i64 ((m : Int) + 1))) (T.pick [0, 1, 2, 3, 4, 5, 6, 7, 8, 9, 10, 11] rfl) rfl rfl rfl rfl (Zra rfl (T.e 0 rfl)) ?_; clear T ac; intro ac T
      refine wpList_nil ?_
      replace T := T.pick [0, 5, 6, 7, 8, 9, 10, 11, 12] rfl
      refine nm_then ?_
      exact ⟨_, by omega, m + 1, NM, _, _, If, Iq, rfl, (by omega), (by rw [extS_snoc hkq, if_neg (by rw [hno]; decide), List.append_nil]; exact hNM), (by omega), hFE, hsq2, T.pick [1, 2, 3, 4, 5, 6, 7, 8, 0] rfl, (M.permT [1] 2 rfl rfl rfl rfl)⟩
     refine gi 2015 ?_; intro K hK
     refine ow_bs (e := 30) [.int .i64 q.x, .int .i64 q.y, .bool q.t] M T rfl rfl rfl rfl (.cons (T.e 1 rfl) .nil) (fun _ => by kernel_rfl) ?_; clear M T; intro gr26_10 wc ac M T
     refine Zso hK _ _ (M.mask [false, false, true] rfl) ?_; clear hK K
     refine gw 5 2047 ?_; intro K hK
     replace M : Mem w noEx wc ((gr26_0, .any fun o => o = .cells #[] 30) :: (gr26_10, .cells [.int .i64 q.x, .int .i64 q.y, .bool q.t]) :: (g1, .cells [.int .i64 s.lo, .int .i64 s.wi, .int .i64 s.a0, .int .i64 s.a1, .int .i64 s.c0, .int .i64 s.c1, .slice AK s.ps.length cK]) :: (IK ++ IXu6 ++ Io ++ IL ++ If ++ Iq)) := M.permT [1, 0, 2] 3 rfl rfl rfl rfl
     refine ow_appS Tryd.info30 M T rfl rfl rfl rfl (fun g w => Tryd.append0_28 _ _ g _ w) Tryd.underlying28 rfl rfl rfl (by omega) (T.e 1 rfl) (T.e 6 rfl) (S9.rd M (.cons _ (.cons _ (.cons _ (subL (subL (Zsq _ _))))))) (tc_one _) ?_; clear M T; intro Augo2 cugo2 Iugo2 wc ac hSmgo2 M T
     replace M : Mem w noEx wc ((gr26_10, .cells [.int .i64 q.x, .int .i64 q.y, .bool q.t]) :: (g1, .cells [.int .i64 s.lo, .int .i64 s.wi, .int .i64 s.a0, .int .i64 s.a1, .int .i64 s.c0, .int .i64 s.c1, .slice AK s.ps.length cK]) :: (IK ++ IXu6 ++ Io ++ IL ++ If ++ Iq ++ Iugo2)) := M.swapI
     refine Zso hK _ _ ((M.mask [false, true] rfl).sub (List.Sublist.cons_cons _ (Zsl _ _))) ?_; clear hK K
     have hClgo2 : Cl 30 3 Augo2 l9.length cugo2 (tc l9) Iugo2 := .inr hSmgo2
     refine gw 11 4095 ?_; intro K hK
     refine ow_appC (((gr26_10, .cells [.int .i64 q.x, .int .i64 q.y, .bool q.t]) :: (g1, .cells [.int .i64 s.lo, .int .i64 s.wi, .int .i64 s.a0, .int .i64 s.a1, .int .i64 s.c0, .int .i64 s.c1, .slice AK s.ps.length cK]) :: (IK ++ IXu6 ++ Io ++ IL ++ If ++ Iq))) Tryd.info30 hClgo2 M (by first | rfl | simp) T rfl rfl rfl rfl Tryd.underlying28 rfl rfl rfl (by omega) (T.e 0 rfl) (T.e 1 rfl) (Zne (i := 0) rfl) rfl rfl ?_; clear M T; intro ga4 cga4 wc ac M T
     refine Zso hK _ _ (M.mask [false, false, true] rfl) ?_; clear hK K
     have e9 : l9.length + 1 = (l9 ++ [q]).length := by simp
     have e8 : ((tc l9) ++ [.int .i64 q.x, .int .i64 q.y, .bool q.t]) = tc (l9 ++ [q]) := tc_snoc l9 q
     rw [e9, e8] at M
     rw [e9] at T
     clear e9 e8
     have hcm9 : (l9 ++ [q]).length ≤ cga4 := (Cl.row 30 3 ga4 _ _ (tc (l9 ++ [q]))).capLe M (List.Sublist.cons_cons _ (List.nil_sublist _))
     refine gq T 12 8191 rfl (fun _ _ _ _ _ => (Zra rfl (T.e 0 rfl))) ?_; clear T ac; intro ac T
     refine Zgd (by kernel_rfl) ?_
     replace T := T.pick [0, 14, 15, 16, 17, 18, 19, 20, 21, 22] rfl
     replace M := M.mask [true, false, true] rfl
     replace M : Mem w noEx wc ((ga4, .row 30 3 (l9 ++ [q]).length (tc (l9 ++ [q])) cga4) :: (g1, .cells [.int .i64 s.lo, .int .i64 s.wi, .int .i64 s.a0, .int .i64 s.a1, .int .i64 s.c0, .int .i64 s.c1, .slice AK s.ps.length cK]) :: (IK ++ IXu6 ++ Io ++ IL ++ If ++ Iq)) := M
     refine Zns ?_
     refine Zgs M (M.mask [true, true] rfl) 13 (by kernel_rfl) rfl (by kernel_rfl) ?_
     clear M; intro wc M
     refine gq T 0 1 rfl (fun B w' hD hl hS => (Zrr (Mem.nth (show Mem w noEx w' _ from hS) 1 rfl) rfl (T.e 1 rfl) rfl)) ?_; clear T ac; intro ac T
     refine gq T 1 3 rfl (fun _ _ _ _ _ => (Zrm rfl (T.e 4 rfl))) ?_; clear T ac; intro ac T
     refine gq T 2 7 rfl (fun _ _ _ _ _ => (Zrm rfl (T.e 8 rfl))) ?_; clear T ac; intro ac T
     refine gq T 3 15 rfl (fun _ _ _ _ _ => (rn_add rfl (T.e 0 rfl) evc (by omega))) ?_; clear T ac; intro ac T
     refine gq T 4 31 rfl (fun _ _ _ _ _ => (rn_slice (size := 1) (l := 0) (h := (i + 1)) rfl Tryd.underlying27 (by kernel_rfl) (T.e 2 rfl) rfl ((T.e 0 rfl).trans (congrArg (Value.int .i64) (by omega))) (by omega) (by omega))) ?_; clear T ac; intro ac T
     obtain ⟨Aq2, hAq2⟩ : ∃ q : Option Addr, q = (if cXu6 = 0 then AXu6 else Option.map (fun x : Addr => x.add (0 * 1)) AXu6) := ⟨_, rfl⟩
     rw [← hAq2] at T
     obtain ⟨lq2, hlq2⟩ : ∃ q, q = (lxu6.drop 0).take ((i + 1) - 0) := ⟨_, rfl⟩
     have nlq2 : lq2.length = (i + 1) - 0 := by rw [hlq2, List.length_take, List.length_drop]; (try simp only [List.length_cons, List.length_append, List.length_nil]); omega
     rw [← nlq2] at T
     have SAq2 : Sp w noEx IXu6 Aq2 lq2.length 1 bAXu6 (oAXu6 + 0 * 1) (ic lq2) := by rw [nlq2, hAq2, hlq2, ← ic_part]; exact SAXu6.sub (by omega) (by omega) (by omega)
     refine gq T 5 63 rfl (fun _ _ _ _ _ => (Zrm rfl (T.e 5 rfl))) ?_; clear T ac; intro ac T
     refine gq T 6 127 rfl (fun _ _ _ _ _ => (Zrm rfl (T.e 8 rfl))) ?_; clear T ac; intro ac T
     refine gw 7 255 ?_; intro K hK
     have hq9 : lq2 = lxu6.take (i + 1) := by rw [hlq2, List.drop_zero, Nat.sub_zero]
     refine Zoc (first := []) (cap := []) T rfl rfl rfl rfl evf (.cons (T.e 6 rfl) (.cons (T.e 2 rfl) (.cons (T.e 1 rfl) (.cons (T.e 0 rfl) .nil)))) Tryd.func27 rfl rfl ?_
     refine Calls.mono (Cuts_any s AK cK Aq2 (cXu6 - 0) lq2 (some ⟨ga4, 0, none⟩) cga4 (l9 ++ [q]) bu5 _ (SAK.rd M (.cons _ (.cons _ (subL (subL (subL (subL (subL (List.Sublist.refl _))))))))) (SAq2.rd M (.cons _ (.cons _ (subL (subL (subL (subL (Zsq _ _)))))))) (by omega) (by omega) (by omega) (M.rdRow (Zne (i := 0) rfl)) (by simp only [List.length_append, List.length_cons, List.length_nil]; omega)) ?_
     clear T; rintro e wc ⟨rfl, hb⟩ ac T
     obtain ⟨hE9, hV9⟩ := cuts_aP (su := bu5) (i := i + 1) (S := l9 ++ [q]) hsg hixu6.1.1 hixu6.1.2 (by omega) (by rw [List.length_append, hl9]; rfl)
     rw [← hq9] at hE9 hV9
     rw [hE9, hV9] at T
     replace M := M.call hb; clear hb
     refine Zso hK _ _ (M.mask [true, true] rfl) ?_; clear hK K
     refine gq T 8 511 rfl (fun _ _ _ _ _ => (Zrm rfl (T.e 0 rfl))) ?_; clear T ac; intro ac T
     refine gq T 9 1023 rfl (fun _ _ _ _ _ => (Zre rfl (T.e 0 rfl) rfl)) ?_; clear T ac; intro ac T
     refine gq T 10 2047 rfl (fun _ _ _ _ _ => (Zre rfl (T.e 1 rfl) rfl)) ?_; clear T ac; intro ac T
     refine gq T 11 4095 rfl (fun _ _ _ _ _ => (Zra rfl (T.e 1 rfl))) ?_; clear T ac; intro ac T
     refine gq T 12 8191 rfl (fun _ _ _ _ _ => (Zra rfl (T.e 1 rfl))) ?_; clear T ac; intro ac T
     refine Zgd (by kernel_rfl) ?_
     replace T := T.pick [0, 1, 13, 14, 15, 16, 17, 18, 19, 20, 21, 22] rfl
     refine Zns ?_
     refine Zsr ?_
     refine Zg2 (v2 := (.bool false)) T (Zq (Zrm rfl (T.e 0 rfl))) rfl (fun _ T => Zq (Zrq (rn_neq rfl (T.e 0 rfl) evc) (by simp))) rfl ?_; clear T ac; intro ac T
     refine wpList_nil ?_
     replace T := T.pick [0, 3, 4, 5, 6, 7, 8, 9, 10, 11, 12, 13] rfl
     refine nm_then ?_
     refine wp_cond_false (T.e 0 rfl) ?_
     refine Zsk ?_
     refine Zsr ?_
     refine lq T (Zrm rfl (T.e 1 rfl)) ?_; clear T ac; intro ac T
     refine wpList_nil ?_
     replace T := T.pick [0, 3, 4, 5, 6, 7, 8, 9, 10, 11, 12] rfl
     refine nm_then ?_
     refine wp_cond_split (T.e 0 rfl) ?_ ?_
     ·intro h8
      have hyes := h8
      refine wp_region_lit ?_
      refine Zg2 T (Zq (Zrm rfl (T.e 8 rfl))) rfl (Zm 2 rfl rfl) rfl ?_; clear T ac; intro ac T
      refine Zl2 ?_
      refine ow_bs (e := 28) [.slice (some ⟨ga4, 0, none⟩) ((l9 ++ [q]).length) cga4] M T rfl rfl rfl rfl (.cons (T.e 0 rfl) .nil) (fun _ => by kernel_rfl) ?_; clear M T; intro g5 wc ac M T
      refine Zl2 ?_
      refine ow_app (((g5, .cells [.slice (some ⟨ga4, 0, none⟩) ((l9 ++ [q]).length) cga4]) :: (ga4, .row 30 3 (l9 ++ [q]).length (tc (l9 ++ [q])) cga4) :: (g1, .cells [.int .i64 s.lo, .int .i64 s.wi, .int .i64 s.a0, .int .i64 s.a1, .int .i64 s.c0, .int .i64 s.c1, .slice AK s.ps.length cK]) :: (IK ++ IXu6 ++ Io ++ IL ++ If))) Tryd.info28 hsq2 M (by first | rfl | simp) T rfl rfl rfl rfl Tryd.underlying44 rfl rfl rfl (by omega) (T.e 2 rfl) (T.e 0 rfl) (Zne (i := 0) rfl) rfl rfl ?_; clear M T; intro ga5 cga5 wc ac M T
      refine l_q (v := (.slice (some ⟨ga5, 0, none⟩) (NM.length + 1) cga5)) (T.pick [0, 1, 2, 3, 4, 5, 6, 7, 8, 9, 10, 11, 13, 14] rfl) rfl rfl rfl rfl (Zra rfl (T.e 0 rfl)) ?_; clear T ac; intro ac T
      refine wpList_nil ?_
      replace T := T.pick [0, 7, 8, 9, 10, 11, 12, 13, 14] rfl
      replace M := M.mask [true, false, true, true] rfl
      replace M : Mem w noEx wc ((ga5, .row 28 1 (NM.length + 1) ((ltV NM) ++ [.slice (some ⟨ga4, 0, none⟩) ((l9 ++ [q]).length) cga4]) cga5) :: (ga4, .row 30 3 (l9 ++ [q]).length (tc (l9 ++ [q])) cga4) :: (g1, .cells [.int .i64 s.lo, .int .i64 s.wi, .int .i64 s.a0, .int .i64 s.a1, .int .i64 s.c0, .int .i64 s.c1, .slice AK s.ps.length cK]) :: (IK ++ IXu6 ++ Io ++ IL ++ If)) := M
      refine Znb ?_
      refine nm_then ?_
      refine wp_region_lit ?_
      refine Zg2 T (Zq (Zrm rfl (T.e 8 rfl))) rfl (fun _ T => Zq (rn_add rfl (T.e 0 rfl) evc (by omega))) rfl ?_; clear T ac; intro ac T
      refine l_q (v := (.int .i64 ((m : Int) + 1))) (T.pick [0, 1, 2, 3, 4, 5, 6, 7, 8, 9] rfl) rfl rfl rfl rfl (Zra rfl (T.e 0 rfl)) ?_; clear T ac; intro ac T
      refine wpList_nil ?_
      replace T := T.pick [0, 3, 4, 5, 6, 7, 8, 9, 10] rfl
      refine nm_then ?_
      have e9 : NM.length + 1 = (NM ++ [((l9 ++ [q]), (some ⟨ga4, 0, none⟩ : Option Addr), cga4)]).length := by simp
      rw [e9, ltV_snoc] at M
      rw [e9] at T
      clear e9
      exact ⟨_, by omega, m + 1, (NM ++ [((l9 ++ [q]), (some ⟨ga4, 0, none⟩ : Option Addr), cga4)]), _, _, (If ++ [(ga4, .row 30 3 (l9 ++ [q]).length (tc (l9 ++ [q])) cga4)]), [(ga5, .row 28 1 (NM ++ [((l9 ++ [q]), (some ⟨ga4, 0, none⟩ : Option Addr), cga4)]).length (ltV (NM ++ [((l9 ++ [q]), (some ⟨ga4, 0, none⟩ : Option Addr), cga4)])) cga5)], rfl, (by omega), (by rw [extS_snoc hkq, if_pos hyes, List.map_append, hNM, List.append_assoc]; rfl), (by simp only [List.length_append, List.length_cons, List.length_nil]; omega), hFE.snoc, (Sl.row _ _ _ _ _ _), T.pick [2, 3, 4, 5, 6, 7, 1, 8, 0] rfl, (by rw [← List.append_assoc (IK ++ IXu6 ++ Io ++ IL) If, List.append_assoc (IK ++ IXu6 ++ Io ++ IL ++ If)]; exact Mem.swapI (I := [(ga4, .row 30 3 (l9 ++ [q]).length (tc (l9 ++ [q])) cga4), (ga5, .row 28 1 (NM ++ [((l9 ++ [q]), (some ⟨ga4, 0, none⟩ : Option Addr), cga4)]).length (ltV (NM ++ [((l9 ++ [q]), (some ⟨ga4, 0, none⟩ : Option Addr), cga4)])) cga5)]) (L := ((g1, .cells [.int .i64 s.lo, .int .i64 s.wi, .int .i64 s.a0, .int .i64 s.a1, .int .i64 s.c0, .int .i64 s.c1, .slice AK s.ps.length cK]) :: (IK ++ IXu6 ++ Io ++ IL ++ If))) (M.permT [1, 0, 2] 3 rfl rfl rfl rfl))⟩
     intro h8
     have hno := h8
     refine wp_skip ?_
     refine Znb ?_
     refine nm_then ?_
     refine wp_region_lit ?_
     refine Zg2 T (Zq (Zrm rfl (T.e 10 rfl))) rfl (fun _ T => Zq (rn_add rfl (T.e 0 rfl) evc (by omega))) rfl ?_; clear T ac; intro ac T
     refine l_q (v := (.int .i64 ((m : Int) + 1))) (T.pick [0, 1, 2, 3, 4, 5, 6, 7, 8, 9, 10, 11] rfl) rfl rfl rfl rfl (Zra rfl (T.e 0 rfl)) ?_; clear T ac; intro ac T
     refine wpList_nil ?_
     replace T := T.pick [0, 5, 6, 7, 8, 9, 10, 11, 12] rfl
     refine nm_then ?_
     exact ⟨_, by omega, m + 1, NM, _, _, If, Iq, rfl, (by omega), (by rw [extS_snoc hkq, if_neg (by rw [hno]; decide), List.append_nil]; exact hNM), (by omega), hFE, hsq2, T.pick [1, 2, 3, 4, 5, 6, 7, 8, 0] rfl, (M.permT [1] 2 rfl rfl rfl rfl)⟩
    refine gi 2014 ?_; intro K hK
    refine ow_bs (e := 30) [.int .i64 q.x, .int .i64 q.y, .bool q.t] M T rfl rfl rfl rfl (.cons (T.e 0 rfl) .nil) (fun _ => by kernel_rfl) ?_; clear M T; intro gr26_10 wc ac M T
    refine Zso hK _ _ (M.mask [false, true] rfl) ?_; clear hK K
    refine gw 0 2015 ?_; intro K hK
    refine ow_bs0 (e := 30) M T rfl rfl rfl rfl (fun _ => by kernel_rfl) ?_; clear M T; intro gr26_0 wc ac M T
    refine Zso hK _ _ (M.mask [false, false, true] rfl) ?_; clear hK K
    refine gw 5 2047 ?_; intro K hK
    refine ow_appS Tryd.info30 M T rfl rfl rfl rfl (fun g w => Tryd.append0_28 _ _ g _ w) Tryd.underlying28 rfl rfl rfl (by omega) (T.e 0 rfl) (T.e 6 rfl) (S9.rd M (.cons _ (.cons _ (.cons _ (subL (subL (Zsq _ _))))))) (tc_one _) ?_; clear M T; intro Augo3 cugo3 Iugo3 wc ac hSmgo3 M T
    replace M : Mem w noEx wc ((gr26_10, .cells [.int .i64 q.x, .int .i64 q.y, .bool q.t]) :: (g1, .cells [.int .i64 s.lo, .int .i64 s.wi, .int .i64 s.a0, .int .i64 s.a1, .int .i64 s.c0, .int .i64 s.c1, .slice AK s.ps.length cK]) :: (IK ++ IXu6 ++ Io ++ IL ++ If ++ Iq ++ Iugo3)) := M.swapI
    refine Zso hK _ _ ((M.mask [false, true] rfl).sub (List.Sublist.cons_cons _ (Zsl _ _))) ?_; clear hK K
    have hClgo3 : Cl 30 3 Augo3 l9.length cugo3 (tc l9) Iugo3 := .inr hSmgo3
    refine gw 11 4095 ?_; intro K hK
    refine ow_appC (((gr26_10, .cells [.int .i64 q.x, .int .i64 q.y, .bool q.t]) :: (g1, .cells [.int .i64 s.lo, .int .i64 s.wi, .int .i64 s.a0, .int .i64 s.a1, .int .i64 s.c0, .int .i64 s.c1, .slice AK s.ps.length cK]) :: (IK ++ IXu6 ++ Io ++ IL ++ If ++ Iq))) Tryd.info30 hClgo3 M (by first | rfl | simp) T rfl rfl rfl rfl Tryd.underlying28 rfl rfl rfl (by omega) (T.e 0 rfl) (T.e 2 rfl) (Zne (i := 0) rfl) rfl rfl ?_; clear M T; intro ga6 cga6 wc ac M T
    refine Zso hK _ _ (M.mask [false, false, true] rfl) ?_; clear hK K
    have e9 : l9.length + 1 = (l9 ++ [q]).length := by simp
    have e8 : ((tc l9) ++ [.int .i64 q.x, .int .i64 q.y, .bool q.t]) = tc (l9 ++ [q]) := tc_snoc l9 q
    rw [e9, e8] at M
    rw [e9] at T
    clear e9 e8
    have hcm9 : (l9 ++ [q]).length ≤ cga6 := (Cl.row 30 3 ga6 _ _ (tc (l9 ++ [q]))).capLe M (List.Sublist.cons_cons _ (List.nil_sublist _))
    refine gq T 12 8191 rfl (fun _ _ _ _ _ => (Zra rfl (T.e 0 rfl))) ?_; clear T ac; intro ac T
    refine Zgd (by kernel_rfl) ?_
    replace T := T.pick [0, 14, 15, 16, 17, 18, 19, 20, 21, 22] rfl
    replace M := M.mask [true, false, true] rfl
    replace M : Mem w noEx wc ((ga6, .row 30 3 (l9 ++ [q]).length (tc (l9 ++ [q])) cga6) :: (g1, .cells [.int .i64 s.lo, .int .i64 s.wi, .int .i64 s.a0, .int .i64 s.a1, .int .i64 s.c0, .int .i64 s.c1, .slice AK s.ps.length cK]) :: (IK ++ IXu6 ++ Io ++ IL ++ If ++ Iq)) := M
    refine Zns ?_
    refine Zgs M (M.mask [true, true] rfl) 13 (by kernel_rfl) rfl (by kernel_rfl) ?_
    clear M; intro wc M
    refine gq T 0 1 rfl (fun B w' hD hl hS => (Zrr (Mem.nth (show Mem w noEx w' _ from hS) 1 rfl) rfl (T.e 1 rfl) rfl)) ?_; clear T ac; intro ac T
    refine gq T 1 3 rfl (fun _ _ _ _ _ => (Zrm rfl (T.e 4 rfl))) ?_; clear T ac; intro ac T
    refine gq T 2 7 rfl (fun _ _ _ _ _ => (Zrm rfl (T.e 8 rfl))) ?_; clear T ac; intro ac T
    refine gq T 3 15 rfl (fun _ _ _ _ _ => (rn_add rfl (T.e 0 rfl) evc (by omega))) ?_; clear T ac; intro ac T
    refine gq T 4 31 rfl (fun _ _ _ _ _ => (rn_slice (size := 1) (l := 0) (h := (i + 1)) rfl Tryd.underlying27 (by kernel_rfl) (T.e 2 rfl) rfl ((T.e 0 rfl).trans (congrArg (Value.int .i64) (by omega))) (by omega) (by omega))) ?_; clear T ac; intro ac T
    obtain ⟨Aq3, hAq3⟩ : ∃ q : Option Addr, q = (if cXu6 = 0 then AXu6 else Option.map (fun x : Addr => x.add (0 * 1)) AXu6) := ⟨_, rfl⟩
    rw [← hAq3] at T
    obtain ⟨lq3, hlq3⟩ : ∃ q, q = (lxu6.drop 0).take ((i + 1) - 0) := ⟨_, rfl⟩
    have nlq3 : lq3.length = (i + 1) - 0 := by rw [hlq3, List.length_take, List.length_drop]; (try simp only [List.length_cons, List.length_append, List.length_nil]); omega
    rw [← nlq3] at T
    have SAq3 : Sp w noEx IXu6 Aq3 lq3.length 1 bAXu6 (oAXu6 + 0 * 1) (ic lq3) := by rw [nlq3, hAq3, hlq3, ← ic_part]; exact SAXu6.sub (by omega) (by omega) (by omega)
    refine gq T 5 63 rfl (fun _ _ _ _ _ => (Zrm rfl (T.e 5 rfl))) ?_; clear T ac; intro ac T
    refine gq T 6 127 rfl (fun _ _ _ _ _ => (Zrm rfl (T.e 8 rfl))) ?_; clear T ac; intro ac T
    refine gw 7 255 ?_; intro K hK
    have hq9 : lq3 = lxu6.take (i + 1) := by rw [hlq3, List.drop_zero, Nat.sub_zero]
    refine Zoc (first := []) (cap := []) T rfl rfl rfl rfl evf (.cons (T.e 6 rfl) (.cons (T.e 2 rfl) (.cons (T.e 1 rfl) (.cons (T.e 0 rfl) .nil)))) Tryd.func27 rfl rfl ?_
    refine Calls.mono (Cuts_any s AK cK Aq3 (cXu6 - 0) lq3 (some ⟨ga6, 0, none⟩) cga6 (l9 ++ [q]) bu5 _ (SAK.rd M (.cons _ (.cons _ (subL (subL (subL (subL (subL (List.Sublist.refl _))))))))) (SAq3.rd M (.cons _ (.cons _ (subL (subL (subL (subL (Zsq _ _)))))))) (by omega) (by omega) (by omega) (M.rdRow (Zne (i := 0) rfl)) (by simp only [List.length_append, List.length_cons, List.length_nil]; omega)) ?_
    clear T; rintro e wc ⟨rfl, hb⟩ ac T
    obtain ⟨hE9, hV9⟩ := cuts_aP (su := bu5) (i := i + 1) (S := l9 ++ [q]) hsg hixu6.1.1 hixu6.1.2 (by omega) (by rw [List.length_append, hl9]; rfl)
    rw [← hq9] at hE9 hV9
    rw [hE9, hV9] at T
    replace M := M.call hb; clear hb
    refine Zso hK _ _ (M.mask [true, true] rfl) ?_; clear hK K
    refine gq T 8 511 rfl (fun _ _ _ _ _ => (Zrm rfl (T.e 0 rfl))) ?_; clear T ac; intro ac T
    refine gq T 9 1023 rfl (fun _ _ _ _ _ => (Zre rfl (T.e 0 rfl) rfl)) ?_; clear T ac; intro ac T
    refine gq T 10 2047 rfl (fun _ _ _ _ _ => (Zre rfl (T.e 1 rfl) rfl)) ?_; clear T ac; intro ac T
    refine gq T 11 4095 rfl (fun _ _ _ _ _ => (Zra rfl (T.e 1 rfl))) ?_; clear T ac; intro ac T
    refine gq T 12 8191 rfl (fun _ _ _ _ _ => (Zra rfl (T.e 1 rfl))) ?_; clear T ac; intro ac T
    refine Zgd (by kernel_rfl) ?_
    replace T := T.pick [0, 1, 13, 14, 15, 16, 17, 18, 19, 20, 21, 22] rfl
    refine Zns ?_
    refine Zsr ?_
    refine Zg2 (v2 := (.bool false)) T (Zq (Zrm rfl (T.e 0 rfl))) rfl (fun _ T => Zq (Zrq (rn_neq rfl (T.e 0 rfl) evc) (by simp))) rfl ?_; clear T ac; intro ac T
    refine wpList_nil ?_
    replace T := T.pick [0, 3, 4, 5, 6, 7, 8, 9, 10, 11, 12, 13] rfl
    refine nm_then ?_
    refine wp_cond_false (T.e 0 rfl) ?_
    refine Zsk ?_
    refine Zsr ?_
    refine lq T (Zrm rfl (T.e 1 rfl)) ?_; clear T ac; intro ac T
    refine wpList_nil ?_
    replace T := T.pick [0, 3, 4, 5, 6, 7, 8, 9, 10, 11, 12] rfl
    refine nm_then ?_
    refine wp_cond_split (T.e 0 rfl) ?_ ?_
    ·intro h9
     have hyes := h9
     refine wp_region_lit ?_
     refine Zg2 T (Zq (Zrm rfl (T.e 8 rfl))) rfl (Zm 2 rfl rfl) rfl ?_; clear T ac; intro ac T
     refine Zl2 ?_
     refine ow_bs (e := 28) [.slice (some ⟨ga6, 0, none⟩) ((l9 ++ [q]).length) cga6] M T rfl rfl rfl rfl (.cons (T.e 0 rfl) .nil) (fun _ => by kernel_rfl) ?_; clear M T; intro g6 wc ac M T
     refine Zl2 ?_
     refine ow_app (((g6, .cells [.slice (some ⟨ga6, 0, none⟩) ((l9 ++ [q]).length) cga6]) :: (ga6, .row 30 3 (l9 ++ [q]).length (tc (l9 ++ [q])) cga6) :: (g1, .cells [.int .i64 s.lo, .int .i64 s.wi, .int .i64 s.a0, .int .i64 s.a1, .int .i64 s.c0, .int .i64 s.c1, .slice AK s.ps.length cK]) :: (IK ++ IXu6 ++ Io ++ IL ++ If))) Tryd.info28 hsq2 M (by first | rfl | simp) T rfl rfl rfl rfl Tryd.underlying44 rfl rfl rfl (by omega) (T.e 2 rfl) (T.e 0 rfl) (Zne (i := 0) rfl) rfl rfl ?_; clear M T; intro ga7 cga7 wc ac M T
     refine l_q (v := (.slice (some ⟨ga7, 0, none⟩) (NM.length + 1) cga7)) (T.pick [0, 1, 2, 3, 4, 5, 6, 7, 8, 9, 10, 11, 13, 14] rfl) rfl rfl rfl rfl (Zra rfl (T.e 0 rfl)) ?_; clear T ac; intro ac T
     refine wpList_nil ?_
     replace T := T.pick [0, 7, 8, 9, 10, 11, 12, 13, 14] rfl
     replace M := M.mask [true, false, true, true] rfl
     replace M : Mem w noEx wc ((ga7, .row 28 1 (NM.length + 1) ((ltV NM) ++ [.slice (some ⟨ga6, 0, none⟩) ((l9 ++ [q]).length) cga6]) cga7) :: (ga6, .row 30 3 (l9 ++ [q]).length (tc (l9 ++ [q])) cga6) :: (g1, .cells [.int .i64 s.lo, .int .i64 s.wi, .int .i64 s.a0, .int .i64 s.a1, .int .i64 s.c0, .int .i64 s.c1, .slice AK s.ps.length cK]) :: (IK ++ IXu6 ++ Io ++ IL ++ If)) := M
     refine Znb ?_
     refine nm_then ?_
     refine wp_region_lit ?_
     refine Zg2 T (Zq (Zrm rfl (T.e 8 rfl))) rfl (fun _ T => Zq (rn_add rfl (T.e 0 rfl) evc (by omega))) rfl ?_; clear T ac; intro ac T
     refine l_q (v := (.int .i64 ((m : Int) + 1))) (T.pick [0, 1, 2, 3, 4, 5, 6, 7, 8, 9] rfl) rfl rfl rfl rfl (Zra rfl (T.e 0 rfl)) ?_; clear T ac; intro ac T
     refine wpList_nil ?_
     replace T := T.pick [0, 3, 4, 5, 6, 7, 8, 9, 10] rfl
     refine nm_then ?_
     have e9 : NM.length + 1 = (NM ++ [((l9 ++ [q]), (some ⟨ga6, 0, none⟩ : Option Addr), cga6)]).length := by simp
     rw [e9, ltV_snoc] at M
     rw [e9] at T
     clear e9
     exact ⟨_, by omega, m + 1, (NM ++ [((l9 ++ [q]), (some ⟨ga6, 0, none⟩ : Option Addr), cga6)]), _, _, (If ++ [(ga6, .row 30 3 (l9 ++ [q]).length (tc (l9 ++ [q])) cga6)]), [(ga7, .row 28 1 (NM ++ [((l9 ++ [q]), (some ⟨ga6, 0, none⟩ : Option Addr), cga6)]).length (ltV (NM ++ [((l9 ++ [q]), (some ⟨ga6, 0, none⟩ : Option Addr), cga6)])) cga7)], rfl, (by omega), (by rw [extS_snoc hkq, if_pos hyes, List.map_append, hNM, List.append_assoc]; rfl), (by simp only [List.length_append, List.length_cons, List.length_nil]; omega), hFE.snoc, (Sl.row _ _ _ _ _ _), T.pick [2, 3, 4, 5, 6, 7, 1, 8, 0] rfl, (by rw [← List.append_assoc (IK ++ IXu6 ++ Io ++ IL) If, List.append_assoc (IK ++ IXu6 ++ Io ++ IL ++ If)]; exact Mem.swapI (I := [(ga6, .row 30 3 (l9 ++ [q]).length (tc (l9 ++ [q])) cga6), (ga7, .row 28 1 (NM ++ [((l9 ++ [q]), (some ⟨ga6, 0, none⟩ : Option Addr), cga6)]).length (ltV (NM ++ [((l9 ++ [q]), (some ⟨ga6, 0, none⟩ : Option Addr), cga6)])) cga7)]) (L := ((g1, .cells [.int .i64 s.lo, .int .i64 s.wi, .int .i64 s.a0, .int .i64 s.a1, .int .i64 s.c0, .int .i64 s.c1, .slice AK s.ps.length cK]) :: (IK ++ IXu6 ++ Io ++ IL ++ If))) (M.permT [1, 0, 2] 3 rfl rfl rfl rfl))⟩
    intro h9
    have hno := h9
    refine wp_skip ?_
    refine Znb ?_
    refine nm_then ?_
    refine wp_region_lit ?_
    refine Zg2 T (Zq (Zrm rfl (T.e 10 rfl))) rfl (fun _ T => Zq (rn_add rfl (T.e 0 rfl) evc (by omega))) rfl ?_; clear T ac; intro ac T
    refine l_q (v := (.int .i64 ((m : Int) + 1))) (T.pick [0, 1, 2, 3, 4, 5, 6, 7, 8, 9, 10, 11] rfl) rfl rfl rfl rfl (Zra rfl (T.e 0 rfl)) ?_; clear T ac; intro ac T
    refine wpList_nil ?_
    replace T := T.pick [0, 5, 6, 7, 8, 9, 10, 11, 12] rfl
    refine nm_then ?_
    exact ⟨_, by omega, m + 1, NM, _, _, If, Iq, rfl, (by omega), (by rw [extS_snoc hkq, if_neg (by rw [hno]; decide), List.append_nil]; exact hNM), (by omega), hFE, hsq2, T.pick [1, 2, 3, 4, 5, 6, 7, 8, 0] rfl, (M.permT [1] 2 rfl rfl rfl rfl)⟩
   intro h6
   refine wp_exit ?_
   refine Zet ?_
   refine Zet ?_
   refine ex_hit ?_
   refine Znb ?_
   refine nm_then ?_
   refine wp_region_lit ?_
   refine Zg2 T (Zq (Zrm rfl (T.e 8 rfl))) rfl (fun _ T => Zq (rn_add rfl (T.e 0 rfl) evc (by omega))) rfl ?_; clear T ac; intro ac T
   refine l_q (v := (.int .i64 ((k : Int) + 1))) (T.pick [0, 1, 2, 3, 4, 5, 6, 7, 8, 9, 11] rfl) rfl rfl rfl rfl (Zra rfl (T.e 0 rfl)) ?_; clear T ac; intro ac T
   refine wpList_nil ?_
   replace T := T.pick [0, 4, 5, 6, 7, 8, 9, 10] rfl
   refine nm_then ?_
   exact ⟨_, by omega, k + 1, NM, _, _, If, Iq, rfl, (by omega), (by rw [hNM, show m = OL.length by omega, ← fm_snoc hkl]), (by omega), hFE, hsq2, T.pick [1, 2, 3, 4, 5, 6, 7, 0] rfl, M⟩
  intro h5
  refine wp_exit ?_
  refine Zet ?_
  refine Zet ?_
  refine ex_hit ?_
  refine nm_then ?_
  refine wp_region_lit ?_
  refine lq T (Zrm rfl (T.e 7 rfl)) ?_; clear T ac; intro ac T
  refine l_q (v := (.slice A5 NL.length c5)) (T.pick [0, 1, 2, 3, 4, 5, 7, 8, 9] rfl) rfl rfl rfl rfl (Zra rfl (T.e 0 rfl)) ?_; clear T ac; intro ac T
  refine wpList_nil ?_
  replace T := T.pick [0, 3, 4, 5, 6, 7] rfl
  refine Znb ?_
  refine nm_then ?_
  refine wp_region_lit ?_
  refine Zg2 T (Zq (Zrm rfl (T.e 5 rfl))) rfl (fun _ T => Zq (rn_add rfl (T.e 0 rfl) evc (by omega))) rfl ?_; clear T ac; intro ac T
  refine l_q (v := (.int .i64 ((i : Int) + 1))) (T.pick [0, 1, 2, 3, 4, 5, 6] rfl) rfl rfl rfl rfl (Zra rfl (T.e 0 rfl)) ?_; clear T ac; intro ac T
  refine wpList_nil ?_
  replace T := T.pick [0, 3, 4, 5, 6, 7] rfl
  refine nm_then ?_
  exact ⟨_, by omega, i + 1, NL, _, _, (Ie ++ In), rfl, (by omega), (by rw [hN, show k = LT.length by omega, ← stg_next hLs]), (by obtain ⟨b8, o8, h8⟩ := hsn.spV (by rw [ltV_len]; omega); exact ⟨b8, o8, fun w ex => (h8 w ex).mono (Zsq _ _)⟩), (hNE.mono (Zsl _ _)), T.pick [2, 3, 4, 5, 1, 0] rfl, (Mem.dropL (K := [(g1, .cells [.int .i64 s.lo, .int .i64 s.wi, .int .i64 s.a0, .int .i64 s.a1, .int .i64 s.c0, .int .i64 s.c1, .slice AK s.ps.length cK])]) (A := IK ++ IXu6 ++ Io) (B := IL) (C := Ie) (D := In) M)⟩
 intro h4
 have hLn : LT.length = (stg (aP s lxu6 bu5) (spotsX wi9 lo9) lxu6.length).length := by rw [← List.length_map (f := (·.1)), hLs, hO9, show i = lxu6.length by omega]
 have hsl9 := stage_law (su := bu5) hsg hixu6.1.1 hixu6.1.2 hlo9 hwi9
 rw [← hLn] at hsl9
 obtain ⟨pE, hpE⟩ : ∃ q : Int, q = planE s lxu6 bu5 := ⟨_, rfl⟩
 have hpc : pE = 0 ∨ pE = 11 := by rw [hpE]; exact (plan_cases (su := bu5) hsg hixu6.1.1 hixu6.1.2).imp And.left And.left
 rw [← hpE] at hsl9
 refine wp_exit ?_
 refine Zet ?_
 refine Zet ?_
 refine ex_hit ?_
 refine nm_then ?_
 refine Zsr ?_
 refine Zg3 T (Zq (Zrr (Mem.nth M 0 rfl) rfl (T.e 1 rfl) rfl)) rfl (Zm 4 rfl rfl) rfl (Zm 4 rfl rfl) rfl ?_; clear T ac; intro ac T
 refine Zl2 ?_
 refine Zoc (first := []) (cap := []) T rfl rfl rfl rfl evf (.cons (T.e 2 rfl) (.cons (T.e 1 rfl) (.cons (T.e 0 rfl) .nil))) Tryd.func33 rfl rfl ?_
 refine Calls.mono (Plan_any s AK cK AXu6 cXu6 lxu6 bu5 _ (SAK.rd M (.cons _ (subL (subL (subL (List.Sublist.refl _)))))) (SAXu6.rd M (.cons _ (subL (subL (Zsq _ _))))) (by omega) (by omega) (by omega) (hT.mem M (fun h => h))) ?_
 clear T; rintro e wc ⟨APu12, cPu12, IPu12, rfl, hcpPu12, SVPu12, N⟩ ac T
 rw [← hpE] at T
 obtain ⟨bAPu12, oAPu12, SVPu12⟩ := SVPu12
 have SAPu12 := SVPu12 w noEx
 replace M := (M.join N).swapI
 clear N
 replace M : Mem w noEx wc ((g1, .cells [.int .i64 s.lo, .int .i64 s.wi, .int .i64 s.a0, .int .i64 s.a1, .int .i64 s.c0, .int .i64 s.c1, .slice AK s.ps.length cK]) :: (IK ++ IXu6 ++ Io ++ IL ++ IPu12)) := M
 refine Zg5 T (Zq (Zrm rfl (T.e 0 rfl))) rfl (Ze 0 rfl rfl rfl) rfl (Ze 1 rfl rfl rfl) rfl (Za 1 rfl rfl) rfl (Za 1 rfl rfl) rfl ?_; clear T ac; intro ac T
 refine wpList_nil ?_
 replace T := T.pick [0, 14] rfl
 replace M := M.mask [false] rfl
 replace M : Mem w noEx wc ((IK ++ IXu6 ++ Io ++ IL ++ IPu12)) := M
 refine nm_then ?_
 refine cut_seq (fun ac wc => Tm ac 130 [(2, .bool (bif (decide (pE = 0)) then ((decide (pE = 0)) == (decide (0 < ((LT.length : Nat) : Int)))) else ((decide (pE = 11)) && ((decide (pE = 0)) == (decide (0 < ((LT.length : Nat) : Int)))))))] ∧ Mem w noEx wc ((IK ++ IXu6 ++ Io ++ IL ++ IPu12))) ?_ ?_
 ·refine wp_region_lit ?_
  refine Zg3 T (Zq (Zrm rfl (T.e 0 rfl))) rfl (fun _ T => Zq (rn_eql rfl (T.e 0 rfl) evc)) rfl (Zm 0 rfl rfl) rfl ?_; clear T ac; intro ac T
  rcases Bool.eq_false_or_eq_true (decide (pE = 0)) with h10 | h10
  ·replace h10 := of_decide_eq_true h10
   refine Zg8 T (Zp (Zwn rfl rfl (T.e 0 rfl) (Zdt h10))) rfl (fun _ T => Zp (Zwn rfl rfl (T.e 1 rfl) (Zdt h10))) rfl (fun _ T => Zq (Zr1 rfl (T.e 2 rfl) (Zdt h10) evc)) rfl (Zm 0 rfl rfl) rfl (fun _ T => Zw (Zwy rfl rfl (T.e 0 rfl) rfl) (Zrm rfl (T.e 7 rfl))) rfl (fun _ T => Zw (Zwy rfl rfl (T.e 1 rfl) rfl) (rn_eql rfl (T.e 0 rfl) evc)) rfl (fun _ T => Zw (Zwy rfl rfl (T.e 2 rfl) rfl) (Zrm rfl (T.e 10 rfl))) rfl (fun _ T => Zw (Zwy rfl rfl (T.e 3 rfl) rfl) (Zrl rfl Tryd.underlying44 (T.e 0 rfl))) rfl ?_; clear T ac; intro ac T
   refine Zg4 (v2 := (.bool ((decide (pE = 0)) == (decide (0 < ((LT.length : Nat) : Int)))))) T (Zw (Zwy rfl rfl (T.e 4 rfl) rfl) (rn_gtr rfl (T.e 0 rfl) evc)) rfl (fun _ T => Zw (Zwy rfl rfl (T.e 5 rfl) rfl) (rn_bin rfl (T.e 3 rfl) (T.e 0 rfl) (by kernel_rfl))) rfl (fun _ T => Zq (Zr1 rfl (T.e 6 rfl) rfl (T.e 0 rfl))) rfl (Zm 0 rfl rfl) rfl ?_; clear T ac; intro ac T
   rcases Bool.eq_false_or_eq_true ((decide (pE = 0)) == (decide (0 < ((LT.length : Nat) : Int)))) with h11 | h11
   ·refine l_w (Zwy rfl rfl (T.e 0 rfl) h11) ?_; intro K hK
    refine Zoc (first := []) (cap := []) T rfl rfl rfl rfl evf .nil Tryd.func17 rfl rfl ?_
    refine Calls.mono (sawn8_any _ (hT.mem M (fun h => h))) ?_
    clear T; rintro e wc ⟨rfl, hb⟩ ac T
    replace M := M.call hb; clear hb
    refine Zso hK _ _ ?_; clear hK K
    refine Zg2 T (Zq (Zr1 rfl (T.e 1 rfl) h11 (T.e 0 rfl))) rfl (Za 0 rfl rfl) rfl ?_; clear T ac; intro ac T
    refine wpList_nil ?_
    replace T := T.pick [0] rfl
    exact ⟨(T.pick (E' := [(2, .bool true)]) [0] rfl).as (by (try rw [show ((decide (pE = 0)) == (decide (0 < ((LT.length : Nat) : Int)))) = true from h11]); (try rw [show (decide (pE = 0)) = true from (Zdt h10)]); (try rfl)), M.mask [] rfl⟩
   refine Zg3 T (Zp (Zwn rfl rfl (T.e 0 rfl) h11)) rfl (fun _ T => Zq (Zr0 rfl (T.e 1 rfl) h11 evc)) rfl (Za 0 rfl rfl) rfl ?_; clear T ac; intro ac T
   refine wpList_nil ?_
   replace T := T.pick [0] rfl
   exact ⟨(T.pick (E' := [(2, .bool false)]) [0] rfl).as (by (try rw [show ((decide (pE = 0)) == (decide (0 < ((LT.length : Nat) : Int)))) = false from h11]); (try rw [show (decide (pE = 0)) = true from (Zdt h10)]); (try rfl)), M.mask [] rfl⟩
  replace h10 := of_decide_eq_false h10
  refine Zg4 T (Zw (Zwy rfl rfl (T.e 0 rfl) (Zdf h10)) (Zrm rfl (T.e 3 rfl))) rfl (fun _ T => Zw (Zwy rfl rfl (T.e 1 rfl) (Zdf h10)) (rn_eql rfl (T.e 0 rfl) evc)) rfl (fun _ T => Zq (Zr0 rfl (T.e 2 rfl) (Zdf h10) (T.e 0 rfl))) rfl (Zm 0 rfl rfl) rfl ?_; clear T ac; intro ac T
  rcases Bool.eq_false_or_eq_true (decide (pE = 11)) with h12 | h12
  ·replace h12 := of_decide_eq_true h12
   refine Zg8 (v6 := (.bool ((decide (pE = 0)) == (decide (0 < ((LT.length : Nat) : Int)))))) T (Zw (Zwy rfl rfl (T.e 0 rfl) (Zdt h12)) (Zrm rfl (T.e 7 rfl))) rfl (fun _ T => Zw (Zwy rfl rfl (T.e 1 rfl) (Zdt h12)) (rn_eql rfl (T.e 0 rfl) evc)) rfl (fun _ T => Zw (Zwy rfl rfl (T.e 2 rfl) (Zdt h12)) (Zrm rfl (T.e 10 rfl))) rfl (fun _ T => Zw (Zwy rfl rfl (T.e 3 rfl) (Zdt h12)) (Zrl rfl Tryd.underlying44 (T.e 0 rfl))) rfl (fun _ T => Zw (Zwy rfl rfl (T.e 4 rfl) (Zdt h12)) (rn_gtr rfl (T.e 0 rfl) evc)) rfl (fun _ T => Zw (Zwy rfl rfl (T.e 5 rfl) (Zdt h12)) (rn_bin rfl (T.e 3 rfl) (T.e 0 rfl) (by kernel_rfl))) rfl (fun _ T => Zq (Zr1 rfl (T.e 6 rfl) (Zdt h12) (T.e 0 rfl))) rfl (Zm 0 rfl rfl) rfl ?_; clear T ac; intro ac T
   rcases Bool.eq_false_or_eq_true ((decide (pE = 0)) == (decide (0 < ((LT.length : Nat) : Int)))) with h13 | h13
   ·refine l_w (Zwy rfl rfl (T.e 0 rfl) h13) ?_; intro K hK
    refine Zoc (first := []) (cap := []) T rfl rfl rfl rfl evf .nil Tryd.func17 rfl rfl ?_
    refine Calls.mono (sawn8_any _ (hT.mem M (fun h => h))) ?_
    clear T; rintro e wc ⟨rfl, hb⟩ ac T
    replace M := M.call hb; clear hb
    refine Zso hK _ _ ?_; clear hK K
    refine Zg2 T (Zq (Zr1 rfl (T.e 1 rfl) h13 (T.e 0 rfl))) rfl (Za 0 rfl rfl) rfl ?_; clear T ac; intro ac T
    refine wpList_nil ?_
    replace T := T.pick [0] rfl
    exact ⟨(T.pick (E' := [(2, .bool true)]) [0] rfl).as (by (try rw [show ((decide (pE = 0)) == (decide (0 < ((LT.length : Nat) : Int)))) = true from h13]); (try rw [show (decide (pE = 11)) = true from (Zdt h12)]); (try rw [show (decide (pE = 0)) = false from (Zdf h10)]); (try rfl)), M.mask [] rfl⟩
   refine Zg3 T (Zp (Zwn rfl rfl (T.e 0 rfl) h13)) rfl (fun _ T => Zq (Zr0 rfl (T.e 1 rfl) h13 evc)) rfl (Za 0 rfl rfl) rfl ?_; clear T ac; intro ac T
   refine wpList_nil ?_
   replace T := T.pick [0] rfl
   exact ⟨(T.pick (E' := [(2, .bool false)]) [0] rfl).as (by (try rw [show ((decide (pE = 0)) == (decide (0 < ((LT.length : Nat) : Int)))) = false from h13]); (try rw [show (decide (pE = 11)) = true from (Zdt h12)]); (try rw [show (decide (pE = 0)) = false from (Zdf h10)]); (try rfl)), M.mask [] rfl⟩
  replace h12 := of_decide_eq_false h12
  refine Zg8 T (Zp (Zwn rfl rfl (T.e 0 rfl) (Zdf h12))) rfl (fun _ T => Zp (Zwn rfl rfl (T.e 1 rfl) (Zdf h12))) rfl (fun _ T => Zp (Zwn rfl rfl (T.e 2 rfl) (Zdf h12))) rfl (fun _ T => Zp (Zwn rfl rfl (T.e 3 rfl) (Zdf h12))) rfl (fun _ T => Zp (Zwn rfl rfl (T.e 4 rfl) (Zdf h12))) rfl (fun _ T => Zp (Zwn rfl rfl (T.e 5 rfl) (Zdf h12))) rfl (fun _ T => Zq (Zr0 rfl (T.e 6 rfl) (Zdf h12) evc)) rfl (Zm 0 rfl rfl) rfl ?_; clear T ac; intro ac T
  refine Zg3 T (Zp (Zwn rfl rfl (T.e 0 rfl) rfl)) rfl (fun _ T => Zq (Zr0 rfl (T.e 1 rfl) rfl evc)) rfl (Za 0 rfl rfl) rfl ?_; clear T ac; intro ac T
  refine wpList_nil ?_
  replace T := T.pick [0] rfl
  exact ⟨(T.pick (E' := [(2, .bool false)]) [0] rfl).as (by (try rw [show (decide (pE = 11)) = false from (Zdf h12)]); (try rw [show (decide (pE = 0)) = false from (Zdf h10)]); (try rfl)), M.mask [] rfl⟩
 clear T M
 rintro ac wc ⟨T, M⟩
 refine wp_ret ?_
 refine rt_1 T rfl (T.e 0 rfl) ?_
 exact ⟨ret_bool (by simp_all), M.below⟩
end Go.Proofs.YtehpcclfgjccbaaDoor

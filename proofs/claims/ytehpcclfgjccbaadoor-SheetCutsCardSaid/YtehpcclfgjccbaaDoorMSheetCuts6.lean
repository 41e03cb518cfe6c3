/-
  sheet's law: spots that can be cut.
-/
import Derived.Test.YtehpcclfgjccbaaDoorMSheetCuts1
import Derived.Test.YtehpcclfgjccbaaDoorMSheetCuts2
import Derived.Test.YtehpcclfgjccbaaDoorMSheetCuts3
import Derived.Test.YtehpcclfgjccbaaDoorMSheetCuts4
import Derived.Test.YtehpcclfgjccbaaDoorMSheetCuts5
namespace Go.Proofs.YtehpcclfgjccbaaDoor
set_option linter.unusedSimpArgs false
set_option linter.unusedVariables false
open Go.RowKit
theorem planL_few {s : Sk} {g : List Int} {su : Bool} (h : g.length ≤ 20) : (planL s g su).length ≤ 20 := by
 unfold planL
 split
 · rw [putS_length, List.length_replicate, gP_len]; exact h
 · simp
theorem tc_one (l : List Spt) : ∀ u ∈ tc l, u.oneCell' = true := fun u hu => by
 obtain ⟨p, -, h⟩ := List.mem_flatMap.1 hu
 simp only [tcE, List.mem_cons, List.not_mem_nil, or_false] at h
 rcases h with rfl | rfl | rfl <;> rfl
theorem Tryd.append0_28 (A : Option Addr) (c g : Nat) (ty : TypeId) (w : World) : (Builtin.append_ #[28, 28] ty #[.slice (some ⟨g, 0, none⟩) 0 0, .slice A 0 c]).run Tryd.prog w = .ok (.slice (some ⟨g, 0, none⟩) 0 0) w := by
 cases A <;> kernel_rfl
abbrev TE := List Spt × Option Addr × Nat
def ltV (l : List TE) : List Value := l.map fun x => .slice x.2.1 x.1.length x.2.2
theorem Sp.lt0 {w w' : World} {ex : Nat → Prop} {I L : List (Nat × BA)} {n b o k : Nat} {A : Option Addr} {r : List TE} {x : List Spt} {B : Option Addr} {c : Nat} (S : Sp w ex I A n 1 b o (ltV r)) (M : Mem w ex w' L) (hI : I.Sublist L) (h : r[k]? = some (x, B, c)) : w'.cell? ⟨b, o + k * 1, none⟩ = some (.slice B x.length c) := by
 rw [Nat.mul_one]
 exact S.cell w' L M hI _ _ (by unfold ltV; rw [List.getElem?_map, h]; rfl)
set_option maxRecDepth 100000 in
set_option maxHeartbeats 4000000 in
theorem SheetCuts_any (s0 : Sk) (A0 : Option Addr) (c0 : Nat) (Gz : Option Addr) (dz : Nat) (gz : List Int) (Pz : Option Addr) (ez : Nat) (pz : List Spt) (b3 : Bool) (x4 : Int) (y5 : Spt) (D : Option Addr) (n d : Nat) (l : List Int) (w : World) (hl : Rd w w.heap.size 1 D n (ic l)) (hm : n ≤ 9223372036854775807) (hT : TabW w) (hS0 : Rd w w.heap.size 4 A0 s0.ps.length (pc s0.ps)) (hn0 : s0.ps.length ≤ 9223372036854775807) (hGz : Rd w w.heap.size 1 Gz gz.length (ic gz)) (hn1 : gz.length ≤ 9223372036854775807) (hPz : Rd w w.heap.size 3 Pz pz.length (tc pz)) (hn2 : pz.length ≤ 9223372036854775807) :
   Calls Tryd.prog 3 #[.agg #[.int .i64 s0.lo, .int .i64 s0.wi, .int .i64 s0.a0, .int .i64 s0.a1, .int .i64 s0.c0, .int .i64 s0.c1, .slice A0 s0.ps.length c0], .slice Gz gz.length dz, .slice Pz pz.length ez, .bool b3, .int .i64 x4, .agg #[.int .i64 y5.x, .int .i64 y5.y, .bool y5.t], .slice D n d] w fun e w' => e = .returned (.bool true) ∧ Below w.heap.size w w' := by
 have hll := hl.len1
 obtain ⟨bI, oI, SI⟩ := Sp.old hl
 obtain ⟨b0, o0, SA0⟩ := Sp.old hS0
 obtain ⟨bgz, ogz, SGz⟩ := Sp.old hGz
 obtain ⟨bpz, opz, SPz⟩ := Sp.old hPz
 refine Zpx noEx Tryd.func3 rfl 229 rfl [.agg #[.int .i64 s0.lo, .int .i64 s0.wi, .int .i64 s0.a0, .int .i64 s0.a1, .int .i64 s0.c0, .int .i64 s0.c1, .slice A0 s0.ps.length c0], .slice Gz gz.length dz, .slice Pz pz.length ez, .bool b3, .int .i64 x4, .agg #[.int .i64 y5.x, .int .i64 y5.y, .bool y5.t], .slice D n d] rfl rfl (Mem.init w _) ?_
 intro ac wc T M
 refine Zsr ?_
 refine Zl2 ?_
 refine Zob M T rfl rfl rfl rfl (T.e 0 rfl) rfl ?_; clear M T; intro g1 wc ac M T
 refine Zl2 ?_
 refine Zob M T rfl rfl rfl rfl (T.e 6 rfl) rfl ?_; clear M T; intro g2 wc ac M T
 refine lq T (Zra rfl evc) ?_; clear T ac; intro ac T
 refine wpList_nil ?_
 replace T := T.pick [1, 2, 4, 5, 6, 7, 9] rfl
 refine Zns ?_
 refine cut_seq (fun ac wc => Tm ac 229 [(1, .slice Gz gz.length dz), (2, .slice Pz pz.length ez), (3, .bool b3), (4, .int .i64 x4), (6, .slice D n d), (7, .pointer (some ⟨g1, 0, none⟩)), (12, .pointer (some ⟨g2, 0, none⟩)), (48, .bool ((decide (20 < ((s0.ps.length : Nat) : Int))) || ((decide (20 < ((gz.length : Nat) : Int))) || (decide (20 < ((pz.length : Nat) : Int))))))] ∧ Mem w noEx wc [(g2, .cells [.int .i64 y5.x, .int .i64 y5.y, .bool y5.t]), (g1, .cells [.int .i64 s0.lo, .int .i64 s0.wi, .int .i64 s0.a0, .int .i64 s0.a1, .int .i64 s0.c0, .int .i64 s0.c1, .slice A0 s0.ps.length c0])]) ?_ ?_
 ·refine wp_region_lit ?_
  refine Zg5 (v1 := (.pointer (some ⟨g1, 6, none⟩))) T (Zq (Zrf (off := 6) rfl (T.e 1 rfl) (fun _ _ _ => by kernel_rfl))) rfl (Zo M 1 0 rfl rfl rfl rfl) rfl (Zl Tryd.underlying24 0 rfl rfl) rfl (fun _ T => Zq (rn_gtr rfl (T.e 0 rfl) evc)) rfl (Zm 0 rfl rfl) rfl ?_; clear T ac; intro ac T
  rcases Bool.eq_false_or_eq_true (decide (20 < ((s0.ps.length : Nat) : Int))) with h1 | h1
  ·replace h1 := of_decide_eq_true h1
   refine Zg8 T (Zp (Zwn rfl rfl (T.e 0 rfl) (Zdt h1))) rfl (fun _ T => Zp (Zwn rfl rfl (T.e 1 rfl) (Zdt h1))) rfl (fun _ T => Zp (Zwn rfl rfl (T.e 2 rfl) (Zdt h1))) rfl (fun _ T => Zq (Zr1 rfl (T.e 3 rfl) (Zdt h1) evc)) rfl (Zm 0 rfl rfl) rfl (fun _ T => Zp (Zwn rfl rfl (T.e 0 rfl) rfl)) rfl (fun _ T => Zp (Zwn rfl rfl (T.e 1 rfl) rfl)) rfl (fun _ T => Zp (Zwn rfl rfl (T.e 2 rfl) rfl)) rfl ?_; clear T ac; intro ac T
   refine lq T (Zr1 rfl (T.e 3 rfl) rfl evc) ?_; clear T ac; intro ac T
   refine wpList_nil ?_
   replace T := T.pick [0, 14, 15, 16, 17, 18, 19, 20] rfl
   exact ⟨(T.pick (E' := [(1, .slice Gz gz.length dz), (2, .slice Pz pz.length ez), (3, .bool b3), (4, .int .i64 x4), (6, .slice D n d), (7, .pointer (some ⟨g1, 0, none⟩)), (12, .pointer (some ⟨g2, 0, none⟩)), (48, .bool true)]) [3, 4, 5, 6, 7, 2, 1, 0] rfl).as (by (try rw [show (decide (20 < ((s0.ps.length : Nat) : Int))) = true from (Zdt h1)]); (try rfl)), M.mask [true, true] rfl⟩
  replace h1 := of_decide_eq_false h1
  refine Zg5 T (Zw (Zwy rfl rfl (T.e 0 rfl) (Zdf h1)) (Zrm rfl (T.e 7 rfl))) rfl (fun _ T => Zw (Zwy rfl rfl (T.e 1 rfl) (Zdf h1)) (Zrl rfl Tryd.underlying27 (T.e 0 rfl))) rfl (fun _ T => Zw (Zwy rfl rfl (T.e 2 rfl) (Zdf h1)) (rn_gtr rfl (T.e 0 rfl) evc)) rfl (fun _ T => Zq (Zr0 rfl (T.e 3 rfl) (Zdf h1) (T.e 0 rfl))) rfl (Zm 0 rfl rfl) rfl ?_; clear T ac; intro ac T
  rcases Bool.eq_false_or_eq_true (decide (20 < ((gz.length : Nat) : Int))) with h2 | h2
  ·replace h2 := of_decide_eq_true h2
   refine Zg4 T (Zp (Zwn rfl rfl (T.e 0 rfl) (Zdt h2))) rfl (fun _ T => Zp (Zwn rfl rfl (T.e 1 rfl) (Zdt h2))) rfl (fun _ T => Zp (Zwn rfl rfl (T.e 2 rfl) (Zdt h2))) rfl (fun _ T => Zq (Zr1 rfl (T.e 3 rfl) (Zdt h2) evc)) rfl ?_; clear T ac; intro ac T
   refine wpList_nil ?_
   replace T := T.pick [0, 14, 15, 16, 17, 18, 19, 20] rfl
   exact ⟨(T.pick (E' := [(1, .slice Gz gz.length dz), (2, .slice Pz pz.length ez), (3, .bool b3), (4, .int .i64 x4), (6, .slice D n d), (7, .pointer (some ⟨g1, 0, none⟩)), (12, .pointer (some ⟨g2, 0, none⟩)), (48, .bool true)]) [3, 4, 5, 6, 7, 2, 1, 0] rfl).as (by (try rw [show (decide (20 < ((s0.ps.length : Nat) : Int))) = false from (Zdf h1)]); (try rw [show (decide (20 < ((gz.length : Nat) : Int))) = true from (Zdt h2)]); (try rfl)), M.mask [true, true] rfl⟩
  replace h2 := of_decide_eq_false h2
  refine Zg4 T (Zw (Zwy rfl rfl (T.e 0 rfl) (Zdf h2)) (Zrm rfl (T.e 13 rfl))) rfl (fun _ T => Zw (Zwy rfl rfl (T.e 1 rfl) (Zdf h2)) (Zrl rfl Tryd.underlying28 (T.e 0 rfl))) rfl (fun _ T => Zw (Zwy rfl rfl (T.e 2 rfl) (Zdf h2)) (rn_gtr rfl (T.e 0 rfl) evc)) rfl (fun _ T => Zq (Zr0 rfl (T.e 3 rfl) (Zdf h2) (T.e 0 rfl))) rfl ?_; clear T ac; intro ac T
  refine wpList_nil ?_
  replace T := T.pick [0, 14, 15, 16, 17, 18, 19, 20] rfl
  exact ⟨(T.pick (E' := [(1, .slice Gz gz.length dz), (2, .slice Pz pz.length ez), (3, .bool b3), (4, .int .i64 x4), (6, .slice D n d), (7, .pointer (some ⟨g1, 0, none⟩)), (12, .pointer (some ⟨g2, 0, none⟩)), (48, .bool (decide (20 < ((pz.length : Nat) : Int))))]) [3, 4, 5, 6, 7, 2, 1, 0] rfl).as (by (try rw [show (decide (20 < ((s0.ps.length : Nat) : Int))) = false from (Zdf h1)]); (try rw [show (decide (20 < ((gz.length : Nat) : Int))) = false from (Zdf h2)]); (try rfl)), M.mask [true, true] rfl⟩
 clear T M
 rintro ac wc ⟨T, M⟩
 refine wp_cond_split (T.e 7 rfl) ?_ ?_
 ·intro h3
  (have h3' := h3; try simp only [Zb1, Zb2, Zb3, Zb4, Zb5, Zb6, Zb7] at h3')
  refine Zsr ?_
  refine Zl2 ?_
  refine Zoc (first := []) (cap := []) T rfl rfl rfl rfl evf .nil Tryd.func17 rfl rfl ?_
  refine Calls.mono (sawn8_any _ (hT.mem M (fun h => h))) ?_
  clear T; rintro e wc ⟨rfl, hb⟩ ac T
  replace M := M.call hb; clear hb
  refine lq T (Zra rfl (T.e 0 rfl)) ?_; clear T ac; intro ac T
  refine wpList_nil ?_
  replace T := T.pick [0] rfl
  replace M := M.mask [false, false] rfl
  refine Znr ?_
  refine Zrt ?_
  refine rt_1 T rfl (T.e 0 rfl) ?_
  exact ⟨ret_bool (by simp_all), M.below⟩
 intro h3
 (have h3' := h3; try simp only [Zb1, Zb2, Zb3, Zb4, Zb5, Zb6, Zb7] at h3')
 refine Zsk ?_
 refine Zsr ?_
 refine lq T (Zrm rfl (T.e 4 rfl)) ?_; clear T ac; intro ac T
 refine Zl2 ?_
 refine Zoc (first := []) (cap := []) T rfl rfl rfl rfl evf (.cons (T.e 0 rfl) .nil) Tryd.func18 rfl rfl ?_
 refine Calls.mono (newPot_any _ _ _ l _ (SI.rd M (List.nil_sublist _)) (by omega)) ?_
 clear T; rintro e wc ⟨bpu2, su2, hsu2, rfl, N⟩ ac T
 replace M := M.join N; clear N
 replace M := M.mask [true, true, true] rfl
 refine lq T (Zra rfl (T.e 0 rfl)) ?_; clear T ac; intro ac T
 refine wpList_nil ?_
 replace T := T.pick [0, 3, 4, 5, 6, 8, 9] rfl
 refine nm_then ?_
 refine Zsr ?_
 refine lq T (Zrm rfl (T.e 0 rfl)) ?_; clear T ac; intro ac T
 refine Zl2 ?_
 refine Zoc (first := []) (cap := []) T rfl rfl rfl rfl evf (.cons (T.e 0 rfl) (.cons evc (.cons evc .nil))) Tryd.func19 rfl rfl ?_
 refine Calls.mono (sheetOf_any _ bpu2 6 4 _ (by omega) (by omega) (M.nth 0 rfl) hsu2) ?_
 clear T; rintro e wc ⟨s, AKu3, cKu3, sdu3, IKu3, rfl, hsgs, ⟨⟨hbls, hbws⟩, hbps⟩, hsu3, hcpKu3, SVKu3, N⟩ ac T
 obtain ⟨bAKu3, oAKu3, SVKu3⟩ := SVKu3
 have SAKu3 := SVKu3 w noEx
 replace M := M.joinEI N .head
 clear N
 replace M : Mem w noEx wc ((bpu2, .cells [.int .u64 sdu3]) :: (g2, .cells [.int .i64 y5.x, .int .i64 y5.y, .bool y5.t]) :: (g1, .cells [.int .i64 s0.lo, .int .i64 s0.wi, .int .i64 s0.a0, .int .i64 s0.a1, .int .i64 s0.c0, .int .i64 s0.c1, .slice A0 s0.ps.length c0]) :: IKu3) := M
 have hlns := hsgs.len
 obtain ⟨hg1s, hg2s, hg3s, hg4s, -, -⟩ := id hsgs
 refine Zl2 ?_
 refine Zoa M T rfl rfl rfl rfl ?_; clear M T; intro g3 wc ac M T
 refine Zl2 ?_
 refine Zos M T rfl rfl (T.e 0 rfl) (T.e 1 rfl) rfl .head rfl (by simp) rfl (by kernel_rfl) ?_; clear M T; intro wc ac M T
 refine wpList_nil ?_
 replace T := T.pick [0, 3, 4, 5, 6, 7, 8, 9] rfl
 refine nm_then ?_
 refine Zsr ?_
 refine Zg4 (v2 := (.pointer (some ⟨g3, 6, none⟩))) T (Zq (Zrm rfl (T.e 1 rfl))) rfl (Zf 6 1 rfl rfl) rfl (Zo M 0 0 rfl rfl rfl rfl) rfl (Zl Tryd.underlying24 0 rfl rfl) rfl ?_; clear T ac; intro ac T
 refine Zl2 ?_
 refine Zoc (first := []) (cap := []) T rfl rfl rfl rfl evf (.cons (T.e 3 rfl) (.cons (T.e 0 rfl) .nil)) Tryd.func20 rfl rfl ?_
 refine Calls.mono (mix_any _ bpu2 s.ps.length _ (by omega) (M.nth 1 rfl) hsu3) ?_
 clear T; rintro e wc ⟨lxu4, AXu4, cXu4, sdu4, IXu4, rfl, hixu4, hsu4, hcpXu4, SVXu4, N⟩ ac T
 obtain ⟨bAXu4, oAXu4, SVXu4⟩ := SVXu4
 have SAXu4 := SVXu4 w noEx
 replace M := M.joinEI N (.tail .head)
 clear N
 replace M : Mem w noEx wc ((g3, .cells [.int .i64 s.lo, .int .i64 s.wi, .int .i64 s.a0, .int .i64 s.a1, .int .i64 s.c0, .int .i64 s.c1, .slice AKu3 s.ps.length cKu3]) :: (bpu2, .cells [.int .u64 sdu4]) :: (g2, .cells [.int .i64 y5.x, .int .i64 y5.y, .bool y5.t]) :: (g1, .cells [.int .i64 s0.lo, .int .i64 s0.wi, .int .i64 s0.a0, .int .i64 s0.a1, .int .i64 s0.c0, .int .i64 s0.c1, .slice A0 s0.ps.length c0]) :: (IKu3 ++ IXu4)) := M
 refine lq T (Zra rfl (T.e 0 rfl)) ?_; clear T ac; intro ac T
 refine wpList_nil ?_
 replace T := T.pick [0, 6, 7, 8, 9, 10, 11, 12, 13] rfl
 refine nm_then ?_
 refine Zsr ?_
 refine Zg4 T (Zq (Zrm rfl (T.e 0 rfl))) rfl (Zm 3 rfl rfl) rfl (Zm 2 rfl rfl) rfl (Zl Tryd.underlying27 0 rfl rfl) rfl ?_; clear T ac; intro ac T
 refine Zl2 ?_
 refine Zoc (first := []) (cap := []) T rfl rfl rfl rfl evf (.cons (T.e 2 rfl) (.cons (T.e 0 rfl) .nil)) Tryd.func21 rfl rfl ?_
 refine Calls.mono (upto_any _ bpu2 ((lxu4.length : Nat) : Int) _ (by omega) (by omega) (M.nth 1 rfl) hsu4) ?_
 clear T; rintro e wc ⟨xu5, su5, hxu5, hsu5, rfl, hgr, hbk⟩ ac T
 replace M := M.callC (cs' := [.int .u64 su5]) (.tail .head) hgr hbk
 clear hgr hbk
 obtain ⟨k9u5, hk9u5⟩ : ∃ k : Nat, xu5 = (k : Int) := ⟨xu5.toNat, by omega⟩
 refine lq T (rn_slice (size := 1) (l := 0) (h := k9u5) rfl Tryd.underlying27 (by kernel_rfl) (T.e 4 rfl) rfl ((T.e 0 rfl).trans (congrArg (Value.int .i64) hk9u5)) (by omega) (by omega)) ?_; clear T ac; intro ac T
 obtain ⟨Aq1, hAq1⟩ : ∃ q : Option Addr, q = (if cXu4 = 0 then AXu4 else Option.map (fun x : Addr => x.add (0 * 1)) AXu4) := ⟨_, rfl⟩
 rw [← hAq1] at T
 obtain ⟨lq1, hlq1⟩ : ∃ q, q = (lxu4.drop 0).take (k9u5 - 0) := ⟨_, rfl⟩
 have nlq1 : lq1.length = k9u5 - 0 := by rw [hlq1, List.length_take, List.length_drop]; (try simp only [List.length_cons, List.length_append, List.length_nil]); omega
 rw [← nlq1] at T
 have SAq1 : Sp w noEx IXu4 Aq1 lq1.length 1 bAXu4 (oAXu4 + 0 * 1) (ic lq1) := by rw [nlq1, hAq1, hlq1, ← ic_part]; exact SAXu4.sub (by omega) (by omega) (by omega)
 refine l_q (v := (.slice Aq1 lq1.length (cXu4 - 0))) (T.pick [0, 1, 2, 3, 4, 5, 7, 8, 9, 10, 11, 12, 13, 14] rfl) rfl rfl rfl rfl (Zra rfl (T.e 0 rfl)) ?_; clear T ac; intro ac T
 refine wpList_nil ?_
 replace T := T.pick [0, 7, 8, 9, 10, 11, 12, 13, 14] rfl
 refine nm_then ?_
 refine Zsr ?_
 refine Zg3 T (Zq (Zrr (Mem.nth M 0 rfl) rfl (T.e 1 rfl) rfl)) rfl (Zm 1 rfl rfl) rfl (Zm 7 rfl rfl) rfl ?_; clear T ac; intro ac T
 refine Zl2 ?_
 refine Zoc (first := []) (cap := []) T rfl rfl rfl rfl evf (.cons (T.e 2 rfl) (.cons (T.e 1 rfl) (.cons (T.e 0 rfl) .nil))) Tryd.func22 rfl rfl ?_
 refine Calls.mono (Plan8_any s AKu3 cKu3 Aq1 (cXu4 - 0) lq1 b3 _ (SAKu3.rd M (.cons _ (.cons _ (.cons _ (.cons _ (subL (List.Sublist.refl _))))))) (SAq1.rd M (.cons _ (.cons _ (.cons _ (.cons _ (Zsq _ _)))))) (by omega) (by omega)) ?_
 clear T; rintro e wc ⟨ARu6, cRu6, IRu6, rfl, hcpRu6, SVRu6, N⟩ ac T
 obtain ⟨bARu6, oARu6, SVRu6⟩ := SVRu6
 have SARu6 := SVRu6 w noEx
 replace M := (M.join N).swapI
 clear N
 replace M : Mem w noEx wc ((g3, .cells [.int .i64 s.lo, .int .i64 s.wi, .int .i64 s.a0, .int .i64 s.a1, .int .i64 s.c0, .int .i64 s.c1, .slice AKu3 s.ps.length cKu3]) :: (bpu2, .cells [.int .u64 su5]) :: (g2, .cells [.int .i64 y5.x, .int .i64 y5.y, .bool y5.t]) :: (g1, .cells [.int .i64 s0.lo, .int .i64 s0.wi, .int .i64 s0.a0, .int .i64 s0.a1, .int .i64 s0.c0, .int .i64 s0.c1, .slice A0 s0.ps.length c0]) :: (IKu3 ++ IXu4 ++ IRu6)) := M
 refine Zg5 T (Zq (Zrm rfl (T.e 0 rfl))) rfl (Ze 0 rfl rfl rfl) rfl (Ze 1 rfl rfl rfl) rfl (Za 1 rfl rfl) rfl (Za 1 rfl rfl) rfl ?_; clear T ac; intro ac T
 refine wpList_nil ?_
 replace T := T.pick [0, 1, 9, 10, 11, 12, 13, 14, 15, 16, 17] rfl
 refine nm_then ?_
 refine cut_seq (fun ac wc => ∃ (PL : List Spt) (PA : Option Addr) (pc9 : Nat) (IPL : List (Nat × BA)) (sp9 : Int), (PL.length ≤ 20) ∧ (PL.length ≤ pc9) ∧ (u64ok sp9) ∧ (∃ b o, ∀ (w : World) (ex : Nat → Prop), Sp w ex IPL PA PL.length 3 b o (tc PL)) ∧ Tm ac 229 [(1, .slice Gz gz.length dz), (2, .slice Pz pz.length ez), (3, .bool b3), (4, .int .i64 x4), (7, .pointer (some ⟨g1, 0, none⟩)), (12, .pointer (some ⟨g2, 0, none⟩)), (15, .pointer (some ⟨bpu2, 0, none⟩)), (16, .pointer (some ⟨g3, 0, none⟩)), (17, .slice Aq1 lq1.length (cXu4 - 0)), (18, .slice PA PL.length pc9)] ∧ Mem w noEx wc ((g3, .cells [.int .i64 s.lo, .int .i64 s.wi, .int .i64 s.a0, .int .i64 s.a1, .int .i64 s.c0, .int .i64 s.c1, .slice AKu3 s.ps.length cKu3]) :: (bpu2, .cells [.int .u64 sp9]) :: (g2, .cells [.int .i64 y5.x, .int .i64 y5.y, .bool y5.t]) :: (g1, .cells [.int .i64 s0.lo, .int .i64 s0.wi, .int .i64 s0.a0, .int .i64 s0.a1, .int .i64 s0.c0, .int .i64 s0.c1, .slice A0 s0.ps.length c0]) :: (IKu3 ++ IXu4 ++ IPL))) ?_ ?_
 ·refine Zsr ?_
  refine Zg2 T (Zq (Zrm rfl (T.e 0 rfl))) rfl (fun _ T => Zq (rn_neq rfl (T.e 0 rfl) evc)) rfl ?_; clear T ac; intro ac T
  refine wpList_nil ?_
  replace T := T.pick [0, 3, 4, 5, 6, 7, 8, 9, 10, 11, 12] rfl
  refine nm_then ?_
  refine wp_ifn (T.e 0 rfl) ?_ ?_
  ·intro h4
   refine Zsr ?_
   refine l_q (v := (.slice none 0 0)) (T.pick [0, 2, 3, 4, 5, 6, 7, 8, 9, 10] rfl) rfl rfl rfl rfl (Zra rfl evc) ?_; clear T ac; intro ac T
   refine wpList_nil ?_
   replace T := T.pick [0, 2, 3, 4, 5, 6, 7, 8, 9, 10] rfl
   refine nm_then ?_
   refine Zsr ?_
   refine lq T (Zra rfl evc) ?_; clear T ac; intro ac T
   refine Zln ?_
   refine wp_block ?_
   refine wp_loop_n (fun mz ac wc => ∃ (i : Nat) (OL : List Spt) (A3 : Option Addr) (c3 : Nat) (sq : Int) (Io : List (Nat × BA)), mz = lq1.length - i ∧ (i ≤ lq1.length) ∧ (OL.length = i) ∧ (u64ok sq) ∧ (Sl 30 3 (.slice A3 OL.length c3) OL.length (tc OL) Io) ∧ Tm ac 229 [(1, .slice Gz gz.length dz), (2, .slice Pz pz.length ez), (3, .bool b3), (4, .int .i64 x4), (7, .pointer (some ⟨g1, 0, none⟩)), (12, .pointer (some ⟨g2, 0, none⟩)), (15, .pointer (some ⟨bpu2, 0, none⟩)), (16, .pointer (some ⟨g3, 0, none⟩)), (17, .slice Aq1 lq1.length (cXu4 - 0)), (18, .slice A3 OL.length c3), (20, .int .i64 (i : Int))] ∧ Mem w noEx wc ((g3, .cells [.int .i64 s.lo, .int .i64 s.wi, .int .i64 s.a0, .int .i64 s.a1, .int .i64 s.c0, .int .i64 s.c1, .slice AKu3 s.ps.length cKu3]) :: (bpu2, .cells [.int .u64 sq]) :: (g2, .cells [.int .i64 y5.x, .int .i64 y5.y, .bool y5.t]) :: (g1, .cells [.int .i64 s0.lo, .int .i64 s0.wi, .int .i64 s0.a0, .int .i64 s0.a1, .int .i64 s0.c0, .int .i64 s0.c1, .slice A0 s0.ps.length c0]) :: (IKu3 ++ IXu4 ++ IRu6 ++ Io))) ?_ ?_
   ·exact ⟨_, 0, [], none, 0, su5, [], rfl, (Nat.zero_le _), rfl, hsu5, (Sl.nil _ _), T.pick [5, 6, 7, 8, 9, 10, 4, 3, 2, 1, 0] rfl, (by simp only [List.append_nil]; exact M)⟩
   clear T M
   rintro mz ac wc ⟨i, OL, A3, c3, sq, Io, hmm1, hi, hOi, hsq, hsl, T, M⟩
   refine wp_seq ?_
   refine Zsr ?_
   refine Zg4 T (Zq (Zrm rfl (T.e 10 rfl))) rfl (Zm 9 rfl rfl) rfl (Zl Tryd.underlying27 0 rfl rfl) rfl (fun _ T => Zq (rn_lss rfl (T.e 2 rfl) (T.e 0 rfl))) rfl ?_; clear T ac; intro ac T
   refine wpList_nil ?_
   replace T := T.pick [0, 4, 5, 6, 7, 8, 9, 10, 11, 12, 13, 14] rfl
   refine nm_then ?_
   refine wp_if (T.e 0 rfl) ?_ ?_
   ·intro h5
    refine Zsk ?_
    refine wp_seq ?_
    refine wp_block ?_
    refine Zgs M (M.perm [0, 2, 3] rfl rfl) 15 (by kernel_rfl) rfl (by kernel_rfl) ?_
    clear M; intro wc M
    refine g_addG 4 M ?_
    refine gq T 0 1 rfl (fun _ _ _ _ _ => (Zrm rfl (T.e 10 rfl))) ?_; clear T ac; intro ac T
    refine gq T 1 3 rfl (fun _ _ _ _ _ => (Zrm rfl (T.e 8 rfl))) ?_; clear T ac; intro ac T
    refine gq (v := (.pointer (some ⟨g3, 0, none⟩))) T 2 7 rfl (fun _ _ _ _ _ => (Zrf (off := 0) rfl (T.e 10 rfl) (fun _ _ _ => by kernel_rfl))) ?_; clear T ac; intro ac T
    refine gq T 3 15 rfl (fun B w' hD hl hS => (Zro (Mem.nth (show Mem w noEx w' _ from ((MA.lft hS) (hD.wait (i := 3) (m := 4) (by kernel_rfl) hl))) 0 rfl) rfl (T.e 0 rfl) rfl)) ?_; clear T ac; intro ac T
    refine gq T 5 47 rfl (fun _ _ _ _ _ => (Zrm rfl (T.e 11 rfl))) ?_; clear T ac; intro ac T
    refine gq (v := (.pointer (some ⟨g3, 1, none⟩))) T 6 111 rfl (fun _ _ _ _ _ => (Zrf (off := 1) rfl (T.e 13 rfl) (fun _ _ _ => by kernel_rfl))) ?_; clear T ac; intro ac T
    refine gq T 7 239 rfl (fun B w' hD hl hS => (Zro (Mem.nth (show Mem w noEx w' _ from (MA.rgt hS)) 0 rfl) rfl (T.e 0 rfl) rfl)) ?_; clear T ac; intro ac T
    refine gq T 9 751 rfl (fun _ _ _ _ _ => (Zrm rfl (T.e 14 rfl))) ?_; clear T ac; intro ac T
    refine gw 4 767 ?_; intro K hK
    refine Zoc (first := []) (cap := []) T rfl rfl rfl rfl evf (.cons (T.e 6 rfl) (.cons (T.e 4 rfl) .nil)) Tryd.func21 rfl rfl ?_
    refine Calls.mono (upto_any _ bpu2 s.lo _ (by omega) (by omega) (M.nth 1 rfl) hsq) ?_
    clear T; rintro e wc ⟨xu7, su7, hxu7, hsu7, rfl, hgr, hbk⟩ ac T
    replace M := M.callC (cs' := [.int .u64 su7]) (.tail .head) hgr hbk
    clear hgr hbk
    obtain ⟨k9u7, hk9u7⟩ : ∃ k : Nat, xu7 = (k : Int) := ⟨xu7.toNat, by omega⟩
    refine Zso hK _ _ (MA.mk (fun h => (no_of (by kernel_rfl) h).elim) (M.perm [0, 2, 3] rfl rfl)) ?_; clear hK K
    refine gw 8 1023 ?_; intro K hK
    refine Zoc (first := []) (cap := []) T rfl rfl rfl rfl evf (.cons (T.e 4 rfl) (.cons (T.e 2 rfl) .nil)) Tryd.func21 rfl rfl ?_
    refine Calls.mono (upto_any _ bpu2 s.wi _ (by omega) (by omega) (M.nth 1 rfl) hsu7) ?_
    clear T; rintro e wc ⟨xu8, su8, hxu8, hsu8, rfl, hgr, hbk⟩ ac T
    replace M := M.callC (cs' := [.int .u64 su8]) (.tail .head) hgr hbk
    clear hgr hbk
    obtain ⟨k9u8, hk9u8⟩ : ∃ k : Nat, xu8 = (k : Int) := ⟨xu8.toNat, by omega⟩
    refine Zso hK _ _ (MA.mk (fun h => (no_of (by kernel_rfl) h).elim) (M.perm [0, 2, 3] rfl rfl)) ?_; clear hK K
    refine gw 10 2047 ?_; intro K hK
    refine Zoc (first := []) (cap := []) T rfl rfl rfl rfl evf (.cons (T.e 2 rfl) (.cons evc (.cons evc .nil))) Tryd.func23 rfl rfl ?_
    refine Calls.mono (odds_any _ bpu2 1 2 _ (by omega) (by omega) (M.nth 1 rfl) hsu8) ?_
    clear T; rintro e wc ⟨bu9, su9, hsu9, rfl, hgr, hbk⟩ ac T
    replace M := M.callC (cs' := [.int .u64 su9]) (.tail .head) hgr hbk
    clear hgr hbk
    refine Zso hK _ _ (MA.mk (fun h => (no_of (by kernel_rfl) h).elim) (M.perm [0, 2, 3] rfl rfl)) ?_; clear hK K
    refine gq (v := (.agg #[.int .i64 xu7, .int .i64 xu8, .bool bu9])) T 11 4095 rfl (fun _ _ _ _ _ => (rn_build rfl (.cons (T.e 2 rfl) (.cons (T.e 1 rfl) (.cons (T.e 0 rfl) .nil))) (fun _ => by kernel_rfl))) ?_; clear T ac; intro ac T
    refine gw 12 8191 ?_; intro K hK
    refine ow_bs (e := 30) [.int .i64 xu7, .int .i64 xu8, .bool bu9] M T rfl rfl rfl rfl (.cons (T.e 0 rfl) .nil) (fun _ => by kernel_rfl) ?_; clear M T; intro g4 wc ac M T
    refine Zso hK _ _ (MA.mk (fun h => (no_of (by kernel_rfl) h).elim) (M.perm [1, 3, 4] rfl rfl)) ?_; clear hK K
    refine gw 13 16383 ?_; intro K hK
    refine ow_app (((g4, .cells [.int .i64 xu7, .int .i64 xu8, .bool bu9]) :: (g3, .cells [.int .i64 s.lo, .int .i64 s.wi, .int .i64 s.a0, .int .i64 s.a1, .int .i64 s.c0, .int .i64 s.c1, .slice AKu3 s.ps.length cKu3]) :: (bpu2, .cells [.int .u64 su9]) :: (g2, .cells [.int .i64 y5.x, .int .i64 y5.y, .bool y5.t]) :: (g1, .cells [.int .i64 s0.lo, .int .i64 s0.wi, .int .i64 s0.a0, .int .i64 s0.a1, .int .i64 s0.c0, .int .i64 s0.c1, .slice A0 s0.ps.length c0]) :: (IKu3 ++ IXu4 ++ IRu6))) Tryd.info30 hsl M (by first | rfl | simp) T rfl rfl rfl rfl Tryd.underlying28 rfl rfl rfl (by omega) (T.e 12 rfl) (T.e 0 rfl) (Zne (i := 0) rfl) rfl rfl ?_; clear M T; intro ga1 cga1 wc ac M T
    refine Zso hK _ _ (MA.mk (fun h => (no_of (by kernel_rfl) h).elim) (M.perm [2, 4, 5] rfl rfl)) ?_; clear hK K
    refine g_q (v := (.slice (some ⟨ga1, 0, none⟩) (OL.length + 1) cga1)) (T := T.pick [0, 1, 2, 3, 4, 5, 6, 7, 8, 9, 10, 11, 12, 13, 14, 15, 16, 17, 18, 19, 20, 21, 22, 23, 25] rfl) (i := 14) rfl (by kernel_rfl) (by kernel_rfl : (Zpb 15 16383).setIfInBounds 14 true = Zpb 15 32767) (si_and (si_G rfl) si_U) (fun _ _ _ h => h) rfl rfl rfl rfl (fun _ _ _ _ _ => (Zra rfl (T.e 0 rfl))) ?_; clear T ac; intro ac T
    refine Zgd (by kernel_rfl) ?_
    replace T := T.pick [0, 16, 17, 18, 19, 20, 21, 22, 23, 24, 25] rfl
    replace M := M.mask [true, false, true, true, true, true] rfl
    replace M : Mem w noEx wc ((ga1, .row 30 3 (OL.length + 1) ((tc OL) ++ [.int .i64 xu7, .int .i64 xu8, .bool bu9]) cga1) :: (g3, .cells [.int .i64 s.lo, .int .i64 s.wi, .int .i64 s.a0, .int .i64 s.a1, .int .i64 s.c0, .int .i64 s.c1, .slice AKu3 s.ps.length cKu3]) :: (bpu2, .cells [.int .u64 su9]) :: (g2, .cells [.int .i64 y5.x, .int .i64 y5.y, .bool y5.t]) :: (g1, .cells [.int .i64 s0.lo, .int .i64 s0.wi, .int .i64 s0.a0, .int .i64 s0.a1, .int .i64 s0.c0, .int .i64 s0.c1, .slice A0 s0.ps.length c0]) :: (IKu3 ++ IXu4 ++ IRu6)) := M
    refine Znb ?_
    refine nm_then ?_
    refine wp_region_lit ?_
    refine Zg2 T (Zq (Zrm rfl (T.e 10 rfl))) rfl (fun _ T => Zq (rn_add rfl (T.e 0 rfl) evc (by omega))) rfl ?_; clear T ac; intro ac T
    refine l_q (v := (.int .i64 ((i : Int) + 1))) (T.pick [0, 1, 2, 3, 4, 5, 6, 7, 8, 9, 10, 11] rfl) rfl rfl rfl rfl (Zra rfl (T.e 0 rfl)) ?_; clear T ac; intro ac T
    refine wpList_nil ?_
    replace T := T.pick [0, 3, 4, 5, 6, 7, 8, 9, 10, 11, 12] rfl
    refine nm_then ?_
    have e9 : OL.length + 1 = (OL ++ [(⟨xu7, xu8, bu9⟩ : Spt)]).length := by simp
    have e8 : ((tc OL) ++ [.int .i64 xu7, .int .i64 xu8, .bool bu9]) = tc (OL ++ [(⟨xu7, xu8, bu9⟩ : Spt)]) := tc_snoc OL (⟨xu7, xu8, bu9⟩ : Spt)
    rw [e9, e8] at M
    rw [e9] at T
    clear e9 e8
    exact ⟨_, by omega, i + 1, (OL ++ [(⟨xu7, xu8, bu9⟩ : Spt)]), _, _, su9, [(ga1, .row 30 3 (OL ++ [(⟨xu7, xu8, bu9⟩ : Spt)]).length (tc (OL ++ [(⟨xu7, xu8, bu9⟩ : Spt)])) cga1)], rfl, (by omega), (by simp only [List.length_append, List.length_cons, List.length_nil]; omega), hsu9, (Sl.row _ _ _ _ _ _), T.pick [2, 3, 4, 5, 6, 7, 8, 9, 10, 1, 0] rfl, (Mem.swapI (I := [(ga1, .row 30 3 (OL ++ [(⟨xu7, xu8, bu9⟩ : Spt)]).length (tc (OL ++ [(⟨xu7, xu8, bu9⟩ : Spt)])) cga1)]) (L := ((g3, .cells [.int .i64 s.lo, .int .i64 s.wi, .int .i64 s.a0, .int .i64 s.a1, .int .i64 s.c0, .int .i64 s.c1, .slice AKu3 s.ps.length cKu3]) :: (bpu2, .cells [.int .u64 su9]) :: (g2, .cells [.int .i64 y5.x, .int .i64 y5.y, .bool y5.t]) :: (g1, .cells [.int .i64 s0.lo, .int .i64 s0.wi, .int .i64 s0.a0, .int .i64 s0.a1, .int .i64 s0.c0, .int .i64 s0.c1, .slice A0 s0.ps.length c0]) :: (IKu3 ++ IXu4 ++ IRu6))) (M.permT [0, 1, 2, 3, 4] 5 rfl rfl rfl rfl))⟩
   intro h5
   refine wp_exit ?_
   refine Zet ?_
   refine Zet ?_
   refine ex_hit ?_
   have hS9 := hsl.spV (tc_length _)
   have hcap9 := hsl.capLe M (.cons _ (.cons _ (.cons _ (.cons _ (Zsq _ _)))))
   exact ⟨OL, _, _, (IRu6 ++ Io), sq, (by omega), hcap9, hsq, (by obtain ⟨b9, o9, h9⟩ := hS9; exact ⟨b9, o9, fun w ex => (h9 w ex).mono (Zsq _ _)⟩), T.pick [1, 2, 3, 4, 5, 6, 7, 8, 9, 10] rfl, (by have M9 := M; simp only [List.append_assoc, List.cons_append, List.nil_append] at M9 ⊢; exact M9)⟩
  intro h4
  refine wp_skip ?_
  exact ⟨(planL s lq1 b3), _, _, IRu6, su5, (planL_few (by omega)), hcpRu6, hsu5, ⟨_, _, SVRu6⟩, T.pick [5, 6, 7, 8, 9, 10, 4, 3, 2, 1] rfl, M⟩
 clear T M
 rintro ac wc ⟨PL, PA, pc9, IPL, sp9, hPL, hPc, hsp, hPS, T, M⟩
 obtain ⟨bPL, oPL, SVPL⟩ := hPS
 have SPL := SVPL w noEx
 refine Zsr ?_
 refine Zl2 ?_
 refine ow_bs0 (e := 30) M T rfl rfl rfl rfl (fun _ => by kernel_rfl) ?_; clear M T; intro g5 wc ac M T
 refine lq T (Zrm rfl (T.e 10 rfl)) ?_; clear T ac; intro ac T
 refine Zl2 ?_
 refine ow_appS Tryd.info30 M T rfl rfl rfl rfl (fun g w => Tryd.append0_28 _ _ g _ w) Tryd.underlying28 rfl rfl rfl (by omega) (T.e 1 rfl) (T.e 0 rfl) (SPL.rd M (.cons _ (.cons _ (.cons _ (.cons _ (.cons _ (Zsq _ _))))))) (tc_one _) ?_; clear M T; intro Augo1 cugo1 Iugo1 wc ac hSmgo1 M T
 replace M : Mem w noEx wc ((g3, .cells [.int .i64 s.lo, .int .i64 s.wi, .int .i64 s.a0, .int .i64 s.a1, .int .i64 s.c0, .int .i64 s.c1, .slice AKu3 s.ps.length cKu3]) :: (bpu2, .cells [.int .u64 sp9]) :: (g2, .cells [.int .i64 y5.x, .int .i64 y5.y, .bool y5.t]) :: (g1, .cells [.int .i64 s0.lo, .int .i64 s0.wi, .int .i64 s0.a0, .int .i64 s0.a1, .int .i64 s0.c0, .int .i64 s0.c1, .slice A0 s0.ps.length c0]) :: (IKu3 ++ IXu4 ++ IPL ++ Iugo1)) := M.swapI
 have hClgo1 : Cl 30 3 Augo1 PL.length cugo1 (tc PL) Iugo1 := .inr hSmgo1
 obtain ⟨bugo1, ougo1, SVugo1⟩ := hClgo1.spV (tc_length _)
 have Sugo1 := SVugo1 w noEx
 refine Zl2 ?_
 refine ow_bs0 (e := 30) M T rfl rfl rfl rfl (fun _ => by kernel_rfl) ?_; clear M T; intro g6 wc ac M T
 refine lq T (Zrm rfl (T.e 13 rfl)) ?_; clear T ac; intro ac T
 refine Zl2 ?_
 refine ow_appS Tryd.info30 M T rfl rfl rfl rfl (fun g w => Tryd.append0_28 _ _ g _ w) Tryd.underlying28 rfl rfl rfl (by omega) (T.e 1 rfl) (T.e 0 rfl) (SPL.rd M (.cons _ (.cons _ (.cons _ (.cons _ (.cons _ (subL (Zsq _ _)))))))) (tc_one _) ?_; clear M T; intro Augo2 cugo2 Iugo2 wc ac hSmgo2 M T
 replace M : Mem w noEx wc ((g3, .cells [.int .i64 s.lo, .int .i64 s.wi, .int .i64 s.a0, .int .i64 s.a1, .int .i64 s.c0, .int .i64 s.c1, .slice AKu3 s.ps.length cKu3]) :: (bpu2, .cells [.int .u64 sp9]) :: (g2, .cells [.int .i64 y5.x, .int .i64 y5.y, .bool y5.t]) :: (g1, .cells [.int .i64 s0.lo, .int .i64 s0.wi, .int .i64 s0.a0, .int .i64 s0.a1, .int .i64 s0.c0, .int .i64 s0.c1, .slice A0 s0.ps.length c0]) :: (IKu3 ++ IXu4 ++ IPL ++ Iugo1 ++ Iugo2)) := M.swapI
 have hClgo2 : Cl 30 3 Augo2 PL.length cugo2 (tc PL) Iugo2 := .inr hSmgo2
 obtain ⟨bugo2, ougo2, SVugo2⟩ := hClgo2.spV (tc_length _)
 have Sugo2 := SVugo2 w noEx
 refine Zg2 T (Zq (Zra rfl (T.e 3 rfl))) rfl (Za 1 rfl rfl) rfl ?_; clear T ac; intro ac T
 refine wpList_nil ?_
 replace T := T.pick [0, 1, 8, 9, 10, 11, 12, 13, 14, 15, 16, 17] rfl
 refine nm_then ?_
 refine cut_seq (fun ac wc => ∃ (OT TH : List Spt) (I1 I2 : List (Nat × BA)), (OT.length ≤ 20) ∧ (TH.length ≤ 20) ∧ (∃ b o, ∀ (w : World) (ex : Nat → Prop), Sp w ex I1 Augo1 OT.length 3 b o (tc OT)) ∧ (∃ b o, ∀ (w : World) (ex : Nat → Prop), Sp w ex I2 Augo2 TH.length 3 b o (tc TH)) ∧ Tm ac 229 [(1, .slice Gz gz.length dz), (2, .slice Pz pz.length ez), (3, .bool b3), (7, .pointer (some ⟨g1, 0, none⟩)), (16, .pointer (some ⟨g3, 0, none⟩)), (17, .slice Aq1 lq1.length (cXu4 - 0)), (18, .slice PA PL.length pc9), (21, .slice Augo1 OT.length cugo1), (22, .slice Augo2 TH.length cugo2)] ∧ Mem w noEx wc ((g3, .cells [.int .i64 s.lo, .int .i64 s.wi, .int .i64 s.a0, .int .i64 s.a1, .int .i64 s.c0, .int .i64 s.c1, .slice AKu3 s.ps.length cKu3]) :: (g1, .cells [.int .i64 s0.lo, .int .i64 s0.wi, .int .i64 s0.a0, .int .i64 s0.a1, .int .i64 s0.c0, .int .i64 s0.c1, .slice A0 s0.ps.length c0]) :: (IKu3 ++ IXu4 ++ IPL ++ I1 ++ I2))) ?_ ?_
 ·refine Zsr ?_
  refine Zg3 T (Zq (Zrm rfl (T.e 11 rfl))) rfl (Zl Tryd.underlying28 0 rfl rfl) rfl (Za 0 rfl rfl) rfl ?_; clear T ac; intro ac T
  refine wpList_nil ?_
  replace T := T.pick [0, 3, 4, 5, 6, 7, 8, 9, 10, 11, 12, 13, 14] rfl
  refine nm_then ?_
  refine Zsr ?_
  refine Zg2 T (Zq (Zrm rfl (T.e 0 rfl))) rfl (fun _ T => Zq (rn_gtr rfl (T.e 0 rfl) evc)) rfl ?_; clear T ac; intro ac T
  refine wpList_nil ?_
  replace T := T.pick [0, 2, 3, 4, 5, 6, 7, 8, 9, 10, 11, 12, 13, 14] rfl
  refine nm_then ?_
  refine wp_if (T.e 0 rfl) ?_ ?_
  ·intro h6
   obtain ⟨b2x, I2x, hsw2, M⟩ := hClgo2.sw (L := ((g3, .cells [.int .i64 s.lo, .int .i64 s.wi, .int .i64 s.a0, .int .i64 s.a1, .int .i64 s.c0, .int .i64 s.c1, .slice AKu3 s.ps.length cKu3]) :: (bpu2, .cells [.int .u64 sp9]) :: (g2, .cells [.int .i64 y5.x, .int .i64 y5.y, .bool y5.t]) :: (g1, .cells [.int .i64 s0.lo, .int .i64 s0.wi, .int .i64 s0.a0, .int .i64 s0.a1, .int .i64 s0.c0, .int .i64 s0.c1, .slice A0 s0.ps.length c0]) :: (IKu3 ++ IXu4 ++ IPL ++ Iugo1))) M
   replace M : Mem w noEx wc ((g3, .cells [.int .i64 s.lo, .int .i64 s.wi, .int .i64 s.a0, .int .i64 s.a1, .int .i64 s.c0, .int .i64 s.c1, .slice AKu3 s.ps.length cKu3]) :: (bpu2, .cells [.int .u64 sp9]) :: (g2, .cells [.int .i64 y5.x, .int .i64 y5.y, .bool y5.t]) :: (g1, .cells [.int .i64 s0.lo, .int .i64 s0.wi, .int .i64 s0.a0, .int .i64 s0.a1, .int .i64 s0.c0, .int .i64 s0.c1, .slice A0 s0.ps.length c0]) :: (IKu3 ++ IXu4 ++ IPL ++ I2x ++ Iugo1)) := M.tail3 (K := [(g3, .cells [.int .i64 s.lo, .int .i64 s.wi, .int .i64 s.a0, .int .i64 s.a1, .int .i64 s.c0, .int .i64 s.c1, .slice AKu3 s.ps.length cKu3]), (bpu2, .cells [.int .u64 sp9]), (g2, .cells [.int .i64 y5.x, .int .i64 y5.y, .bool y5.t]), (g1, .cells [.int .i64 s0.lo, .int .i64 s0.wi, .int .i64 s0.a0, .int .i64 s0.a1, .int .i64 s0.c0, .int .i64 s0.c1, .slice A0 s0.ps.length c0])]) (A := IKu3 ++ IXu4 ++ IPL)
   obtain ⟨b1x, I1x, hsw1, M⟩ := hClgo1.sw (L := ((g3, .cells [.int .i64 s.lo, .int .i64 s.wi, .int .i64 s.a0, .int .i64 s.a1, .int .i64 s.c0, .int .i64 s.c1, .slice AKu3 s.ps.length cKu3]) :: (bpu2, .cells [.int .u64 sp9]) :: (g2, .cells [.int .i64 y5.x, .int .i64 y5.y, .bool y5.t]) :: (g1, .cells [.int .i64 s0.lo, .int .i64 s0.wi, .int .i64 s0.a0, .int .i64 s0.a1, .int .i64 s0.c0, .int .i64 s0.c1, .slice A0 s0.ps.length c0]) :: (IKu3 ++ IXu4 ++ IPL ++ I2x))) M
   replace M : Mem w noEx wc ((g3, .cells [.int .i64 s.lo, .int .i64 s.wi, .int .i64 s.a0, .int .i64 s.a1, .int .i64 s.c0, .int .i64 s.c1, .slice AKu3 s.ps.length cKu3]) :: (bpu2, .cells [.int .u64 sp9]) :: (g2, .cells [.int .i64 y5.x, .int .i64 y5.y, .bool y5.t]) :: (g1, .cells [.int .i64 s0.lo, .int .i64 s0.wi, .int .i64 s0.a0, .int .i64 s0.a1, .int .i64 s0.c0, .int .i64 s0.c1, .slice A0 s0.ps.length c0]) :: (IKu3 ++ IXu4 ++ IPL ++ I2x ++ I1x)) := M
   obtain ⟨L1x, hL1x⟩ : ∃ q : List Spt, q = PL := ⟨_, rfl⟩
   obtain ⟨L2x, hL2x⟩ : ∃ q : List Spt, q = PL := ⟨_, rfl⟩
   replace hsw1 : Sw 3 Augo1 PL.length b1x (tc L1x) I1x := by rw [hL1x]; exact hsw1
   replace hsw2 : Sw 3 Augo2 PL.length b2x (tc L2x) I2x := by rw [hL2x]; exact hsw2
   have hl1x : L1x.length = PL.length := by rw [hL1x]
   have hl2x : L2x.length = PL.length := by rw [hL2x]
   have Sx1 := hsw1.sp (w := w) (ex := noEx)
   have Sx2 := hsw2.sp (w := w) (ex := noEx)
   refine wp_seq ?_
   refine Zgs M (M.perm [] rfl rfl) 7 (by kernel_rfl) rfl (by kernel_rfl) ?_
   clear M; intro wc M
   refine g_addG 6 M ?_
   refine gq T 0 1 rfl (fun _ _ _ _ _ => (Zrm rfl (T.e 3 rfl))) ?_; clear T ac; intro ac T
   refine gq T 1 3 rfl (fun _ _ _ _ _ => (Zrm rfl (T.e 8 rfl))) ?_; clear T ac; intro ac T
   refine gq T 2 7 rfl (fun _ _ _ _ _ => (Zrm rfl (T.e 3 rfl))) ?_; clear T ac; intro ac T
   refine gq T 4 23 rfl (fun B w' hD hl hS => (Zrr (Mem.nth (show Mem w noEx w' _ from ((MA.lft hS) (hD.wait (i := 4) (m := 6) (by kernel_rfl) hl))) 2 rfl) rfl (T.e 12 rfl) rfl)) ?_; clear T ac; intro ac T
   refine gw 3 31 ?_; intro K hK
   refine Zoc (first := []) (cap := []) T rfl rfl rfl rfl evf (.cons (T.e 2 rfl) (.cons (T.e 1 rfl) .nil)) Tryd.func24 rfl rfl ?_
   refine Calls.mono (turn_any x4 PL.length _ (by omega) (by omega)) ?_
   clear T; rintro e wc ⟨ku10, rfl, hku10, hb⟩ ac T
   replace M := M.call hb; clear hb
   obtain ⟨q7u10, hq7u10, -⟩ := tc_next (l := L1x) (k := ku10) (by omega)
   refine Zso hK _ _ (MA.mk (fun _ => M.mask [true, true, true, true] rfl) (M.perm [] rfl rfl)) ?_; clear hK K
   refine gq T 5 63 rfl (fun _ _ _ _ _ => (Zri (size := 3) ku10 rfl (T.e 4 rfl) (T.e 0 rfl) ⟨_, Tryd.underlying28, by kernel_rfl⟩ rfl (by omega) (Sx1.at0 (by omega)))) ?_; clear T ac; intro ac T
   refine gw 6 127 ?_; intro K hK
   refine ow_stTK tcE 3 (fun _ => rfl) 0 (p' := (⟨y5.x, y5.y, y5.t⟩ : Spt)) (((g3, .cells [.int .i64 s.lo, .int .i64 s.wi, .int .i64 s.a0, .int .i64 s.a1, .int .i64 s.c0, .int .i64 s.c1, .slice AKu3 s.ps.length cKu3]) :: (bpu2, .cells [.int .u64 sp9]) :: (g2, .cells [.int .i64 y5.x, .int .i64 y5.y, .bool y5.t]) :: (g1, .cells [.int .i64 s0.lo, .int .i64 s0.wi, .int .i64 s0.a0, .int .i64 s0.a1, .int .i64 s0.c0, .int .i64 s0.c1, .slice A0 s0.ps.length c0]) :: (IKu3 ++ IXu4 ++ IPL ++ I2x))) M (by first | rfl | simp) hsw1 T rfl rfl (T.e 0 rfl) (T.e 2 rfl) rfl hq7u10 (by omega) rfl (Nat.le_of_ble_eq_true rfl) rfl rfl ?_; clear M T; intro Jw1 wc ac hsw1 M T
   replace M : Mem w noEx wc ((g3, .cells [.int .i64 s.lo, .int .i64 s.wi, .int .i64 s.a0, .int .i64 s.a1, .int .i64 s.c0, .int .i64 s.c1, .slice AKu3 s.ps.length cKu3]) :: (bpu2, .cells [.int .u64 sp9]) :: (g2, .cells [.int .i64 y5.x, .int .i64 y5.y, .bool y5.t]) :: (g1, .cells [.int .i64 s0.lo, .int .i64 s0.wi, .int .i64 s0.a0, .int .i64 s0.a1, .int .i64 s0.c0, .int .i64 s0.c1, .slice A0 s0.ps.length c0]) :: (IKu3 ++ IXu4 ++ IPL ++ I2x ++ Jw1)) := M
   obtain ⟨lo1, hlo1⟩ : ∃ qq9 : List Spt, qq9 = L1x.set ku10 (⟨y5.x, y5.y, y5.t⟩) := ⟨_, rfl⟩
   replace hsw1 : Sw 3 Augo1 PL.length b1x (tc lo1) Jw1 := by rw [hlo1]; exact hsw1
   have lhlo1 : lo1.length = L1x.length := by rw [hlo1, List.length_set]
   have Ss1 := hsw1.sp (w := w) (ex := noEx)
   refine Zso hK _ _ (MA.mk (fun h => (no_of (by kernel_rfl) h).elim) (M.perm [] rfl rfl)) ?_; clear hK K
   refine Zgd (by kernel_rfl) ?_
   replace T := T.pick [7, 8, 9, 10, 11, 12, 13, 14, 16, 17, 18, 19] rfl
   replace M := M.mask [true, true, false, true] rfl
   replace M : Mem w noEx wc ((g3, .cells [.int .i64 s.lo, .int .i64 s.wi, .int .i64 s.a0, .int .i64 s.a1, .int .i64 s.c0, .int .i64 s.c1, .slice AKu3 s.ps.length cKu3]) :: (bpu2, .cells [.int .u64 sp9]) :: (g1, .cells [.int .i64 s0.lo, .int .i64 s0.wi, .int .i64 s0.a0, .int .i64 s0.a1, .int .i64 s0.c0, .int .i64 s0.c1, .slice A0 s0.ps.length c0]) :: (IKu3 ++ IXu4 ++ IPL ++ I2x ++ Jw1)) := M
   refine nm_then ?_
   refine Zgs M (M.perm [] rfl rfl) 19 (by kernel_rfl) rfl (by kernel_rfl) ?_
   clear M; intro wc M
   refine g_addG 8 M ?_
   refine g_addG 18 (M.mask [true, false, true] rfl) ?_
   refine gq T 0 1 rfl (fun _ _ _ _ _ => (Zrm rfl (T.e 1 rfl))) ?_; clear T ac; intro ac T
   refine gq T 1 3 rfl (fun _ _ _ _ _ => (Zrm rfl (T.e 7 rfl))) ?_; clear T ac; intro ac T
   refine gq T 2 7 rfl (fun _ _ _ _ _ => (Zrm rfl (T.e 2 rfl))) ?_; clear T ac; intro ac T
   refine gq T 4 23 rfl (fun _ _ _ _ _ => (Zrm rfl (T.e 11 rfl))) ?_; clear T ac; intro ac T
   refine gq (v := (.pointer (some ⟨g3, 0, none⟩))) T 5 55 rfl (fun _ _ _ _ _ => (Zrf (off := 0) rfl (T.e 13 rfl) (fun _ _ _ => by kernel_rfl))) ?_; clear T ac; intro ac T
   refine gq T 6 119 rfl (fun B w' hD hl hS => (Zro (Mem.nth (show Mem w noEx w' _ from ((MA.lft hS) (hD.wait (i := 6) (m := 18) (by kernel_rfl) hl))) 0 rfl) rfl (T.e 0 rfl) rfl)) ?_; clear T ac; intro ac T
   refine gq T 7 247 rfl (fun _ _ _ _ _ => (rn_sub rfl (T.e 0 rfl) evc (by omega))) ?_; clear T ac; intro ac T
   refine gq T 9 759 rfl (fun _ _ _ _ _ => (Zrm rfl (T.e 15 rfl))) ?_; clear T ac; intro ac T
   refine gq (v := (.pointer (some ⟨g3, 1, none⟩))) T 10 1783 rfl (fun _ _ _ _ _ => (Zrf (off := 1) rfl (T.e 17 rfl) (fun _ _ _ => by kernel_rfl))) ?_; clear T ac; intro ac T
   refine gq T 11 3831 rfl (fun B w' hD hl hS => (Zro (Mem.nth (show Mem w noEx w' _ from ((MA.lft hS) (hD.wait (i := 11) (m := 18) (by kernel_rfl) hl))) 0 rfl) rfl (T.e 0 rfl) rfl)) ?_; clear T ac; intro ac T
   refine gq T 12 7927 rfl (fun _ _ _ _ _ => (rn_sub rfl (T.e 0 rfl) evc (by omega))) ?_; clear T ac; intro ac T
   refine gq T 14 24311 rfl (fun _ _ _ _ _ => (Zrm rfl (T.e 19 rfl))) ?_; clear T ac; intro ac T
   refine gw 3 24319 ?_; intro K hK
   refine Zoc (first := []) (cap := []) T rfl rfl rfl rfl evf (.cons (T.e 10 rfl) (.cons (T.e 9 rfl) .nil)) Tryd.func24 rfl rfl ?_
   refine Calls.mono (turn_any x4 PL.length _ (by omega) (by omega)) ?_
   clear T; rintro e wc ⟨ku11, rfl, hku11, hb⟩ ac T
   replace M := M.call hb; clear hb
   obtain ⟨q7u11, hq7u11, -⟩ := tc_next (l := L2x) (k := ku11) (by omega)
   refine Zso hK _ _ (MA.mk (fun _ => M.mask [true, false, true] rfl) (MA.mk (fun _ => M.mask [true, true, true] rfl) (M.perm [] rfl rfl))) ?_; clear hK K
   refine gw 8 24575 ?_; intro K hK
   refine Zoc (first := []) (cap := []) T rfl rfl rfl rfl evf (.cons (T.e 9 rfl) (.cons (T.e 6 rfl) .nil)) Tryd.func21 rfl rfl ?_
   refine Calls.mono (upto_any _ bpu2 (s.lo - 1) _ (by omega) (by omega) (M.nth 1 rfl) hsp) ?_
   clear T; rintro e wc ⟨xu12, su12, hxu12, hsu12, rfl, hgr, hbk⟩ ac T
   replace M := M.callC (cs' := [.int .u64 su12]) (.tail .head) hgr hbk
   clear hgr hbk
   obtain ⟨k9u12, hk9u12⟩ : ∃ k : Nat, xu12 = (k : Int) := ⟨xu12.toNat, by omega⟩
   refine Zso hK _ _ (MA.mk (fun _ => M.mask [true, false, true] rfl) (MA.mk (fun h => (no_of (by kernel_rfl) h).elim) (M.perm [] rfl rfl))) ?_; clear hK K
   refine gw 13 32767 ?_; intro K hK
   refine Zoc (first := []) (cap := []) T rfl rfl rfl rfl evf (.cons (T.e 6 rfl) (.cons (T.e 3 rfl) .nil)) Tryd.func21 rfl rfl ?_
   refine Calls.mono (upto_any _ bpu2 (s.wi - 1) _ (by omega) (by omega) (M.nth 1 rfl) hsu12) ?_
   clear T; rintro e wc ⟨xu13, su13, hxu13, hsu13, rfl, hgr, hbk⟩ ac T
   replace M := M.callC (cs' := [.int .u64 su13]) (.tail .head) hgr hbk
   clear hgr hbk
   obtain ⟨k9u13, hk9u13⟩ : ∃ k : Nat, xu13 = (k : Int) := ⟨xu13.toNat, by omega⟩
   refine Zso hK _ _ (MA.mk (fun _ => M.mask [true, false, true] rfl) (MA.mk (fun h => (no_of (by kernel_rfl) h).elim) (M.perm [] rfl rfl))) ?_; clear hK K
   refine gw 15 65535 ?_; intro K hK
   refine Zoc (first := []) (cap := []) T rfl rfl rfl rfl evf (.cons (T.e 3 rfl) (.cons evc (.cons evc .nil))) Tryd.func23 rfl rfl ?_
   refine Calls.mono (odds_any _ bpu2 1 2 _ (by omega) (by omega) (M.nth 1 rfl) hsu13) ?_
   clear T; rintro e wc ⟨bu14, su14, hsu14, rfl, hgr, hbk⟩ ac T
   replace M := M.callC (cs' := [.int .u64 su14]) (.tail .head) hgr hbk
   clear hgr hbk
   refine Zso hK _ _ (MA.mk (fun _ => M.mask [true, false, true] rfl) (MA.mk (fun h => (no_of (by kernel_rfl) h).elim) (M.perm [] rfl rfl))) ?_; clear hK K
   refine gq (v := (.agg #[.int .i64 xu12, .int .i64 xu13, .bool bu14])) T 16 131071 rfl (fun _ _ _ _ _ => (rn_build rfl (.cons (T.e 2 rfl) (.cons (T.e 1 rfl) (.cons (T.e 0 rfl) .nil))) (fun _ => by kernel_rfl))) ?_; clear T ac; intro ac T
   refine gq T 17 262143 rfl (fun _ _ _ _ _ => (Zri (size := 3) ku11 rfl (T.e 16 rfl) (T.e 4 rfl) ⟨_, Tryd.underlying28, by kernel_rfl⟩ rfl (by omega) (Sx2.at0 (by omega)))) ?_; clear T ac; intro ac T
   refine gw 18 524287 ?_; intro K hK
   replace M : Mem w noEx wc ((g3, .cells [.int .i64 s.lo, .int .i64 s.wi, .int .i64 s.a0, .int .i64 s.a1, .int .i64 s.c0, .int .i64 s.c1, .slice AKu3 s.ps.length cKu3]) :: (bpu2, .cells [.int .u64 su14]) :: (g1, .cells [.int .i64 s0.lo, .int .i64 s0.wi, .int .i64 s0.a0, .int .i64 s0.a1, .int .i64 s0.c0, .int .i64 s0.c1, .slice A0 s0.ps.length c0]) :: (IKu3 ++ IXu4 ++ IPL ++ Jw1 ++ I2x)) := M.tail3 (K := [(g3, .cells [.int .i64 s.lo, .int .i64 s.wi, .int .i64 s.a0, .int .i64 s.a1, .int .i64 s.c0, .int .i64 s.c1, .slice AKu3 s.ps.length cKu3]), (bpu2, .cells [.int .u64 su14]), (g1, .cells [.int .i64 s0.lo, .int .i64 s0.wi, .int .i64 s0.a0, .int .i64 s0.a1, .int .i64 s0.c0, .int .i64 s0.c1, .slice A0 s0.ps.length c0])]) (A := IKu3 ++ IXu4 ++ IPL)
   refine ow_stTK tcE 3 (fun _ => rfl) 0 (p' := (⟨xu12, xu13, bu14⟩ : Spt)) (((g3, .cells [.int .i64 s.lo, .int .i64 s.wi, .int .i64 s.a0, .int .i64 s.a1, .int .i64 s.c0, .int .i64 s.c1, .slice AKu3 s.ps.length cKu3]) :: (bpu2, .cells [.int .u64 su14]) :: (g1, .cells [.int .i64 s0.lo, .int .i64 s0.wi, .int .i64 s0.a0, .int .i64 s0.a1, .int .i64 s0.c0, .int .i64 s0.c1, .slice A0 s0.ps.length c0]) :: (IKu3 ++ IXu4 ++ IPL ++ Jw1))) M (by first | rfl | simp) hsw2 T rfl rfl (T.e 0 rfl) (T.e 1 rfl) rfl hq7u11 (by omega) rfl (Nat.le_of_ble_eq_true rfl) rfl rfl ?_; clear M T; intro Jw2 wc ac hsw2 M T
   replace M : Mem w noEx wc ((g3, .cells [.int .i64 s.lo, .int .i64 s.wi, .int .i64 s.a0, .int .i64 s.a1, .int .i64 s.c0, .int .i64 s.c1, .slice AKu3 s.ps.length cKu3]) :: (bpu2, .cells [.int .u64 su14]) :: (g1, .cells [.int .i64 s0.lo, .int .i64 s0.wi, .int .i64 s0.a0, .int .i64 s0.a1, .int .i64 s0.c0, .int .i64 s0.c1, .slice A0 s0.ps.length c0]) :: (IKu3 ++ IXu4 ++ IPL ++ Jw1 ++ Jw2)) := M
   obtain ⟨lo2, hlo2⟩ : ∃ qq9 : List Spt, qq9 = L2x.set ku11 (⟨xu12, xu13, bu14⟩) := ⟨_, rfl⟩
   replace hsw2 : Sw 3 Augo2 PL.length b2x (tc lo2) Jw2 := by rw [hlo2]; exact hsw2
   have lhlo2 : lo2.length = L2x.length := by rw [hlo2, List.length_set]
   have Ss2 := hsw2.sp (w := w) (ex := noEx)
   refine Zso hK _ _ (MA.mk (fun h => (no_of (by kernel_rfl) h).elim) (MA.mk (fun h => (no_of (by kernel_rfl) h).elim) (M.perm [] rfl rfl))) ?_; clear hK K
   refine Zgd (by kernel_rfl) ?_
   replace T := T.pick [19, 20, 21, 22, 23, 25, 27, 28, 29] rfl
   replace M := M.mask [true, false, true] rfl
   replace M : Mem w noEx wc ((g3, .cells [.int .i64 s.lo, .int .i64 s.wi, .int .i64 s.a0, .int .i64 s.a1, .int .i64 s.c0, .int .i64 s.c1, .slice AKu3 s.ps.length cKu3]) :: (g1, .cells [.int .i64 s0.lo, .int .i64 s0.wi, .int .i64 s0.a0, .int .i64 s0.a1, .int .i64 s0.c0, .int .i64 s0.c1, .slice A0 s0.ps.length c0]) :: (IKu3 ++ IXu4 ++ IPL ++ Jw1 ++ Jw2)) := M
   have hle1 : PL.length = lo1.length := by omega
   have hle2 : PL.length = lo2.length := by omega
   have hw1 := hsw1
   have hw2 := hsw2
   rw [hle1] at hw1
   rw [hle2] at hw2
   rw [show (Value.slice Augo1 PL.length cugo1) = .slice Augo1 lo1.length cugo1 from by rw [hle1], show (Value.slice Augo2 PL.length cugo2) = .slice Augo2 lo2.length cugo2 from by rw [hle2]] at T
   exact ⟨lo1, lo2, Jw1, Jw2, (by omega), (by omega), ⟨_, _, fun w ex => hw1.sp⟩, ⟨_, _, fun w ex => hw2.sp⟩, T.pick [2, 3, 4, 5, 6, 7, 8, 1, 0] rfl, M⟩
  intro h6
  refine wp_skip ?_
  exact ⟨PL, PL, Iugo1, Iugo2, hPL, hPL, ⟨_, _, SVugo1⟩, ⟨_, _, SVugo2⟩, T.pick [4, 5, 6, 8, 11, 12, 13, 3, 2] rfl, (M.permT [0, 3] 4 rfl rfl rfl rfl)⟩
 clear T M
 rintro ac wc ⟨OT, TH, I1, I2, hOT, hTH, hSO, hST, T, M⟩
 obtain ⟨bOT, oOT, SVOT⟩ := hSO
 have SOT := SVOT w noEx
 obtain ⟨bTH, oTH, SVTH⟩ := hST
 have STH := SVTH w noEx
 refine Zsr ?_
 refine Zg5 T (Zq (Zrr (Mem.nth M 1 rfl) rfl (T.e 3 rfl) rfl)) rfl (Zr M 0 5 rfl rfl rfl rfl) rfl (Zr M 0 6 rfl rfl rfl rfl) rfl (Zr M 0 7 rfl rfl rfl rfl) rfl (Zr M 0 8 rfl rfl rfl rfl) rfl ?_; clear T ac; intro ac T
 refine Zl2 ?_
 refine ow_bs (e := 26) [.int .i64 s0.lo, .int .i64 s0.wi, .int .i64 s0.a0, .int .i64 s0.a1, .int .i64 s0.c0, .int .i64 s0.c1, .slice A0 s0.ps.length c0, .int .i64 s.lo, .int .i64 s.wi, .int .i64 s.a0, .int .i64 s.a1, .int .i64 s.c0, .int .i64 s.c1, .slice AKu3 s.ps.length cKu3, .int .i64 s.lo, .int .i64 s.wi, .int .i64 s.a0, .int .i64 s.a1, .int .i64 s.c0, .int .i64 s.c1, .slice AKu3 s.ps.length cKu3, .int .i64 s.lo, .int .i64 s.wi, .int .i64 s.a0, .int .i64 s.a1, .int .i64 s.c0, .int .i64 s.c1, .slice AKu3 s.ps.length cKu3, .int .i64 s.lo, .int .i64 s.wi, .int .i64 s.a0, .int .i64 s.a1, .int .i64 s.c0, .int .i64 s.c1, .slice AKu3 s.ps.length cKu3] M T rfl rfl rfl rfl (.cons (T.e 4 rfl) (.cons (T.e 3 rfl) (.cons (T.e 2 rfl) (.cons (T.e 1 rfl) (.cons (T.e 0 rfl) .nil))))) (fun _ => by kernel_rfl) ?_; clear M T; intro g7 wc ac M T
 refine Zg5 T (Zq (Zrm rfl (T.e 6 rfl))) rfl (Zm 12 rfl rfl) rfl (Zm 13 rfl rfl) rfl (Zm 14 rfl rfl) rfl (Zm 10 rfl rfl) rfl ?_; clear T ac; intro ac T
 refine Zl2 ?_
 refine ow_bs (e := 27) [.slice Gz gz.length dz, .slice Aq1 lq1.length (cXu4 - 0), .slice Aq1 lq1.length (cXu4 - 0), .slice Aq1 lq1.length (cXu4 - 0), .slice Gz gz.length dz] M T rfl rfl rfl rfl (.cons (T.e 4 rfl) (.cons (T.e 3 rfl) (.cons (T.e 2 rfl) (.cons (T.e 1 rfl) (.cons (T.e 0 rfl) .nil))))) (fun _ => by kernel_rfl) ?_; clear M T; intro g8 wc ac M T
 refine Zg5 T (Zq (Zrm rfl (T.e 13 rfl))) rfl (Zm 19 rfl rfl) rfl (Zm 21 rfl rfl) rfl (Zm 23 rfl rfl) rfl (Zm 17 rfl rfl) rfl ?_; clear T ac; intro ac T
 refine Zl2 ?_
 refine ow_bs (e := 28) [.slice Pz pz.length ez, .slice PA PL.length pc9, .slice Augo1 OT.length cugo1, .slice Augo2 TH.length cugo2, .slice Pz pz.length ez] M T rfl rfl rfl rfl (.cons (T.e 4 rfl) (.cons (T.e 3 rfl) (.cons (T.e 2 rfl) (.cons (T.e 1 rfl) (.cons (T.e 0 rfl) .nil))))) (fun _ => by kernel_rfl) ?_; clear M T; intro g9 wc ac M T
 refine Zg3 T (Zq (Zra rfl (T.e 12 rfl))) rfl (Za 7 rfl rfl) rfl (Za 2 rfl rfl) rfl ?_; clear T ac; intro ac T
 refine wpList_nil ?_
 replace T := T.pick [0, 1, 2, 23] rfl
 replace M := M.mask [true, true, true, false, false] rfl
 replace M : Mem w noEx wc ((g9, .cells [.slice Pz pz.length ez, .slice PA PL.length pc9, .slice Augo1 OT.length cugo1, .slice Augo2 TH.length cugo2, .slice Pz pz.length ez]) :: (g8, .cells [.slice Gz gz.length dz, .slice Aq1 lq1.length (cXu4 - 0), .slice Aq1 lq1.length (cXu4 - 0), .slice Aq1 lq1.length (cXu4 - 0), .slice Gz gz.length dz]) :: (g7, .cells [.int .i64 s0.lo, .int .i64 s0.wi, .int .i64 s0.a0, .int .i64 s0.a1, .int .i64 s0.c0, .int .i64 s0.c1, .slice A0 s0.ps.length c0, .int .i64 s.lo, .int .i64 s.wi, .int .i64 s.a0, .int .i64 s.a1, .int .i64 s.c0, .int .i64 s.c1, .slice AKu3 s.ps.length cKu3, .int .i64 s.lo, .int .i64 s.wi, .int .i64 s.a0, .int .i64 s.a1, .int .i64 s.c0, .int .i64 s.c1, .slice AKu3 s.ps.length cKu3, .int .i64 s.lo, .int .i64 s.wi, .int .i64 s.a0, .int .i64 s.a1, .int .i64 s.c0, .int .i64 s.c1, .slice AKu3 s.ps.length cKu3, .int .i64 s.lo, .int .i64 s.wi, .int .i64 s.a0, .int .i64 s.a1, .int .i64 s.c0, .int .i64 s.c1, .slice AKu3 s.ps.length cKu3]) :: (IKu3 ++ IXu4 ++ IPL ++ I1 ++ I2)) := M
 refine Zns ?_
 refine Zsr ?_
 refine lq T (Zra rfl evc) ?_; clear T ac; intro ac T
 refine Zln ?_
 refine wp_block ?_
 obtain ⟨IT, hIT⟩ : ∃ IT : List (Nat × BA), IT = ((g9, .cells [.slice Pz pz.length ez, .slice PA PL.length pc9, .slice Augo1 OT.length cugo1, .slice Augo2 TH.length cugo2, .slice Pz pz.length ez]) :: (g8, .cells [.slice Gz gz.length dz, .slice Aq1 lq1.length (cXu4 - 0), .slice Aq1 lq1.length (cXu4 - 0), .slice Aq1 lq1.length (cXu4 - 0), .slice Gz gz.length dz]) :: (g7, .cells [.int .i64 s0.lo, .int .i64 s0.wi, .int .i64 s0.a0, .int .i64 s0.a1, .int .i64 s0.c0, .int .i64 s0.c1, .slice A0 s0.ps.length c0, .int .i64 s.lo, .int .i64 s.wi, .int .i64 s.a0, .int .i64 s.a1, .int .i64 s.c0, .int .i64 s.c1, .slice AKu3 s.ps.length cKu3, .int .i64 s.lo, .int .i64 s.wi, .int .i64 s.a0, .int .i64 s.a1, .int .i64 s.c0, .int .i64 s.c1, .slice AKu3 s.ps.length cKu3, .int .i64 s.lo, .int .i64 s.wi, .int .i64 s.a0, .int .i64 s.a1, .int .i64 s.c0, .int .i64 s.c1, .slice AKu3 s.ps.length cKu3, .int .i64 s.lo, .int .i64 s.wi, .int .i64 s.a0, .int .i64 s.a1, .int .i64 s.c0, .int .i64 s.c1, .slice AKu3 s.ps.length cKu3]) :: (IKu3 ++ IXu4 ++ IPL ++ I1 ++ I2)) := ⟨_, rfl⟩
 have S0 : Sp w noEx IT (some ⟨g7, 0, none⟩) 5 7 g7 0 (sk ([(s0, A0, c0), (s, AKu3, cKu3), (s, AKu3, cKu3), (s, AKu3, cKu3), (s, AKu3, cKu3)] : List SE)) := (Sp.cells (w := w) (ex := noEx) (g := g7) (xs := sk ([(s0, A0, c0), (s, AKu3, cKu3), (s, AKu3, cKu3), (s, AKu3, cKu3), (s, AKu3, cKu3)] : List SE)) (n := 5) (size := 7) (by rfl)).mono (by rw [hIT]; exact (.cons _ (.cons _ (List.Sublist.cons_cons _ (List.nil_sublist _)))))
 have E0 : ∀ x ∈ ([(s0, A0, c0), (s, AKu3, cKu3), (s, AKu3, cKu3), (s, AKu3, cKu3), (s, AKu3, cKu3)] : List SE), x.1.ps.length ≤ 20 ∧ x.1.ps.length ≤ x.1.ps.length ∧ ∃ b o, Sp w noEx IT x.2.1 x.1.ps.length 4 b o (pc x.1.ps) := by
   intro x hx
   simp only [List.mem_cons, List.not_mem_nil, or_false] at hx
   rcases hx with rfl | rfl | rfl | rfl | rfl
   · exact ⟨by first | omega | (dsimp only; omega) | (simp only [skA, skP, List.length_append, List.length_replicate]; omega), Nat.le_refl _, _, _, SA0.mono (by rw [hIT]; exact List.nil_sublist _)⟩
   · exact ⟨by first | omega | (dsimp only; omega) | (simp only [skA, skP, List.length_append, List.length_replicate]; omega), Nat.le_refl _, _, _, SAKu3.mono (by rw [hIT]; exact (.cons _ (.cons _ (.cons _ (subL (subL (subL (subL (List.Sublist.refl _)))))))))⟩
   · exact ⟨by first | omega | (dsimp only; omega) | (simp only [skA, skP, List.length_append, List.length_replicate]; omega), Nat.le_refl _, _, _, SAKu3.mono (by rw [hIT]; exact (.cons _ (.cons _ (.cons _ (subL (subL (subL (subL (List.Sublist.refl _)))))))))⟩
   · exact ⟨by first | omega | (dsimp only; omega) | (simp only [skA, skP, List.length_append, List.length_replicate]; omega), Nat.le_refl _, _, _, SAKu3.mono (by rw [hIT]; exact (.cons _ (.cons _ (.cons _ (subL (subL (subL (subL (List.Sublist.refl _)))))))))⟩
   · exact ⟨by first | omega | (dsimp only; omega) | (simp only [skA, skP, List.length_append, List.length_replicate]; omega), Nat.le_refl _, _, _, SAKu3.mono (by rw [hIT]; exact (.cons _ (.cons _ (.cons _ (subL (subL (subL (subL (List.Sublist.refl _)))))))))⟩
 obtain ⟨SS, hSS, SSS, ESS⟩ : ∃ SS : List SE, SS.length = 5 ∧ Sp w noEx IT (some ⟨g7, 0, none⟩) 5 7 g7 0 (sk SS) ∧ ∀ x ∈ SS, x.1.ps.length ≤ 20 ∧ x.1.ps.length ≤ x.1.ps.length ∧ ∃ b o, Sp w noEx IT x.2.1 x.1.ps.length 4 b o (pc x.1.ps) := ⟨_, rfl, S0, E0⟩
 clear S0 E0
 have S0 : Sp w noEx IT (some ⟨g8, 0, none⟩) 5 1 g8 0 (lc ([(gz, Gz, dz), (lq1, Aq1, (cXu4 - 0)), (lq1, Aq1, (cXu4 - 0)), (lq1, Aq1, (cXu4 - 0)), (gz, Gz, dz)] : List LE)) := (Sp.cells (w := w) (ex := noEx) (g := g8) (xs := lc ([(gz, Gz, dz), (lq1, Aq1, (cXu4 - 0)), (lq1, Aq1, (cXu4 - 0)), (lq1, Aq1, (cXu4 - 0)), (gz, Gz, dz)] : List LE)) (n := 5) (size := 1) (by rfl)).mono (by rw [hIT]; exact (.cons _ (List.Sublist.cons_cons _ (List.nil_sublist _))))
 have E0 : ∀ x ∈ ([(gz, Gz, dz), (lq1, Aq1, (cXu4 - 0)), (lq1, Aq1, (cXu4 - 0)), (lq1, Aq1, (cXu4 - 0)), (gz, Gz, dz)] : List LE), x.1.length ≤ 20 ∧ ∃ b o, Sp w noEx IT x.2.1 x.1.length 1 b o (ic x.1) := by
   intro x hx
   simp only [List.mem_cons, List.not_mem_nil, or_false] at hx
   rcases hx with rfl | rfl | rfl | rfl | rfl
   · exact ⟨by first | omega | (dsimp only; omega) | (simp only [skA, skP, List.length_append, List.length_replicate]; omega), _, _, SGz.mono (by rw [hIT]; exact List.nil_sublist _)⟩
   · exact ⟨by first | omega | (dsimp only; omega) | (simp only [skA, skP, List.length_append, List.length_replicate]; omega), _, _, SAq1.mono (by rw [hIT]; exact (.cons _ (.cons _ (.cons _ (subL (subL (subL (Zsq _ _))))))))⟩
   · exact ⟨by first | omega | (dsimp only; omega) | (simp only [skA, skP, List.length_append, List.length_replicate]; omega), _, _, SAq1.mono (by rw [hIT]; exact (.cons _ (.cons _ (.cons _ (subL (subL (subL (Zsq _ _))))))))⟩
   · exact ⟨by first | omega | (dsimp only; omega) | (simp only [skA, skP, List.length_append, List.length_replicate]; omega), _, _, SAq1.mono (by rw [hIT]; exact (.cons _ (.cons _ (.cons _ (subL (subL (subL (Zsq _ _))))))))⟩
   · exact ⟨by first | omega | (dsimp only; omega) | (simp only [skA, skP, List.length_append, List.length_replicate]; omega), _, _, SGz.mono (by rw [hIT]; exact List.nil_sublist _)⟩
 obtain ⟨LL, hLL, SLL, ELL⟩ : ∃ LL : List LE, LL.length = 5 ∧ Sp w noEx IT (some ⟨g8, 0, none⟩) 5 1 g8 0 (lc LL) ∧ ∀ x ∈ LL, x.1.length ≤ 20 ∧ ∃ b o, Sp w noEx IT x.2.1 x.1.length 1 b o (ic x.1) := ⟨_, rfl, S0, E0⟩
 clear S0 E0
 have S0 : Sp w noEx IT (some ⟨g9, 0, none⟩) 5 1 g9 0 (ltV ([(pz, Pz, ez), (PL, PA, pc9), (OT, Augo1, cugo1), (TH, Augo2, cugo2), (pz, Pz, ez)] : List TE)) := (Sp.cells (w := w) (ex := noEx) (g := g9) (xs := ltV ([(pz, Pz, ez), (PL, PA, pc9), (OT, Augo1, cugo1), (TH, Augo2, cugo2), (pz, Pz, ez)] : List TE)) (n := 5) (size := 1) (by rfl)).mono (by rw [hIT]; exact (List.Sublist.cons_cons _ (List.nil_sublist _)))
 have E0 : ∀ x ∈ ([(pz, Pz, ez), (PL, PA, pc9), (OT, Augo1, cugo1), (TH, Augo2, cugo2), (pz, Pz, ez)] : List TE), x.1.length ≤ 20 ∧ ∃ b o, Sp w noEx IT x.2.1 x.1.length 3 b o (tc x.1) := by
   intro x hx
   simp only [List.mem_cons, List.not_mem_nil, or_false] at hx
   rcases hx with rfl | rfl | rfl | rfl | rfl
   · exact ⟨by first | omega | (dsimp only; omega) | (simp only [skA, skP, List.length_append, List.length_replicate]; omega), _, _, SPz.mono (by rw [hIT]; exact List.nil_sublist _)⟩
   · exact ⟨by first | omega | (dsimp only; omega) | (simp only [skA, skP, List.length_append, List.length_replicate]; omega), _, _, SPL.mono (by rw [hIT]; exact (.cons _ (.cons _ (.cons _ (subL (subL (Zsq _ _)))))))⟩
   · exact ⟨by first | omega | (dsimp only; omega) | (simp only [skA, skP, List.length_append, List.length_replicate]; omega), _, _, SOT.mono (by rw [hIT]; exact (.cons _ (.cons _ (.cons _ (subL (Zsq _ _))))))⟩
   · exact ⟨by first | omega | (dsimp only; omega) | (simp only [skA, skP, List.length_append, List.length_replicate]; omega), _, _, STH.mono (by rw [hIT]; exact (.cons _ (.cons _ (.cons _ (Zsq _ _)))))⟩
   · exact ⟨by first | omega | (dsimp only; omega) | (simp only [skA, skP, List.length_append, List.length_replicate]; omega), _, _, SPz.mono (by rw [hIT]; exact List.nil_sublist _)⟩
 obtain ⟨LT, hLT, SLT, ELT⟩ : ∃ LT : List TE, LT.length = 5 ∧ Sp w noEx IT (some ⟨g9, 0, none⟩) 5 1 g9 0 (ltV LT) ∧ ∀ x ∈ LT, x.1.length ≤ 20 ∧ ∃ b o, Sp w noEx IT x.2.1 x.1.length 3 b o (tc x.1) := ⟨_, rfl, S0, E0⟩
 clear S0 E0
 replace M : Mem w noEx wc IT := by rw [hIT]; exact M
 clear hIT
 refine wp_loop_n (fun mz ac wc => ∃ (i : Nat), mz = 5 - i ∧ (i ≤ 5) ∧ Tm ac 229 [(3, .bool b3), (24, .slice (some ⟨g7, 0, none⟩) 5 5), (25, .slice (some ⟨g8, 0, none⟩) 5 5), (26, .slice (some ⟨g9, 0, none⟩) 5 5), (27, .int .i64 (i : Int))] ∧ Mem w noEx wc (IT)) ?_ ?_
 ·exact ⟨_, 0, rfl, (Nat.zero_le _), T.pick [4, 3, 2, 1, 0] rfl, M⟩
 clear T M
 rintro mz ac wc ⟨i, hmm2, hi, T, M⟩
 refine wp_seq ?_
 refine Zsr ?_
 refine Zg4 (v3 := (.int .i64 5)) T (Zq (Zrm rfl (T.e 4 rfl))) rfl (Zm 2 rfl rfl) rfl (Zl Tryd.underlying42 0 rfl rfl) rfl (fun _ T => Zq (rn_lss rfl (T.e 2 rfl) (T.e 0 rfl))) rfl ?_; clear T ac; intro ac T
 refine wpList_nil ?_
 replace T := T.pick [0, 4, 5, 6, 7, 8] rfl
 refine nm_then ?_
 refine wp_if (T.e 0 rfl) ?_ ?_
 ·intro h7
  obtain ⟨⟨s9, A9, c9⟩, hk9⟩ : ∃ x, SS[i]? = some x := ⟨_, List.getElem?_eq_getElem (by omega)⟩
  obtain ⟨hf9, -, b9, o9, S9⟩ := ESS _ (List.mem_of_getElem? hk9)
  replace hf9 : s9.ps.length ≤ 20 := hf9
  replace S9 : Sp w noEx IT A9 s9.ps.length 4 b9 o9 (pc s9.ps) := S9
  obtain ⟨⟨gq9, Gq9, dq9⟩, hkg9⟩ : ∃ x, LL[i]? = some x := ⟨_, List.getElem?_eq_getElem (by omega)⟩
  obtain ⟨hgl9, bg9, og9, SG9⟩ := ELL _ (List.mem_of_getElem? hkg9)
  replace hgl9 : gq9.length ≤ 20 := hgl9
  replace SG9 : Sp w noEx IT Gq9 gq9.length 1 bg9 og9 (ic gq9) := SG9
  obtain ⟨⟨pq9, Pq9, eq9⟩, hkp9⟩ : ∃ x, LT[i]? = some x := ⟨_, List.getElem?_eq_getElem (by omega)⟩
  obtain ⟨hpl9, bp9, op9, SP9⟩ := ELT _ (List.mem_of_getElem? hkp9)
  replace hpl9 : pq9.length ≤ 20 := hpl9
  replace SP9 : Sp w noEx IT Pq9 pq9.length 3 bp9 op9 (tc pq9) := SP9
  refine Zsk ?_
  refine wp_seq ?_
  refine wp_block ?_
  refine wp_seq ?_
  refine Zgs M M 20 (by kernel_rfl) rfl (by kernel_rfl) ?_
  clear M; intro wc M
  refine g_have (fun ac wc => ∃ (ACur23_4 : Option Addr), ∃ (cCur23_4 : Nat), ∃ (ICur23_4 : List (Nat × BA)), ∃ (bACur23_4 : Nat), ∃ (oACur23_4 : Nat), ∃ (AIur23_9 : Option Addr), ∃ (cIur23_9 : Nat), ∃ (IMur23_9 : List (Nat × BA)), ∃ (bAIur23_9 : Nat), ∃ (oAIur23_9 : Nat), ∃ (Aur23 : Option Addr), ∃ (cur23 : Nat), ∃ (Iur23 : List (Nat × BA)), ∃ (bur23 : Nat), ∃ (our23 : Nat), (Sp w noEx ICur23_4 ACur23_4 s9.ps.length 4 bACur23_4 oACur23_4 (pc s9.ps)) ∧ (s9.ps.length ≤ cCur23_4) ∧ (Sp w noEx IMur23_9 AIur23_9 gq9.length 1 bAIur23_9 oAIur23_9 (ic gq9)) ∧ (gq9.length ≤ cIur23_9) ∧ (Sp w noEx Iur23 Aur23 pq9.length 3 bur23 our23 (tc pq9)) ∧ ∃ (gr23_16 : Nat), Tm ac 229 [(28, .pointer (some ⟨gr23_16, 0, none⟩)), (167, .slice Aur23 pq9.length cur23), (161, .slice AIur23_9 gq9.length cIur23_9), (156, .agg #[.int .i64 s9.lo, .int .i64 s9.wi, .int .i64 s9.a0, .int .i64 s9.a1, .int .i64 s9.c0, .int .i64 s9.c1, .slice ACur23_4 s9.ps.length cCur23_4]), (166, .slice Pq9 pq9.length eq9), (165, .pointer (some ⟨g9, 0 + i * 1, none⟩)), (164, .int .i64 (i : Int)), (163, .slice (some ⟨g9, 0, none⟩) 5 5), (160, .slice Gq9 gq9.length dq9), (159, .pointer (some ⟨g8, 0 + i * 1, none⟩)), (158, .int .i64 (i : Int)), (157, .slice (some ⟨g8, 0, none⟩) 5 5), (155, .agg #[.int .i64 s9.lo, .int .i64 s9.wi, .int .i64 s9.a0, .int .i64 s9.a1, .int .i64 s9.c0, .int .i64 s9.c1, .slice A9 s9.ps.length c9]), (154, .pointer (some ⟨g7, 0 + i * 7, none⟩)), (153, .int .i64 (i : Int)), (152, .slice (some ⟨g7, 0, none⟩) 5 5), (149, .bool (decide ((i : Int) < 5))), (3, .bool b3), (24, .slice (some ⟨g7, 0, none⟩) 5 5), (25, .slice (some ⟨g8, 0, none⟩) 5 5), (26, .slice (some ⟨g9, 0, none⟩) 5 5), (27, .int .i64 (i : Int))] ∧ Mem w noEx wc ((gr23_16, .cells [.int .i64 0, .int .i64 0, .int .i64 0, .int .i64 0, .int .i64 0, .int .i64 0, .slice none 0 0]) :: (IT ++ ICur23_4 ++ IMur23_9 ++ Iur23))) (Zpb 20 131071) 3 ?_ ?_
  ·clear T M
   rintro ac wc ⟨ACur23_4, cCur23_4, ICur23_4, bACur23_4, oACur23_4, AIur23_9, cIur23_9, IMur23_9, bAIur23_9, oAIur23_9, Aur23, cur23, Iur23, bur23, our23, SACur23_4, hcpCur23_4, SAIur23_9, hcpIur23_9, Sur23, gr23_16, T, M⟩
   refine gw 17 262143 ?_; intro K hK
   refine Zos M T rfl rfl (T.e 0 rfl) (T.e 3 rfl) rfl .head rfl (by simp) rfl (by kernel_rfl) ?_; clear M T; intro wc ac M T
   refine Zso hK _ _ ((M.mask [false] rfl).sub (List.Sublist.trans (List.Sublist.trans (Zsl _ _) (Zsl _ _)) (Zsl _ _))) ?_; clear hK K
   refine gq T 18 524287 rfl (fun _ _ _ _ _ => (Zra rfl (T.e 2 rfl))) ?_; clear T ac; intro ac T
   refine gq T 19 1048575 rfl (fun _ _ _ _ _ => (Zra rfl (T.e 2 rfl))) ?_; clear T ac; intro ac T
   refine Zgd (by kernel_rfl) ?_
   replace T := T.pick [0, 1, 2, 19, 20, 21, 22, 23] rfl
   refine nm_then ?_
   refine Zsr ?_
   refine Zg4 T (Zq (Zrr (Mem.nth M 0 rfl) rfl (T.e 2 rfl) rfl)) rfl (Zm 2 rfl rfl) rfl (Zm 2 rfl rfl) rfl (Zm 6 rfl rfl) rfl ?_; clear T ac; intro ac T
   refine Zl2 ?_
   refine Zoc (first := []) (cap := []) T rfl rfl rfl rfl evf (.cons (T.e 3 rfl) (.cons (T.e 2 rfl) (.cons (T.e 1 rfl) (.cons (T.e 0 rfl) .nil)))) Tryd.func27 rfl rfl ?_
   refine Calls.mono (Cuts_any s9 ACur23_4 cCur23_4 AIur23_9 cIur23_9 gq9 Aur23 cur23 pq9 b3 _ (SACur23_4.rd M (.cons _ (subL (subL (Zsq _ _))))) (SAIur23_9.rd M (.cons _ (subL (Zsq _ _)))) (by omega) (by omega) (by omega) (Sur23.rd M (.cons _ (Zsq _ _))) (by omega)) ?_
   clear T; rintro e wc ⟨rfl, hb⟩ ac T
   replace M := M.call hb; clear hb
   refine Zg5 T (Zq (Zrm rfl (T.e 0 rfl))) rfl (Ze 0 rfl rfl rfl) rfl (Ze 1 rfl rfl rfl) rfl (Za 1 rfl rfl) rfl (Za 1 rfl rfl) rfl ?_; clear T ac; intro ac T
   refine wpList_nil ?_
   replace T := T.pick [0, 1, 10, 11, 12, 13, 14, 15, 16, 17] rfl
   refine Zns ?_
   refine Zgs M (M.mask [true] rfl) 19 (by kernel_rfl) rfl (by kernel_rfl) ?_
   clear M; intro wc M
   refine gq T 0 1 rfl (fun _ _ _ _ _ => (Zrm rfl (T.e 6 rfl))) ?_; clear T ac; intro ac T
   refine gq T 1 3 rfl (fun _ _ _ _ _ => (Zrm rfl (T.e 10 rfl))) ?_; clear T ac; intro ac T
   refine gq T 2 7 rfl (fun _ _ _ _ _ => (Zri (size := 7) i rfl (T.e 1 rfl) (T.e 0 rfl) ⟨_, Tryd.underlying42, by kernel_rfl⟩ rfl (by omega) (SSS.at0 (by omega)))) ?_; clear T ac; intro ac T
   refine gq (v := (.agg #[.int .i64 s9.lo, .int .i64 s9.wi, .int .i64 s9.a0, .int .i64 s9.a1, .int .i64 s9.c0, .int .i64 s9.c1, .slice A9 s9.ps.length c9])) T 3 15 rfl (fun B w' hD hl hS => (rn_rowat (Sp.skR SSS (show Mem w noEx w' _ from hS) (.cons _ (subL (subL (subL (List.Sublist.refl _))))) hk9) rfl (T.e 0 rfl) rfl)) ?_; clear T ac; intro ac T
   refine gq T 4 31 rfl (fun _ _ _ _ _ => (Zrm rfl (T.e 11 rfl))) ?_; clear T ac; intro ac T
   refine gq T 5 63 rfl (fun _ _ _ _ _ => (Zrm rfl (T.e 14 rfl))) ?_; clear T ac; intro ac T
   refine gq T 6 127 rfl (fun _ _ _ _ _ => (Zri (size := 1) i rfl (T.e 1 rfl) (T.e 0 rfl) ⟨_, Tryd.underlying43, by kernel_rfl⟩ rfl (by omega) (SLL.at0 (by omega)))) ?_; clear T ac; intro ac T
   refine gq (v := (.slice Gq9 gq9.length dq9)) T 7 255 rfl (fun B w' hD hl hS => (rn_cell (Sp.lc0 SLL (show Mem w noEx w' _ from hS) (.cons _ (subL (subL (subL (List.Sublist.refl _))))) hkg9) rfl (T.e 0 rfl))) ?_; clear T ac; intro ac T
   refine gq T 8 511 rfl (fun _ _ _ _ _ => (Zrm rfl (T.e 16 rfl))) ?_; clear T ac; intro ac T
   refine gq T 9 1023 rfl (fun _ _ _ _ _ => (Zrm rfl (T.e 18 rfl))) ?_; clear T ac; intro ac T
   refine gq T 10 2047 rfl (fun _ _ _ _ _ => (Zri (size := 1) i rfl (T.e 1 rfl) (T.e 0 rfl) ⟨_, Tryd.underlying44, by kernel_rfl⟩ rfl (by omega) (SLT.at0 (by omega)))) ?_; clear T ac; intro ac T
   refine gq (v := (.slice Pq9 pq9.length eq9)) T 11 4095 rfl (fun B w' hD hl hS => (rn_cell (Sp.lt0 SLT (show Mem w noEx w' _ from hS) (.cons _ (subL (subL (subL (List.Sublist.refl _))))) hkp9) rfl (T.e 0 rfl))) ?_; clear T ac; intro ac T
   refine gq T 12 8191 rfl (fun _ _ _ _ _ => (Zrm rfl (T.e 17 rfl))) ?_; clear T ac; intro ac T
   refine gw 13 16383 ?_; intro K hK
   refine Zoc (first := []) (cap := []) T rfl rfl rfl rfl evf (.cons (T.e 9 rfl) (.cons (T.e 5 rfl) (.cons (T.e 1 rfl) (.cons (T.e 0 rfl) .nil)))) Tryd.func28 rfl rfl ?_
   refine Calls.mono (Cuts8_any s9 A9 c9 Gq9 dq9 gq9 Pq9 eq9 pq9 b3 _ (S9.rd M (.cons _ (subL (subL (subL (List.Sublist.refl _)))))) (SG9.rd M (.cons _ (subL (subL (subL (List.Sublist.refl _)))))) (SP9.rd M (.cons _ (subL (subL (subL (List.Sublist.refl _)))))) (by omega) (by omega) (by omega)) ?_
   clear T; rintro e wc ⟨rfl, hb⟩ ac T
   replace M := M.call hb; clear hb
   refine Zso hK _ _ (M.mask [true] rfl) ?_; clear hK K
   refine gq T 14 32767 rfl (fun _ _ _ _ _ => (Zrm rfl (T.e 0 rfl))) ?_; clear T ac; intro ac T
   refine gq T 15 65535 rfl (fun _ _ _ _ _ => (Zre rfl (T.e 0 rfl) rfl)) ?_; clear T ac; intro ac T
   refine gq T 16 131071 rfl (fun _ _ _ _ _ => (Zre rfl (T.e 1 rfl) rfl)) ?_; clear T ac; intro ac T
   refine gq T 17 262143 rfl (fun _ _ _ _ _ => (Zra rfl (T.e 1 rfl))) ?_; clear T ac; intro ac T
   refine gq T 18 524287 rfl (fun _ _ _ _ _ => (Zra rfl (T.e 1 rfl))) ?_; clear T ac; intro ac T
   refine Zgd (by kernel_rfl) ?_
   replace T := T.pick [0, 1, 19, 20, 21, 22, 23, 24, 25, 26, 27, 28] rfl
   refine nm_then ?_
   refine cut_seq (fun ac wc => Tm ac 229 [(3, .bool b3), (24, .slice (some ⟨g7, 0, none⟩) 5 5), (25, .slice (some ⟨g8, 0, none⟩) 5 5), (26, .slice (some ⟨g9, 0, none⟩) 5 5), (27, .int .i64 (i : Int)), (227, .bool (!((cutsV s9 gq9 pq9 b3) == (cutsV s9 gq9 pq9 b3))))] ∧ Mem w noEx wc ((IT ++ ICur23_4 ++ IMur23_9 ++ Iur23))) ?_ ?_
   ·refine Zgs M (M.mask [true] rfl) 35 (by kernel_rfl) rfl (by kernel_rfl) ?_
    clear M; intro wc M
    refine gq T 0 1 rfl (fun _ _ _ _ _ => (Zrm rfl (T.e 3 rfl))) ?_; clear T ac; intro ac T
    refine gq T 1 3 rfl (fun _ _ _ _ _ => (Zrm rfl (T.e 2 rfl))) ?_; clear T ac; intro ac T
    refine gq (v := (.bool (!((cutsV s9 gq9 pq9 b3) == (cutsV s9 gq9 pq9 b3))))) T 2 7 rfl (fun _ _ _ _ _ => (rn_bin rfl (T.e 1 rfl) (T.e 0 rfl) (by kernel_rfl))) ?_; clear T ac; intro ac T
    refine gq T 3 15 rfl (fun _ _ _ _ _ => (Zrm rfl (T.e 0 rfl))) ?_; clear T ac; intro ac T
    rcases Bool.eq_false_or_eq_true (!((cutsV s9 gq9 pq9 b3) == (cutsV s9 gq9 pq9 b3))) with h8 | h8
    ·refine g_pass (T := T) (i := 4) rfl (by kernel_rfl) (by kernel_rfl : (Zpb 35 15).setIfInBounds 4 true = Zpb 35 31) si_U (fun _ _ _ h => h) (Zwn rfl rfl (T.e 0 rfl) h8) rfl rfl rfl ?_; clear T ac; intro ac T
     refine g_pass (T := T) (i := 5) rfl (by kernel_rfl) (by kernel_rfl : (Zpb 35 31).setIfInBounds 5 true = Zpb 35 63) si_U (fun _ _ _ h => h) (Zwn rfl rfl (T.e 1 rfl) h8) rfl rfl rfl ?_; clear T ac; intro ac T
     refine g_pass (T := T) (i := 6) rfl (by kernel_rfl) (by kernel_rfl : (Zpb 35 63).setIfInBounds 6 true = Zpb 35 127) si_U (fun _ _ _ h => h) (Zwn rfl rfl (T.e 2 rfl) h8) rfl rfl rfl ?_; clear T ac; intro ac T
     refine gq T 7 255 rfl (fun _ _ _ _ _ => (Zr1 rfl (T.e 3 rfl) h8 evc)) ?_; clear T ac; intro ac T
     refine gq T 8 511 rfl (fun _ _ _ _ _ => (Zrm rfl (T.e 0 rfl))) ?_; clear T ac; intro ac T
     refine g_pass (T := T) (i := 9) rfl (by kernel_rfl) (by kernel_rfl : (Zpb 35 511).setIfInBounds 9 true = Zpb 35 1023) si_U (fun _ _ _ h => h) (Zwn rfl rfl (T.e 0 rfl) rfl) rfl rfl rfl ?_; clear T ac; intro ac T
     refine g_pass (T := T) (i := 10) rfl (by kernel_rfl) (by kernel_rfl : (Zpb 35 1023).setIfInBounds 10 true = Zpb 35 2047) si_U (fun _ _ _ h => h) (Zwn rfl rfl (T.e 1 rfl) rfl) rfl rfl rfl ?_; clear T ac; intro ac T
     refine g_pass (T := T) (i := 11) rfl (by kernel_rfl) (by kernel_rfl : (Zpb 35 2047).setIfInBounds 11 true = Zpb 35 4095) si_U (fun _ _ _ h => h) (Zwn rfl rfl (T.e 2 rfl) rfl) rfl rfl rfl ?_; clear T ac; intro ac T
     refine g_pass (T := T) (i := 12) rfl (by kernel_rfl) (by kernel_rfl : (Zpb 35 4095).setIfInBounds 12 true = Zpb 35 8191) si_U (fun _ _ _ h => h) (Zwn rfl rfl (T.e 3 rfl) rfl) rfl rfl rfl ?_; clear T ac; intro ac T
     refine g_pass (T := T) (i := 13) rfl (by kernel_rfl) (by kernel_rfl : (Zpb 35 8191).setIfInBounds 13 true = Zpb 35 16383) si_U (fun _ _ _ h => h) (Zwn rfl rfl (T.e 4 rfl) rfl) rfl rfl rfl ?_; clear T ac; intro ac T
     refine g_pass (T := T) (i := 14) rfl (by kernel_rfl) (by kernel_rfl : (Zpb 35 16383).setIfInBounds 14 true = Zpb 35 32767) si_U (fun _ _ _ h => h) (Zwn rfl rfl (T.e 5 rfl) rfl) rfl rfl rfl ?_; clear T ac; intro ac T
     refine g_pass (T := T) (i := 15) rfl (by kernel_rfl) (by kernel_rfl : (Zpb 35 32767).setIfInBounds 15 true = Zpb 35 65535) si_U (fun _ _ _ h => h) (Zwn rfl rfl (T.e 6 rfl) rfl) rfl rfl rfl ?_; clear T ac; intro ac T
     refine gq T 16 131071 rfl (fun _ _ _ _ _ => (Zr1 rfl (T.e 7 rfl) rfl evc)) ?_; clear T ac; intro ac T
     refine gq T 17 262143 rfl (fun _ _ _ _ _ => (Zrm rfl (T.e 0 rfl))) ?_; clear T ac; intro ac T
     refine g_pass (T := T) (i := 18) rfl (by kernel_rfl) (by kernel_rfl : (Zpb 35 262143).setIfInBounds 18 true = Zpb 35 524287) si_U (fun _ _ _ h => h) (Zwn rfl rfl (T.e 0 rfl) rfl) rfl rfl rfl ?_; clear T ac; intro ac T
     refine g_pass (T := T) (i := 19) rfl (by kernel_rfl) (by kernel_rfl : (Zpb 35 524287).setIfInBounds 19 true = Zpb 35 1048575) si_U (fun _ _ _ h => h) (Zwn rfl rfl (T.e 1 rfl) rfl) rfl rfl rfl ?_; clear T ac; intro ac T
     refine g_pass (T := T) (i := 20) rfl (by kernel_rfl) (by kernel_rfl : (Zpb 35 1048575).setIfInBounds 20 true = Zpb 35 2097151) si_U (fun _ _ _ h => h) (Zwn rfl rfl (T.e 2 rfl) rfl) rfl rfl rfl ?_; clear T ac; intro ac T
     refine g_pass (T := T) (i := 21) rfl (by kernel_rfl) (by kernel_rfl : (Zpb 35 2097151).setIfInBounds 21 true = Zpb 35 4194303) si_U (fun _ _ _ h => h) (Zwn rfl rfl (T.e 3 rfl) rfl) rfl rfl rfl ?_; clear T ac; intro ac T
     refine g_pass (T := T) (i := 22) rfl (by kernel_rfl) (by kernel_rfl : (Zpb 35 4194303).setIfInBounds 22 true = Zpb 35 8388607) si_U (fun _ _ _ h => h) (Zwn rfl rfl (T.e 4 rfl) rfl) rfl rfl rfl ?_; clear T ac; intro ac T
     refine g_pass (T := T) (i := 23) rfl (by kernel_rfl) (by kernel_rfl : (Zpb 35 8388607).setIfInBounds 23 true = Zpb 35 16777215) si_U (fun _ _ _ h => h) (Zwn rfl rfl (T.e 5 rfl) rfl) rfl rfl rfl ?_; clear T ac; intro ac T
     refine g_pass (T := T) (i := 24) rfl (by kernel_rfl) (by kernel_rfl : (Zpb 35 16777215).setIfInBounds 24 true = Zpb 35 33554431) si_U (fun _ _ _ h => h) (Zwn rfl rfl (T.e 6 rfl) rfl) rfl rfl rfl ?_; clear T ac; intro ac T
     refine gq T 25 67108863 rfl (fun _ _ _ _ _ => (Zr1 rfl (T.e 7 rfl) rfl evc)) ?_; clear T ac; intro ac T
     refine gq T 26 134217727 rfl (fun _ _ _ _ _ => (Zrm rfl (T.e 0 rfl))) ?_; clear T ac; intro ac T
     refine g_pass (T := T) (i := 27) rfl (by kernel_rfl) (by kernel_rfl : (Zpb 35 134217727).setIfInBounds 27 true = Zpb 35 268435455) si_U (fun _ _ _ h => h) (Zwn rfl rfl (T.e 0 rfl) rfl) rfl rfl rfl ?_; clear T ac; intro ac T
     refine g_pass (T := T) (i := 28) rfl (by kernel_rfl) (by kernel_rfl : (Zpb 35 268435455).setIfInBounds 28 true = Zpb 35 536870911) si_U (fun _ _ _ h => h) (Zwn rfl rfl (T.e 1 rfl) rfl) rfl rfl rfl ?_; clear T ac; intro ac T
     refine g_pass (T := T) (i := 29) rfl (by kernel_rfl) (by kernel_rfl : (Zpb 35 536870911).setIfInBounds 29 true = Zpb 35 1073741823) si_U (fun _ _ _ h => h) (Zwn rfl rfl (T.e 2 rfl) rfl) rfl rfl rfl ?_; clear T ac; intro ac T
     refine g_pass (T := T) (i := 30) rfl (by kernel_rfl) (by kernel_rfl : (Zpb 35 1073741823).setIfInBounds 30 true = Zpb 35 2147483647) si_U (fun _ _ _ h => h) (Zwn rfl rfl (T.e 3 rfl) rfl) rfl rfl rfl ?_; clear T ac; intro ac T
     refine g_pass (T := T) (i := 31) rfl (by kernel_rfl) (by kernel_rfl : (Zpb 35 2147483647).setIfInBounds 31 true = Zpb 35 4294967295) si_U (fun _ _ _ h => h) (Zwn rfl rfl (T.e 4 rfl) rfl) rfl rfl rfl ?_; clear T ac; intro ac T
     refine g_pass (T := T) (i := 32) rfl (by kernel_rfl) (by kernel_rfl : (Zpb 35 4294967295).setIfInBounds 32 true = Zpb 35 8589934591) si_U (fun _ _ _ h => h) (Zwn rfl rfl (T.e 5 rfl) rfl) rfl rfl rfl ?_; clear T ac; intro ac T
     refine g_pass (T := T) (i := 33) rfl (by kernel_rfl) (by kernel_rfl : (Zpb 35 8589934591).setIfInBounds 33 true = Zpb 35 17179869183) si_U (fun _ _ _ h => h) (Zwn rfl rfl (T.e 6 rfl) rfl) rfl rfl rfl ?_; clear T ac; intro ac T
     refine gq T 34 34359738367 rfl (fun _ _ _ _ _ => (Zr1 rfl (T.e 7 rfl) rfl evc)) ?_; clear T ac; intro ac T
     refine Zgd (by kernel_rfl) ?_
     replace T := T.pick [0, 1, 2, 3, 4, 5, 6, 7, 10, 11, 12, 13, 14, 15, 16, 19, 20, 21, 22, 23, 24, 25, 28, 29, 30, 42, 43, 44, 45, 46] rfl
     replace M := M.mask [false] rfl
     replace M : Mem w noEx wc ((IT ++ ICur23_4 ++ IMur23_9 ++ Iur23)) := M
     exact ⟨(T.pick (E' := [(3, .bool b3), (24, .slice (some ⟨g7, 0, none⟩) 5 5), (25, .slice (some ⟨g8, 0, none⟩) 5 5), (26, .slice (some ⟨g9, 0, none⟩) 5 5), (27, .int .i64 (i : Int)), (227, .bool true)]) [25, 26, 27, 28, 29, 0] rfl).as (by (try rw [show (!((cutsV s9 gq9 pq9 b3) == (cutsV s9 gq9 pq9 b3))) = true from h8]); (try rfl)), M.mask [] rfl⟩
    refine g_q (T := T) (i := 4) rfl (by kernel_rfl) (by kernel_rfl : (Zpb 35 15).setIfInBounds 4 true = Zpb 35 31) si_U (fun _ _ _ h => h) (Zwy rfl rfl (T.e 0 rfl) h8) rfl rfl rfl (fun _ _ _ _ _ => (Zrm rfl (T.e 6 rfl))) ?_; clear T ac; intro ac T
    refine g_q (T := T) (i := 5) rfl (by kernel_rfl) (by kernel_rfl : (Zpb 35 31).setIfInBounds 5 true = Zpb 35 63) si_U (fun _ _ _ h => h) (Zwy rfl rfl (T.e 1 rfl) h8) rfl rfl rfl (fun _ _ _ _ _ => (Zrm rfl (T.e 5 rfl))) ?_; clear T ac; intro ac T
    refine g_q (v := (.bool false)) (T := T) (i := 6) rfl (by kernel_rfl) (by kernel_rfl : (Zpb 35 63).setIfInBounds 6 true = Zpb 35 127) si_U (fun _ _ _ h => h) (Zwy rfl rfl (T.e 2 rfl) h8) rfl rfl rfl (fun _ _ _ _ _ => (Zrq (rn_neq rfl (T.e 1 rfl) (T.e 0 rfl)) (by simp))) ?_; clear T ac; intro ac T
    refine gq T 7 255 rfl (fun _ _ _ _ _ => (Zr0 rfl (T.e 3 rfl) h8 (T.e 0 rfl))) ?_; clear T ac; intro ac T
    refine gq T 8 511 rfl (fun _ _ _ _ _ => (Zrm rfl (T.e 0 rfl))) ?_; clear T ac; intro ac T
    refine g_q (T := T) (i := 9) rfl (by kernel_rfl) (by kernel_rfl : (Zpb 35 511).setIfInBounds 9 true = Zpb 35 1023) si_U (fun _ _ _ h => h) (Zwy rfl rfl (T.e 0 rfl) rfl) rfl rfl rfl (fun B w' hD hl hS => (Zrr (Mem.nth (show Mem w noEx w' _ from hS) 0 rfl) rfl (T.e 15 rfl) rfl)) ?_; clear T ac; intro ac T
    refine g_q (T := T) (i := 10) rfl (by kernel_rfl) (by kernel_rfl : (Zpb 35 1023).setIfInBounds 10 true = Zpb 35 2047) si_U (fun _ _ _ h => h) (Zwy rfl rfl (T.e 1 rfl) rfl) rfl rfl rfl (fun _ _ _ _ _ => (Zrm rfl (T.e 18 rfl))) ?_; clear T ac; intro ac T
    refine g_q (T := T) (i := 11) rfl (by kernel_rfl) (by kernel_rfl : (Zpb 35 2047).setIfInBounds 11 true = Zpb 35 4095) si_U (fun _ _ _ h => h) (Zwy rfl rfl (T.e 2 rfl) rfl) rfl rfl rfl (fun _ _ _ _ _ => (Zrm rfl (T.e 22 rfl))) ?_; clear T ac; intro ac T
    refine g_q (T := T) (i := 12) rfl (by kernel_rfl) (by kernel_rfl : (Zpb 35 4095).setIfInBounds 12 true = Zpb 35 8191) si_U (fun _ _ _ h => h) (Zwy rfl rfl (T.e 3 rfl) rfl) rfl rfl rfl (fun _ _ _ _ _ => (Zri (size := 7) i rfl (T.e 1 rfl) (T.e 0 rfl) ⟨_, Tryd.underlying42, by kernel_rfl⟩ rfl (by omega) (SSS.at0 (by omega)))) ?_; clear T ac; intro ac T
    refine g_q (v := (.agg #[.int .i64 s9.lo, .int .i64 s9.wi, .int .i64 s9.a0, .int .i64 s9.a1, .int .i64 s9.c0, .int .i64 s9.c1, .slice A9 s9.ps.length c9])) (T := T) (i := 13) rfl (by kernel_rfl) (by kernel_rfl : (Zpb 35 8191).setIfInBounds 13 true = Zpb 35 16383) si_U (fun _ _ _ h => h) (Zwy rfl rfl (T.e 4 rfl) rfl) rfl rfl rfl (fun B w' hD hl hS => (rn_rowat (Sp.skR SSS (show Mem w noEx w' _ from hS) (.cons _ (subL (subL (subL (List.Sublist.refl _))))) hk9) rfl (T.e 0 rfl) rfl)) ?_; clear T ac; intro ac T
    refine g_w (i := 14) (by kernel_rfl) rfl (by kernel_rfl : (Zpb 35 16383).setIfInBounds 14 true = Zpb 35 32767) (Zwy rfl rfl (T.e 5 rfl) rfl) ?_; intro K hK
    refine Zoc (first := []) (cap := []) T rfl rfl rfl rfl evf (.cons (T.e 4 rfl) (.cons (T.e 0 rfl) .nil)) Tryd.func29 rfl rfl ?_
    refine Calls.mono (sameSheets_any s9 ACur23_4 cCur23_4 s9 A9 c9 _ (SACur23_4.rd M (.cons _ (subL (subL (Zsq _ _))))) (S9.rd M (.cons _ (subL (subL (subL (List.Sublist.refl _)))))) (by omega) (by omega)) ?_
    clear T; rintro e wc ⟨rfl, hb⟩ ac T
    replace M := M.call hb; clear hb
    rw [Zdt (@rfl Sk s9)] at T
    refine Zso hK _ _ (M.mask [true] rfl) ?_; clear hK K
    refine g_addU M ?_
    refine g_q (v := (.bool false)) (T := T) (i := 15) rfl (by kernel_rfl) (by kernel_rfl : (Zpb 35 32767).setIfInBounds 15 true = Zpb 35 65535) (si_and si_U si_U) (fun _ _ _ h => h) (Zwy rfl rfl (T.e 6 rfl) rfl) rfl rfl rfl (fun _ _ _ _ _ => (Zrq (rn_not rfl (T.e 0 rfl)) (by simp))) ?_; clear T ac; intro ac T
    refine gq T 16 131071 rfl (fun _ _ _ _ _ => (Zr0 rfl (T.e 7 rfl) rfl (T.e 0 rfl))) ?_; clear T ac; intro ac T
    refine gq T 17 262143 rfl (fun _ _ _ _ _ => (Zrm rfl (T.e 0 rfl))) ?_; clear T ac; intro ac T
    refine g_q (T := T) (i := 18) rfl (by kernel_rfl) (by kernel_rfl : (Zpb 35 262143).setIfInBounds 18 true = Zpb 35 524287) (si_and si_U si_U) (fun _ _ _ h => h) (Zwy rfl rfl (T.e 0 rfl) rfl) rfl rfl rfl (fun _ _ _ _ _ => (Zrm rfl (T.e 23 rfl))) ?_; clear T ac; intro ac T
    refine g_q (T := T) (i := 19) rfl (by kernel_rfl) (by kernel_rfl : (Zpb 35 524287).setIfInBounds 19 true = Zpb 35 1048575) (si_and si_U si_U) (fun _ _ _ h => h) (Zwy rfl rfl (T.e 1 rfl) rfl) rfl rfl rfl (fun _ _ _ _ _ => (Zrm rfl (T.e 28 rfl))) ?_; clear T ac; intro ac T
    refine g_q (T := T) (i := 20) rfl (by kernel_rfl) (by kernel_rfl : (Zpb 35 1048575).setIfInBounds 20 true = Zpb 35 2097151) (si_and si_U si_U) (fun _ _ _ h => h) (Zwy rfl rfl (T.e 2 rfl) rfl) rfl rfl rfl (fun _ _ _ _ _ => (Zrm rfl (T.e 31 rfl))) ?_; clear T ac; intro ac T
    refine g_q (T := T) (i := 21) rfl (by kernel_rfl) (by kernel_rfl : (Zpb 35 2097151).setIfInBounds 21 true = Zpb 35 4194303) (si_and si_U si_U) (fun _ _ _ h => h) (Zwy rfl rfl (T.e 3 rfl) rfl) rfl rfl rfl (fun _ _ _ _ _ => (Zri (size := 1) i rfl (T.e 1 rfl) (T.e 0 rfl) ⟨_, Tryd.underlying43, by kernel_rfl⟩ rfl (by omega) (SLL.at0 (by omega)))) ?_; clear T ac; intro ac T
    refine g_q (v := (.slice Gq9 gq9.length dq9)) (T := T) (i := 22) rfl (by kernel_rfl) (by kernel_rfl : (Zpb 35 4194303).setIfInBounds 22 true = Zpb 35 8388607) (si_and si_U si_U) (fun _ _ _ h => h) (Zwy rfl rfl (T.e 4 rfl) rfl) rfl rfl rfl (fun B w' hD hl hS => (rn_cell (Sp.lc0 SLL (show Mem w noEx w' _ from (MA.lft hS)) (.cons _ (subL (subL (subL (List.Sublist.refl _))))) hkg9) rfl (T.e 0 rfl))) ?_; clear T ac; intro ac T
    refine g_w (i := 23) (by kernel_rfl) rfl (by kernel_rfl : (Zpb 35 8388607).setIfInBounds 23 true = Zpb 35 16777215) (Zwy rfl rfl (T.e 5 rfl) rfl) ?_; intro K hK
    refine Zoc (first := []) (cap := []) T rfl rfl rfl rfl evf (.cons (T.e 4 rfl) (.cons (T.e 0 rfl) .nil)) Tryd.func30 rfl rfl ?_
    refine Calls.mono (sameInts_any _ _ _ _ _ _ gq9 gq9 _ (SAIur23_9.rd M (.cons _ (subL (Zsq _ _)))) (SG9.rd M (.cons _ (subL (subL (subL (List.Sublist.refl _)))))) (by omega) (by omega)) ?_
    clear T; rintro e wc ⟨rfl, hb⟩ ac T
    replace M := M.call hb; clear hb
    rw [Zdt (@rfl (List Int) gq9)] at T
    refine Zso hK _ _ (MA.mk (M.mask [true] rfl) (M.mask [true] rfl)) ?_; clear hK K
    refine g_addU M ?_
    refine g_q (v := (.bool false)) (T := T) (i := 24) rfl (by kernel_rfl) (by kernel_rfl : (Zpb 35 16777215).setIfInBounds 24 true = Zpb 35 33554431) (si_and si_U (si_and si_U si_U)) (fun _ _ _ h => h) (Zwy rfl rfl (T.e 6 rfl) rfl) rfl rfl rfl (fun _ _ _ _ _ => (Zrq (rn_not rfl (T.e 0 rfl)) (by simp))) ?_; clear T ac; intro ac T
    refine gq T 25 67108863 rfl (fun _ _ _ _ _ => (Zr0 rfl (T.e 7 rfl) rfl (T.e 0 rfl))) ?_; clear T ac; intro ac T
    refine gq T 26 134217727 rfl (fun _ _ _ _ _ => (Zrm rfl (T.e 0 rfl))) ?_; clear T ac; intro ac T
    refine g_q (T := T) (i := 27) rfl (by kernel_rfl) (by kernel_rfl : (Zpb 35 134217727).setIfInBounds 27 true = Zpb 35 268435455) (si_and si_U (si_and si_U si_U)) (fun _ _ _ h => h) (Zwy rfl rfl (T.e 0 rfl) rfl) rfl rfl rfl (fun _ _ _ _ _ => (Zrm rfl (T.e 31 rfl))) ?_; clear T ac; intro ac T
    refine g_q (T := T) (i := 28) rfl (by kernel_rfl) (by kernel_rfl : (Zpb 35 268435455).setIfInBounds 28 true = Zpb 35 536870911) (si_and si_U (si_and si_U si_U)) (fun _ _ _ h => h) (Zwy rfl rfl (T.e 1 rfl) rfl) rfl rfl rfl (fun _ _ _ _ _ => (Zrm rfl (T.e 38 rfl))) ?_; clear T ac; intro ac T
    refine g_q (T := T) (i := 29) rfl (by kernel_rfl) (by kernel_rfl : (Zpb 35 536870911).setIfInBounds 29 true = Zpb 35 1073741823) (si_and si_U (si_and si_U si_U)) (fun _ _ _ h => h) (Zwy rfl rfl (T.e 2 rfl) rfl) rfl rfl rfl (fun _ _ _ _ _ => (Zrm rfl (T.e 40 rfl))) ?_; clear T ac; intro ac T
    refine g_q (T := T) (i := 30) rfl (by kernel_rfl) (by kernel_rfl : (Zpb 35 1073741823).setIfInBounds 30 true = Zpb 35 2147483647) (si_and si_U (si_and si_U si_U)) (fun _ _ _ h => h) (Zwy rfl rfl (T.e 3 rfl) rfl) rfl rfl rfl (fun _ _ _ _ _ => (Zri (size := 1) i rfl (T.e 1 rfl) (T.e 0 rfl) ⟨_, Tryd.underlying44, by kernel_rfl⟩ rfl (by omega) (SLT.at0 (by omega)))) ?_; clear T ac; intro ac T
    refine g_q (v := (.slice Pq9 pq9.length eq9)) (T := T) (i := 31) rfl (by kernel_rfl) (by kernel_rfl : (Zpb 35 2147483647).setIfInBounds 31 true = Zpb 35 4294967295) (si_and si_U (si_and si_U si_U)) (fun _ _ _ h => h) (Zwy rfl rfl (T.e 4 rfl) rfl) rfl rfl rfl (fun B w' hD hl hS => (rn_cell (Sp.lt0 SLT (show Mem w noEx w' _ from (MA.lft hS)) (.cons _ (subL (subL (subL (List.Sublist.refl _))))) hkp9) rfl (T.e 0 rfl))) ?_; clear T ac; intro ac T
    refine g_w (i := 32) (by kernel_rfl) rfl (by kernel_rfl : (Zpb 35 4294967295).setIfInBounds 32 true = Zpb 35 8589934591) (Zwy rfl rfl (T.e 5 rfl) rfl) ?_; intro K hK
    refine Zoc (first := []) (cap := []) T rfl rfl rfl rfl evf (.cons (T.e 4 rfl) (.cons (T.e 0 rfl) .nil)) Tryd.func31 rfl rfl ?_
    refine Calls.mono (sameSpots_any Aur23 cur23 pq9 Pq9 eq9 pq9 _ (Sur23.rd M (.cons _ (Zsq _ _))) (SP9.rd M (.cons _ (subL (subL (subL (List.Sublist.refl _)))))) (by omega) (by omega)) ?_
    clear T; rintro e wc ⟨rfl, hb⟩ ac T
    replace M := M.call hb; clear hb
    rw [Zdt (@rfl (List Spt) pq9)] at T
    refine Zso hK _ _ (MA.mk (M.mask [true] rfl) (MA.mk (M.mask [true] rfl) (M.mask [true] rfl))) ?_; clear hK K
    refine g_q (v := (.bool false)) (T := T) (i := 33) rfl (by kernel_rfl) (by kernel_rfl : (Zpb 35 8589934591).setIfInBounds 33 true = Zpb 35 17179869183) (si_and si_U (si_and si_U si_U)) (fun _ _ _ h => h) (Zwy rfl rfl (T.e 6 rfl) rfl) rfl rfl rfl (fun _ _ _ _ _ => (Zrq (rn_not rfl (T.e 0 rfl)) (by simp))) ?_; clear T ac; intro ac T
    refine gq T 34 34359738367 rfl (fun _ _ _ _ _ => (Zr0 rfl (T.e 7 rfl) rfl (T.e 0 rfl))) ?_; clear T ac; intro ac T
    refine Zgd (by kernel_rfl) ?_
    replace T := T.pick [0, 1, 2, 3, 4, 5, 6, 7, 10, 11, 12, 13, 14, 15, 16, 19, 20, 21, 22, 23, 24, 25, 28, 29, 30, 42, 43, 44, 45, 46] rfl
    replace M := M.mask [false] rfl
    replace M : Mem w noEx wc ((IT ++ ICur23_4 ++ IMur23_9 ++ Iur23)) := M
    exact ⟨(T.pick (E' := [(3, .bool b3), (24, .slice (some ⟨g7, 0, none⟩) 5 5), (25, .slice (some ⟨g8, 0, none⟩) 5 5), (26, .slice (some ⟨g9, 0, none⟩) 5 5), (27, .int .i64 (i : Int)), (227, .bool false)]) [25, 26, 27, 28, 29, 0] rfl).as (by (try rw [show (!((cutsV s9 gq9 pq9 b3) == (cutsV s9 gq9 pq9 b3))) = false from h8]); (try rfl)), M.mask [] rfl⟩
   clear T M
   rintro ac wc ⟨T, M⟩
   refine wp_cond_split (T.e 5 rfl) ?_ ?_
   ·intro h9
    (have h9' := h9; try simp only [Zb1, Zb2, Zb3, Zb4, Zb5, Zb6, Zb7] at h9')
    refine Zsr ?_
    refine lq T (Zra rfl evc) ?_; clear T ac; intro ac T
    refine wpList_nil ?_
    replace T := T.pick [0] rfl
    refine Znr ?_
    refine Zrb ?_
    refine Zrt ?_
    refine Zrt ?_
    refine Zrb ?_
    refine Zrt ?_
    refine rt_1 T rfl (T.e 0 rfl) ?_
    exact ⟨ret_bool (by simp_all), M.below⟩
   intro h9
   (have h9' := h9; try simp only [Zb1, Zb2, Zb3, Zb4, Zb5, Zb6, Zb7] at h9')
   refine wp_skip ?_
   refine Znb ?_
   refine nm_then ?_
   refine wp_region_lit ?_
   refine Zg2 T (Zq (Zrm rfl (T.e 4 rfl))) rfl (fun _ T => Zq (rn_add rfl (T.e 0 rfl) evc (by omega))) rfl ?_; clear T ac; intro ac T
   refine l_q (v := (.int .i64 ((i : Int) + 1))) (T.pick [0, 1, 2, 3, 4, 5, 7] rfl) rfl rfl rfl rfl (Zra rfl (T.e 0 rfl)) ?_; clear T ac; intro ac T
   refine wpList_nil ?_
   replace T := T.pick [0, 3, 4, 5, 6] rfl
   refine nm_then ?_
   exact ⟨_, by omega, i + 1, rfl, (by omega), T.pick [1, 2, 3, 4, 0] rfl, (M.sub (subL (subL (subL (List.Sublist.refl _)))))⟩
  intro H7
  refine g_have (fun ac wc => ∃ (ACur23_4 : Option Addr), ∃ (cCur23_4 : Nat), ∃ (ICur23_4 : List (Nat × BA)), ∃ (bACur23_4 : Nat), ∃ (oACur23_4 : Nat), ∃ (AIur23_9 : Option Addr), ∃ (cIur23_9 : Nat), ∃ (IMur23_9 : List (Nat × BA)), ∃ (bAIur23_9 : Nat), ∃ (oAIur23_9 : Nat), (Sp w noEx ICur23_4 ACur23_4 s9.ps.length 4 bACur23_4 oACur23_4 (pc s9.ps)) ∧ (s9.ps.length ≤ cCur23_4) ∧ (Sp w noEx IMur23_9 AIur23_9 gq9.length 1 bAIur23_9 oAIur23_9 (ic gq9)) ∧ (gq9.length ≤ cIur23_9) ∧ ∃ (gr23_10 gr23_16 : Nat), Tm ac 229 [(161, .slice AIur23_9 gq9.length cIur23_9), (162, .slice (some ⟨gr23_10, 0, none⟩) 0 0), (28, .pointer (some ⟨gr23_16, 0, none⟩)), (156, .agg #[.int .i64 s9.lo, .int .i64 s9.wi, .int .i64 s9.a0, .int .i64 s9.a1, .int .i64 s9.c0, .int .i64 s9.c1, .slice ACur23_4 s9.ps.length cCur23_4]), (166, .slice Pq9 pq9.length eq9), (165, .pointer (some ⟨g9, 0 + i * 1, none⟩)), (164, .int .i64 (i : Int)), (163, .slice (some ⟨g9, 0, none⟩) 5 5), (160, .slice Gq9 gq9.length dq9), (159, .pointer (some ⟨g8, 0 + i * 1, none⟩)), (158, .int .i64 (i : Int)), (157, .slice (some ⟨g8, 0, none⟩) 5 5), (155, .agg #[.int .i64 s9.lo, .int .i64 s9.wi, .int .i64 s9.a0, .int .i64 s9.a1, .int .i64 s9.c0, .int .i64 s9.c1, .slice A9 s9.ps.length c9]), (154, .pointer (some ⟨g7, 0 + i * 7, none⟩)), (153, .int .i64 (i : Int)), (152, .slice (some ⟨g7, 0, none⟩) 5 5), (149, .bool (decide ((i : Int) < 5))), (3, .bool b3), (24, .slice (some ⟨g7, 0, none⟩) 5 5), (25, .slice (some ⟨g8, 0, none⟩) 5 5), (26, .slice (some ⟨g9, 0, none⟩) 5 5), (27, .int .i64 (i : Int))] ∧ Mem w noEx wc ((gr23_10, .any fun o => o = .cells #[] 30) :: (gr23_16, .cells [.int .i64 0, .int .i64 0, .int .i64 0, .int .i64 0, .int .i64 0, .int .i64 0, .slice none 0 0]) :: (IT ++ ICur23_4 ++ IMur23_9))) (Zpb 20 98303) 4 ?_ ?_
  ·clear T M
   rintro ac wc ⟨ACur23_4, cCur23_4, ICur23_4, bACur23_4, oACur23_4, AIur23_9, cIur23_9, IMur23_9, bAIur23_9, oAIur23_9, SACur23_4, hcpCur23_4, SAIur23_9, hcpIur23_9, gr23_10, gr23_16, T, M⟩
   refine gw 15 131071 ?_; intro K hK
   refine ow_appS Tryd.info30 M T rfl rfl rfl rfl (fun g w => Tryd.append0_28 _ _ g _ w) Tryd.underlying28 rfl rfl rfl (by omega) (T.e 1 rfl) (T.e 4 rfl) (SP9.rd M (.cons _ (.cons _ (subL (subL (List.Sublist.refl _)))))) (tc_one _) ?_; clear M T; intro Aur23 cur23 Iur23 wc ac hSmr23 M T
   replace M : Mem w noEx wc ((gr23_16, .cells [.int .i64 0, .int .i64 0, .int .i64 0, .int .i64 0, .int .i64 0, .int .i64 0, .slice none 0 0]) :: (IT ++ ICur23_4 ++ IMur23_9 ++ Iur23)) := M.swapI
   refine Zso hK _ _ ((M.mask [false] rfl).sub (List.Sublist.trans (List.Sublist.trans (Zsl _ _) (Zsl _ _)) (Zsl _ _))) ?_; clear hK K
   have hClr23 : Cl 30 3 Aur23 pq9.length cur23 (tc pq9) Iur23 := .inr hSmr23
   obtain ⟨bur23, our23, SVur23⟩ := hClr23.spV (tc_length _)
   have Sur23 := SVur23 w noEx
   exact H7 _ _ ⟨ACur23_4, cCur23_4, ICur23_4, bACur23_4, oACur23_4, AIur23_9, cIur23_9, IMur23_9, bAIur23_9, oAIur23_9, Aur23, cur23, Iur23, bur23, our23, SACur23_4, hcpCur23_4, SAIur23_9, hcpIur23_9, Sur23, gr23_16, T.pick [3, 0, 1, 4, 5, 6, 7, 8, 9, 10, 11, 12, 13, 14, 15, 16, 17, 18, 19, 20, 21, 22] rfl, M⟩
  intro H6
  refine g_have (fun ac wc => ∃ (ACur23_4 : Option Addr), ∃ (cCur23_4 : Nat), ∃ (ICur23_4 : List (Nat × BA)), ∃ (bACur23_4 : Nat), ∃ (oACur23_4 : Nat), ∃ (AIur23_9 : Option Addr), ∃ (cIur23_9 : Nat), ∃ (IMur23_9 : List (Nat × BA)), ∃ (bAIur23_9 : Nat), ∃ (oAIur23_9 : Nat), (Sp w noEx ICur23_4 ACur23_4 s9.ps.length 4 bACur23_4 oACur23_4 (pc s9.ps)) ∧ (s9.ps.length ≤ cCur23_4) ∧ (Sp w noEx IMur23_9 AIur23_9 gq9.length 1 bAIur23_9 oAIur23_9 (ic gq9)) ∧ (gq9.length ≤ cIur23_9) ∧ ∃ (gr23_10 : Nat), Tm ac 229 [(162, .slice (some ⟨gr23_10, 0, none⟩) 0 0), (161, .slice AIur23_9 gq9.length cIur23_9), (156, .agg #[.int .i64 s9.lo, .int .i64 s9.wi, .int .i64 s9.a0, .int .i64 s9.a1, .int .i64 s9.c0, .int .i64 s9.c1, .slice ACur23_4 s9.ps.length cCur23_4]), (166, .slice Pq9 pq9.length eq9), (165, .pointer (some ⟨g9, 0 + i * 1, none⟩)), (164, .int .i64 (i : Int)), (163, .slice (some ⟨g9, 0, none⟩) 5 5), (160, .slice Gq9 gq9.length dq9), (159, .pointer (some ⟨g8, 0 + i * 1, none⟩)), (158, .int .i64 (i : Int)), (157, .slice (some ⟨g8, 0, none⟩) 5 5), (155, .agg #[.int .i64 s9.lo, .int .i64 s9.wi, .int .i64 s9.a0, .int .i64 s9.a1, .int .i64 s9.c0, .int .i64 s9.c1, .slice A9 s9.ps.length c9]), (154, .pointer (some ⟨g7, 0 + i * 7, none⟩)), (153, .int .i64 (i : Int)), (152, .slice (some ⟨g7, 0, none⟩) 5 5), (149, .bool (decide ((i : Int) < 5))), (3, .bool b3), (24, .slice (some ⟨g7, 0, none⟩) 5 5), (25, .slice (some ⟨g8, 0, none⟩) 5 5), (26, .slice (some ⟨g9, 0, none⟩) 5 5), (27, .int .i64 (i : Int))] ∧ Mem w noEx wc ((gr23_10, .any fun o => o = .cells #[] 30) :: (IT ++ ICur23_4 ++ IMur23_9))) (Zpb 20 32767) 5 ?_ ?_
  ·clear T M
   rintro ac wc ⟨ACur23_4, cCur23_4, ICur23_4, bACur23_4, oACur23_4, AIur23_9, cIur23_9, IMur23_9, bAIur23_9, oAIur23_9, SACur23_4, hcpCur23_4, SAIur23_9, hcpIur23_9, gr23_10, T, M⟩
   refine g_m2 (i := 15) (j := 16) (by kernel_rfl) ?_ ?_
   ·refine gi 65535 ?_; intro K hK
    refine ow_appS Tryd.info30 M T rfl rfl rfl rfl (fun g w => Tryd.append0_28 _ _ g _ w) Tryd.underlying28 rfl rfl rfl (by omega) (T.e 0 rfl) (T.e 3 rfl) (SP9.rd M (.cons _ (subL (subL (List.Sublist.refl _))))) (tc_one _) ?_; clear M T; intro Aur23 cur23 Iur23 wc ac hSmr23 M T
    replace M : Mem w noEx wc ((IT ++ ICur23_4 ++ IMur23_9 ++ Iur23)) := M.swapI
    refine Zso hK _ _ ((M.mask [] rfl).sub (List.Sublist.trans (List.Sublist.trans (Zsl _ _) (Zsl _ _)) (Zsl _ _))) ?_; clear hK K
    have hClr23 : Cl 30 3 Aur23 pq9.length cur23 (tc pq9) Iur23 := .inr hSmr23
    obtain ⟨bur23, our23, SVur23⟩ := hClr23.spV (tc_length _)
    have Sur23 := SVur23 w noEx
    refine gw 16 131071 ?_; intro K hK
    refine Zoa M T rfl rfl rfl rfl ?_; clear M T; intro gr23_16 wc ac M T
    refine Zso hK _ _ ((M.mask [false] rfl).sub (List.Sublist.trans (List.Sublist.trans (Zsl _ _) (Zsl _ _)) (Zsl _ _))) ?_; clear hK K
    exact H7 _ _ ⟨ACur23_4, cCur23_4, ICur23_4, bACur23_4, oACur23_4, AIur23_9, cIur23_9, IMur23_9, bAIur23_9, oAIur23_9, Aur23, cur23, Iur23, bur23, our23, SACur23_4, hcpCur23_4, SAIur23_9, hcpIur23_9, Sur23, gr23_16, T.pick [0, 1, 3, 4, 5, 6, 7, 8, 9, 10, 11, 12, 13, 14, 15, 16, 17, 18, 19, 20, 21, 22] rfl, M⟩
   refine gi 98303 ?_; intro K hK
   refine Zoa M T rfl rfl rfl rfl ?_; clear M T; intro gr23_16 wc ac M T
   refine Zso hK _ _ ((M.mask [false, false] rfl).sub (List.Sublist.trans (Zsl _ _) (Zsl _ _))) ?_; clear hK K
   exact H6 _ _ ⟨ACur23_4, cCur23_4, ICur23_4, bACur23_4, oACur23_4, AIur23_9, cIur23_9, IMur23_9, bAIur23_9, oAIur23_9, SACur23_4, hcpCur23_4, SAIur23_9, hcpIur23_9, gr23_10, gr23_16, T.pick [2, 1, 0, 3, 4, 5, 6, 7, 8, 9, 10, 11, 12, 13, 14, 15, 16, 17, 18, 19, 20, 21] rfl, M.permT [1, 0] 2 rfl rfl rfl rfl⟩
  intro H5
  refine g_have (fun ac wc => ∃ (ACur23_4 : Option Addr), ∃ (cCur23_4 : Nat), ∃ (ICur23_4 : List (Nat × BA)), ∃ (bACur23_4 : Nat), ∃ (oACur23_4 : Nat), ∃ (AIur23_9 : Option Addr), ∃ (cIur23_9 : Nat), ∃ (IMur23_9 : List (Nat × BA)), ∃ (bAIur23_9 : Nat), ∃ (oAIur23_9 : Nat), (Sp w noEx ICur23_4 ACur23_4 s9.ps.length 4 bACur23_4 oACur23_4 (pc s9.ps)) ∧ (s9.ps.length ≤ cCur23_4) ∧ (Sp w noEx IMur23_9 AIur23_9 gq9.length 1 bAIur23_9 oAIur23_9 (ic gq9)) ∧ (gq9.length ≤ cIur23_9) ∧ ∃ (gr23_16 : Nat), Tm ac 229 [(28, .pointer (some ⟨gr23_16, 0, none⟩)), (161, .slice AIur23_9 gq9.length cIur23_9), (156, .agg #[.int .i64 s9.lo, .int .i64 s9.wi, .int .i64 s9.a0, .int .i64 s9.a1, .int .i64 s9.c0, .int .i64 s9.c1, .slice ACur23_4 s9.ps.length cCur23_4]), (166, .slice Pq9 pq9.length eq9), (165, .pointer (some ⟨g9, 0 + i * 1, none⟩)), (164, .int .i64 (i : Int)), (163, .slice (some ⟨g9, 0, none⟩) 5 5), (160, .slice Gq9 gq9.length dq9), (159, .pointer (some ⟨g8, 0 + i * 1, none⟩)), (158, .int .i64 (i : Int)), (157, .slice (some ⟨g8, 0, none⟩) 5 5), (155, .agg #[.int .i64 s9.lo, .int .i64 s9.wi, .int .i64 s9.a0, .int .i64 s9.a1, .int .i64 s9.c0, .int .i64 s9.c1, .slice A9 s9.ps.length c9]), (154, .pointer (some ⟨g7, 0 + i * 7, none⟩)), (153, .int .i64 (i : Int)), (152, .slice (some ⟨g7, 0, none⟩) 5 5), (149, .bool (decide ((i : Int) < 5))), (3, .bool b3), (24, .slice (some ⟨g7, 0, none⟩) 5 5), (25, .slice (some ⟨g8, 0, none⟩) 5 5), (26, .slice (some ⟨g9, 0, none⟩) 5 5), (27, .int .i64 (i : Int))] ∧ Mem w noEx wc ((gr23_16, .cells [.int .i64 0, .int .i64 0, .int .i64 0, .int .i64 0, .int .i64 0, .int .i64 0, .slice none 0 0]) :: (IT ++ ICur23_4 ++ IMur23_9))) (Zpb 20 97279) 5 ?_ ?_
  ·clear T M
   rintro ac wc ⟨ACur23_4, cCur23_4, ICur23_4, bACur23_4, oACur23_4, AIur23_9, cIur23_9, IMur23_9, bAIur23_9, oAIur23_9, SACur23_4, hcpCur23_4, SAIur23_9, hcpIur23_9, gr23_16, T, M⟩
   refine gw 10 98303 ?_; intro K hK
   refine ow_bs0 (e := 30) M T rfl rfl rfl rfl (fun _ => by kernel_rfl) ?_; clear M T; intro gr23_10 wc ac M T
   refine Zso hK _ _ ((M.mask [false, false] rfl).sub (List.Sublist.trans (Zsl _ _) (Zsl _ _))) ?_; clear hK K
   exact H6 _ _ ⟨ACur23_4, cCur23_4, ICur23_4, bACur23_4, oACur23_4, AIur23_9, cIur23_9, IMur23_9, bAIur23_9, oAIur23_9, SACur23_4, hcpCur23_4, SAIur23_9, hcpIur23_9, gr23_10, gr23_16, T.pick [2, 0, 1, 3, 4, 5, 6, 7, 8, 9, 10, 11, 12, 13, 14, 15, 16, 17, 18, 19, 20, 21] rfl, M⟩
  intro H4
  refine g_have (fun ac wc => ∃ (ACur23_4 : Option Addr), ∃ (cCur23_4 : Nat), ∃ (ICur23_4 : List (Nat × BA)), ∃ (bACur23_4 : Nat), ∃ (oACur23_4 : Nat), (Sp w noEx ICur23_4 ACur23_4 s9.ps.length 4 bACur23_4 oACur23_4 (pc s9.ps)) ∧ (s9.ps.length ≤ cCur23_4) ∧ ∃ (gr23_10 gr23_16 : Nat), Tm ac 229 [(162, .slice (some ⟨gr23_10, 0, none⟩) 0 0), (28, .pointer (some ⟨gr23_16, 0, none⟩)), (156, .agg #[.int .i64 s9.lo, .int .i64 s9.wi, .int .i64 s9.a0, .int .i64 s9.a1, .int .i64 s9.c0, .int .i64 s9.c1, .slice ACur23_4 s9.ps.length cCur23_4]), (166, .slice Pq9 pq9.length eq9), (165, .pointer (some ⟨g9, 0 + i * 1, none⟩)), (164, .int .i64 (i : Int)), (163, .slice (some ⟨g9, 0, none⟩) 5 5), (160, .slice Gq9 gq9.length dq9), (159, .pointer (some ⟨g8, 0 + i * 1, none⟩)), (158, .int .i64 (i : Int)), (157, .slice (some ⟨g8, 0, none⟩) 5 5), (155, .agg #[.int .i64 s9.lo, .int .i64 s9.wi, .int .i64 s9.a0, .int .i64 s9.a1, .int .i64 s9.c0, .int .i64 s9.c1, .slice A9 s9.ps.length c9]), (154, .pointer (some ⟨g7, 0 + i * 7, none⟩)), (153, .int .i64 (i : Int)), (152, .slice (some ⟨g7, 0, none⟩) 5 5), (149, .bool (decide ((i : Int) < 5))), (3, .bool b3), (24, .slice (some ⟨g7, 0, none⟩) 5 5), (25, .slice (some ⟨g8, 0, none⟩) 5 5), (26, .slice (some ⟨g9, 0, none⟩) 5 5), (27, .int .i64 (i : Int))] ∧ Mem w noEx wc ((gr23_10, .any fun o => o = .cells #[] 30) :: (gr23_16, .cells [.int .i64 0, .int .i64 0, .int .i64 0, .int .i64 0, .int .i64 0, .int .i64 0, .slice none 0 0]) :: (IT ++ ICur23_4))) (Zpb 20 97791) 5 ?_ ?_
  ·clear T M
   rintro ac wc ⟨ACur23_4, cCur23_4, ICur23_4, bACur23_4, oACur23_4, SACur23_4, hcpCur23_4, gr23_10, gr23_16, T, M⟩
   refine gw 9 98303 ?_; intro K hK
   refine Zoc (first := []) (cap := []) T rfl rfl rfl rfl evf (.cons (T.e 7 rfl) .nil) Tryd.func26 rfl rfl ?_
   refine Calls.mono (ints8_any Gq9 dq9 gq9 _ (SG9.rd M (.cons _ (.cons _ (subL (List.Sublist.refl _))))) (by omega)) ?_
   clear T; rintro e wc ⟨AIur23_9, cIur23_9, IMur23_9, rfl, hclur23_9, N⟩ ac T
   obtain ⟨bAIur23_9, oAIur23_9, SVIur23_9⟩ := hclur23_9.spV (by rw [ic_length]; omega)
   have SAIur23_9 := SVIur23_9 w noEx
   replace M := (M.join N).swapI
   clear N
   replace M : Mem w noEx wc ((gr23_10, .any fun o => o = .cells #[] 30) :: (gr23_16, .cells [.int .i64 0, .int .i64 0, .int .i64 0, .int .i64 0, .int .i64 0, .int .i64 0, .slice none 0 0]) :: (IT ++ ICur23_4 ++ IMur23_9)) := M
   have hcpIur23_9 := hclur23_9.capLe M (.cons _ (.cons _ (Zsq _ _)))
   refine Zso hK _ _ ((M.mask [false, false] rfl).sub (List.Sublist.trans (Zsl _ _) (Zsl _ _))) ?_; clear hK K
   exact H6 _ _ ⟨ACur23_4, cCur23_4, ICur23_4, bACur23_4, oACur23_4, AIur23_9, cIur23_9, IMur23_9, bAIur23_9, oAIur23_9, SACur23_4, hcpCur23_4, SAIur23_9, hcpIur23_9, gr23_10, gr23_16, T, M⟩
  intro H3
  refine g_have (fun ac wc => ∃ (ACur23_4 : Option Addr), ∃ (cCur23_4 : Nat), ∃ (ICur23_4 : List (Nat × BA)), ∃ (bACur23_4 : Nat), ∃ (oACur23_4 : Nat), (Sp w noEx ICur23_4 ACur23_4 s9.ps.length 4 bACur23_4 oACur23_4 (pc s9.ps)) ∧ (s9.ps.length ≤ cCur23_4) ∧ ∃ (gr23_10 : Nat), Tm ac 229 [(162, .slice (some ⟨gr23_10, 0, none⟩) 0 0), (156, .agg #[.int .i64 s9.lo, .int .i64 s9.wi, .int .i64 s9.a0, .int .i64 s9.a1, .int .i64 s9.c0, .int .i64 s9.c1, .slice ACur23_4 s9.ps.length cCur23_4]), (166, .slice Pq9 pq9.length eq9), (165, .pointer (some ⟨g9, 0 + i * 1, none⟩)), (164, .int .i64 (i : Int)), (163, .slice (some ⟨g9, 0, none⟩) 5 5), (160, .slice Gq9 gq9.length dq9), (159, .pointer (some ⟨g8, 0 + i * 1, none⟩)), (158, .int .i64 (i : Int)), (157, .slice (some ⟨g8, 0, none⟩) 5 5), (155, .agg #[.int .i64 s9.lo, .int .i64 s9.wi, .int .i64 s9.a0, .int .i64 s9.a1, .int .i64 s9.c0, .int .i64 s9.c1, .slice A9 s9.ps.length c9]), (154, .pointer (some ⟨g7, 0 + i * 7, none⟩)), (153, .int .i64 (i : Int)), (152, .slice (some ⟨g7, 0, none⟩) 5 5), (149, .bool (decide ((i : Int) < 5))), (3, .bool b3), (24, .slice (some ⟨g7, 0, none⟩) 5 5), (25, .slice (some ⟨g8, 0, none⟩) 5 5), (26, .slice (some ⟨g9, 0, none⟩) 5 5), (27, .int .i64 (i : Int))] ∧ Mem w noEx wc ((gr23_10, .any fun o => o = .cells #[] 30) :: (IT ++ ICur23_4))) (Zpb 20 32255) 6 ?_ ?_
  ·clear T M
   rintro ac wc ⟨ACur23_4, cCur23_4, ICur23_4, bACur23_4, oACur23_4, SACur23_4, hcpCur23_4, gr23_10, T, M⟩
   refine g_m2 (i := 9) (j := 16) (by kernel_rfl) ?_ ?_
   ·refine gi 32767 ?_; intro K hK
    refine Zoc (first := []) (cap := []) T rfl rfl rfl rfl evf (.cons (T.e 6 rfl) .nil) Tryd.func26 rfl rfl ?_
    refine Calls.mono (ints8_any Gq9 dq9 gq9 _ (SG9.rd M (.cons _ (subL (List.Sublist.refl _)))) (by omega)) ?_
    clear T; rintro e wc ⟨AIur23_9, cIur23_9, IMur23_9, rfl, hclur23_9, N⟩ ac T
    obtain ⟨bAIur23_9, oAIur23_9, SVIur23_9⟩ := hclur23_9.spV (by rw [ic_length]; omega)
    have SAIur23_9 := SVIur23_9 w noEx
    replace M := (M.join N).swapI
    clear N
    replace M : Mem w noEx wc ((gr23_10, .any fun o => o = .cells #[] 30) :: (IT ++ ICur23_4 ++ IMur23_9)) := M
    have hcpIur23_9 := hclur23_9.capLe M (.cons _ (Zsq _ _))
    refine Zso hK _ _ ((M.mask [false] rfl).sub (List.Sublist.trans (Zsl _ _) (Zsl _ _))) ?_; clear hK K
    exact H5 _ _ ⟨ACur23_4, cCur23_4, ICur23_4, bACur23_4, oACur23_4, AIur23_9, cIur23_9, IMur23_9, bAIur23_9, oAIur23_9, SACur23_4, hcpCur23_4, SAIur23_9, hcpIur23_9, gr23_10, T.pick [1, 0, 2, 3, 4, 5, 6, 7, 8, 9, 10, 11, 12, 13, 14, 15, 16, 17, 18, 19, 20] rfl, M⟩
   refine gi 97791 ?_; intro K hK
   refine Zoa M T rfl rfl rfl rfl ?_; clear M T; intro gr23_16 wc ac M T
   refine Zso hK _ _ ((M.mask [false, false] rfl).sub (Zsl _ _)) ?_; clear hK K
   exact H3 _ _ ⟨ACur23_4, cCur23_4, ICur23_4, bACur23_4, oACur23_4, SACur23_4, hcpCur23_4, gr23_10, gr23_16, T.pick [1, 0, 2, 3, 4, 5, 6, 7, 8, 9, 10, 11, 12, 13, 14, 15, 16, 17, 18, 19, 20] rfl, M.permT [1, 0] 2 rfl rfl rfl rfl⟩
  intro H2
  refine g_have (fun ac wc => ∃ (gr23_16 gr23_10 : Nat), Tm ac 229 [(28, .pointer (some ⟨gr23_16, 0, none⟩)), (162, .slice (some ⟨gr23_10, 0, none⟩) 0 0), (166, .slice Pq9 pq9.length eq9), (165, .pointer (some ⟨g9, 0 + i * 1, none⟩)), (164, .int .i64 (i : Int)), (163, .slice (some ⟨g9, 0, none⟩) 5 5), (160, .slice Gq9 gq9.length dq9), (159, .pointer (some ⟨g8, 0 + i * 1, none⟩)), (158, .int .i64 (i : Int)), (157, .slice (some ⟨g8, 0, none⟩) 5 5), (155, .agg #[.int .i64 s9.lo, .int .i64 s9.wi, .int .i64 s9.a0, .int .i64 s9.a1, .int .i64 s9.c0, .int .i64 s9.c1, .slice A9 s9.ps.length c9]), (154, .pointer (some ⟨g7, 0 + i * 7, none⟩)), (153, .int .i64 (i : Int)), (152, .slice (some ⟨g7, 0, none⟩) 5 5), (149, .bool (decide ((i : Int) < 5))), (3, .bool b3), (24, .slice (some ⟨g7, 0, none⟩) 5 5), (25, .slice (some ⟨g8, 0, none⟩) 5 5), (26, .slice (some ⟨g9, 0, none⟩) 5 5), (27, .int .i64 (i : Int))] ∧ Mem w noEx wc ((gr23_16, .cells [.int .i64 0, .int .i64 0, .int .i64 0, .int .i64 0, .int .i64 0, .int .i64 0, .slice none 0 0]) :: (gr23_10, .any fun o => o = .cells #[] 30) :: IT)) (Zpb 20 97775) 6 ?_ ?_
  ·clear T M
   rintro ac wc ⟨gr23_16, gr23_10, T, M⟩
   refine gw 4 97791 ?_; intro K hK
   refine Zoc (first := []) (cap := []) T rfl rfl rfl rfl evf (.cons (T.e 10 rfl) .nil) Tryd.func25 rfl rfl ?_
   refine Calls.mono (copySheet_any s9 A9 c9 _ (S9.rd M (.cons _ (.cons _ (List.Sublist.refl _)))) (by omega)) ?_
   clear T; rintro e wc ⟨ACur23_4, cCur23_4, ICur23_4, rfl, hclur23_4, N⟩ ac T
   obtain ⟨bACur23_4, oACur23_4, SVCur23_4⟩ := hclur23_4.spV (pc_length _)
   have SACur23_4 := SVCur23_4 w noEx
   replace M := (M.join N).swapI
   clear N
   replace M : Mem w noEx wc ((gr23_16, .cells [.int .i64 0, .int .i64 0, .int .i64 0, .int .i64 0, .int .i64 0, .int .i64 0, .slice none 0 0]) :: (gr23_10, .any fun o => o = .cells #[] 30) :: (IT ++ ICur23_4)) := M
   have hcpCur23_4 := hclur23_4.capLe M (.cons _ (.cons _ (Zsq _ _)))
   refine Zso hK _ _ ((M.mask [false, false] rfl).sub (Zsl _ _)) ?_; clear hK K
   exact H3 _ _ ⟨ACur23_4, cCur23_4, ICur23_4, bACur23_4, oACur23_4, SACur23_4, hcpCur23_4, gr23_10, gr23_16, T.pick [2, 1, 0, 3, 4, 5, 6, 7, 8, 9, 10, 11, 12, 13, 14, 15, 16, 17, 18, 19, 20] rfl, M.permT [1, 0] 2 rfl rfl rfl rfl⟩
  intro H1
  refine g_have (fun ac wc => ∃ (ACur23_4 : Option Addr), ∃ (cCur23_4 : Nat), ∃ (ICur23_4 : List (Nat × BA)), ∃ (bACur23_4 : Nat), ∃ (oACur23_4 : Nat), (Sp w noEx ICur23_4 ACur23_4 s9.ps.length 4 bACur23_4 oACur23_4 (pc s9.ps)) ∧ (s9.ps.length ≤ cCur23_4) ∧ ∃ (gr23_16 : Nat), Tm ac 229 [(28, .pointer (some ⟨gr23_16, 0, none⟩)), (156, .agg #[.int .i64 s9.lo, .int .i64 s9.wi, .int .i64 s9.a0, .int .i64 s9.a1, .int .i64 s9.c0, .int .i64 s9.c1, .slice ACur23_4 s9.ps.length cCur23_4]), (166, .slice Pq9 pq9.length eq9), (165, .pointer (some ⟨g9, 0 + i * 1, none⟩)), (164, .int .i64 (i : Int)), (163, .slice (some ⟨g9, 0, none⟩) 5 5), (160, .slice Gq9 gq9.length dq9), (159, .pointer (some ⟨g8, 0 + i * 1, none⟩)), (158, .int .i64 (i : Int)), (157, .slice (some ⟨g8, 0, none⟩) 5 5), (155, .agg #[.int .i64 s9.lo, .int .i64 s9.wi, .int .i64 s9.a0, .int .i64 s9.a1, .int .i64 s9.c0, .int .i64 s9.c1, .slice A9 s9.ps.length c9]), (154, .pointer (some ⟨g7, 0 + i * 7, none⟩)), (153, .int .i64 (i : Int)), (152, .slice (some ⟨g7, 0, none⟩) 5 5), (149, .bool (decide ((i : Int) < 5))), (3, .bool b3), (24, .slice (some ⟨g7, 0, none⟩) 5 5), (25, .slice (some ⟨g8, 0, none⟩) 5 5), (26, .slice (some ⟨g9, 0, none⟩) 5 5), (27, .int .i64 (i : Int))] ∧ Mem w noEx wc ((gr23_16, .cells [.int .i64 0, .int .i64 0, .int .i64 0, .int .i64 0, .int .i64 0, .int .i64 0, .slice none 0 0]) :: (IT ++ ICur23_4))) (Zpb 20 96767) 6 ?_ ?_
  ·clear T M
   rintro ac wc ⟨ACur23_4, cCur23_4, ICur23_4, bACur23_4, oACur23_4, SACur23_4, hcpCur23_4, gr23_16, T, M⟩
   refine g_m2 (i := 9) (j := 10) (by kernel_rfl) ?_ ?_
   ·refine gi 97279 ?_; intro K hK
    refine Zoc (first := []) (cap := []) T rfl rfl rfl rfl evf (.cons (T.e 6 rfl) .nil) Tryd.func26 rfl rfl ?_
    refine Calls.mono (ints8_any Gq9 dq9 gq9 _ (SG9.rd M (.cons _ (subL (List.Sublist.refl _)))) (by omega)) ?_
    clear T; rintro e wc ⟨AIur23_9, cIur23_9, IMur23_9, rfl, hclur23_9, N⟩ ac T
    obtain ⟨bAIur23_9, oAIur23_9, SVIur23_9⟩ := hclur23_9.spV (by rw [ic_length]; omega)
    have SAIur23_9 := SVIur23_9 w noEx
    replace M := (M.join N).swapI
    clear N
    replace M : Mem w noEx wc ((gr23_16, .cells [.int .i64 0, .int .i64 0, .int .i64 0, .int .i64 0, .int .i64 0, .int .i64 0, .slice none 0 0]) :: (IT ++ ICur23_4 ++ IMur23_9)) := M
    have hcpIur23_9 := hclur23_9.capLe M (.cons _ (Zsq _ _))
    refine Zso hK _ _ ((M.mask [false] rfl).sub (List.Sublist.trans (Zsl _ _) (Zsl _ _))) ?_; clear hK K
    exact H4 _ _ ⟨ACur23_4, cCur23_4, ICur23_4, bACur23_4, oACur23_4, AIur23_9, cIur23_9, IMur23_9, bAIur23_9, oAIur23_9, SACur23_4, hcpCur23_4, SAIur23_9, hcpIur23_9, gr23_16, T.pick [1, 0, 2, 3, 4, 5, 6, 7, 8, 9, 10, 11, 12, 13, 14, 15, 16, 17, 18, 19, 20] rfl, M⟩
   refine gi 97791 ?_; intro K hK
   refine ow_bs0 (e := 30) M T rfl rfl rfl rfl (fun _ => by kernel_rfl) ?_; clear M T; intro gr23_10 wc ac M T
   refine Zso hK _ _ ((M.mask [false, false] rfl).sub (Zsl _ _)) ?_; clear hK K
   exact H3 _ _ ⟨ACur23_4, cCur23_4, ICur23_4, bACur23_4, oACur23_4, SACur23_4, hcpCur23_4, gr23_10, gr23_16, T, M⟩
  intro H0
  refine gq T 0 1 rfl (fun _ _ _ _ _ => (Zrm rfl (T.e 2 rfl))) ?_; clear T ac; intro ac T
  refine gq T 1 3 rfl (fun _ _ _ _ _ => (Zrm rfl (T.e 6 rfl))) ?_; clear T ac; intro ac T
  refine gq T 2 7 rfl (fun _ _ _ _ _ => (Zri (size := 7) i rfl (T.e 1 rfl) (T.e 0 rfl) ⟨_, Tryd.underlying42, by kernel_rfl⟩ rfl (by omega) (SSS.at0 (by omega)))) ?_; clear T ac; intro ac T
  refine gq (v := (.agg #[.int .i64 s9.lo, .int .i64 s9.wi, .int .i64 s9.a0, .int .i64 s9.a1, .int .i64 s9.c0, .int .i64 s9.c1, .slice A9 s9.ps.length c9])) T 3 15 rfl (fun B w' hD hl hS => (rn_rowat (Sp.skR SSS (show Mem w noEx w' _ from hS) (List.Sublist.refl _) hk9) rfl (T.e 0 rfl) rfl)) ?_; clear T ac; intro ac T
  refine gq T 5 47 rfl (fun _ _ _ _ _ => (Zrm rfl (T.e 7 rfl))) ?_; clear T ac; intro ac T
  refine gq T 6 111 rfl (fun _ _ _ _ _ => (Zrm rfl (T.e 10 rfl))) ?_; clear T ac; intro ac T
  refine gq T 7 239 rfl (fun _ _ _ _ _ => (Zri (size := 1) i rfl (T.e 1 rfl) (T.e 0 rfl) ⟨_, Tryd.underlying43, by kernel_rfl⟩ rfl (by omega) (SLL.at0 (by omega)))) ?_; clear T ac; intro ac T
  refine gq (v := (.slice Gq9 gq9.length dq9)) T 8 495 rfl (fun B w' hD hl hS => (rn_cell (Sp.lc0 SLL (show Mem w noEx w' _ from hS) (List.Sublist.refl _) hkg9) rfl (T.e 0 rfl))) ?_; clear T ac; intro ac T
  refine gq T 11 2543 rfl (fun _ _ _ _ _ => (Zrm rfl (T.e 12 rfl))) ?_; clear T ac; intro ac T
  refine gq T 12 6639 rfl (fun _ _ _ _ _ => (Zrm rfl (T.e 14 rfl))) ?_; clear T ac; intro ac T
  refine gq T 13 14831 rfl (fun _ _ _ _ _ => (Zri (size := 1) i rfl (T.e 1 rfl) (T.e 0 rfl) ⟨_, Tryd.underlying44, by kernel_rfl⟩ rfl (by omega) (SLT.at0 (by omega)))) ?_; clear T ac; intro ac T
  refine gq (v := (.slice Pq9 pq9.length eq9)) T 14 31215 rfl (fun B w' hD hl hS => (rn_cell (Sp.lt0 SLT (show Mem w noEx w' _ from hS) (List.Sublist.refl _) hkp9) rfl (T.e 0 rfl))) ?_; clear T ac; intro ac T
  refine g_m3 (i := 4) (j := 10) (k := 16) (by kernel_rfl) ?_ ?_ ?_
  ·refine gi 31231 ?_; intro K hK
   refine Zoc (first := []) (cap := []) T rfl rfl rfl rfl evf (.cons (T.e 8 rfl) .nil) Tryd.func25 rfl rfl ?_
   refine Calls.mono (copySheet_any s9 A9 c9 _ (S9.rd M (List.Sublist.refl _)) (by omega)) ?_
   clear T; rintro e wc ⟨ACur23_4, cCur23_4, ICur23_4, rfl, hclur23_4, N⟩ ac T
   obtain ⟨bACur23_4, oACur23_4, SVCur23_4⟩ := hclur23_4.spV (pc_length _)
   have SACur23_4 := SVCur23_4 w noEx
   replace M := (M.join N).swapI
   clear N
   replace M : Mem w noEx wc ((IT ++ ICur23_4)) := M
   have hcpCur23_4 := hclur23_4.capLe M (Zsq _ _)
   refine Zso hK _ _ ((M.mask [] rfl).sub (Zsl _ _)) ?_; clear hK K
   refine g_m3 (i := 9) (j := 10) (k := 16) (by kernel_rfl) ?_ ?_ ?_
   ·refine gi 31743 ?_; intro K hK
    refine Zoc (first := []) (cap := []) T rfl rfl rfl rfl evf (.cons (T.e 5 rfl) .nil) Tryd.func26 rfl rfl ?_
    refine Calls.mono (ints8_any Gq9 dq9 gq9 _ (SG9.rd M (subL (List.Sublist.refl _))) (by omega)) ?_
    clear T; rintro e wc ⟨AIur23_9, cIur23_9, IMur23_9, rfl, hclur23_9, N⟩ ac T
    obtain ⟨bAIur23_9, oAIur23_9, SVIur23_9⟩ := hclur23_9.spV (by rw [ic_length]; omega)
    have SAIur23_9 := SVIur23_9 w noEx
    replace M := (M.join N).swapI
    clear N
    replace M : Mem w noEx wc ((IT ++ ICur23_4 ++ IMur23_9)) := M
    have hcpIur23_9 := hclur23_9.capLe M (Zsq _ _)
    refine Zso hK _ _ ((M.mask [] rfl).sub (List.Sublist.trans (Zsl _ _) (Zsl _ _))) ?_; clear hK K
    refine g_m2 (i := 10) (j := 16) (by kernel_rfl) ?_ ?_
    ·refine gi 32767 ?_; intro K hK
     refine ow_bs0 (e := 30) M T rfl rfl rfl rfl (fun _ => by kernel_rfl) ?_; clear M T; intro gr23_10 wc ac M T
     refine Zso hK _ _ ((M.mask [false] rfl).sub (List.Sublist.trans (Zsl _ _) (Zsl _ _))) ?_; clear hK K
     exact H5 _ _ ⟨ACur23_4, cCur23_4, ICur23_4, bACur23_4, oACur23_4, AIur23_9, cIur23_9, IMur23_9, bAIur23_9, oAIur23_9, SACur23_4, hcpCur23_4, SAIur23_9, hcpIur23_9, gr23_10, T, M⟩
    refine gi 97279 ?_; intro K hK
    refine Zoa M T rfl rfl rfl rfl ?_; clear M T; intro gr23_16 wc ac M T
    refine Zso hK _ _ ((M.mask [false] rfl).sub (List.Sublist.trans (Zsl _ _) (Zsl _ _))) ?_; clear hK K
    exact H4 _ _ ⟨ACur23_4, cCur23_4, ICur23_4, bACur23_4, oACur23_4, AIur23_9, cIur23_9, IMur23_9, bAIur23_9, oAIur23_9, SACur23_4, hcpCur23_4, SAIur23_9, hcpIur23_9, gr23_16, T, M⟩
   ·refine gi 32255 ?_; intro K hK
    refine ow_bs0 (e := 30) M T rfl rfl rfl rfl (fun _ => by kernel_rfl) ?_; clear M T; intro gr23_10 wc ac M T
    refine Zso hK _ _ ((M.mask [false] rfl).sub (Zsl _ _)) ?_; clear hK K
    exact H2 _ _ ⟨ACur23_4, cCur23_4, ICur23_4, bACur23_4, oACur23_4, SACur23_4, hcpCur23_4, gr23_10, T, M⟩
   refine gi 96767 ?_; intro K hK
   refine Zoa M T rfl rfl rfl rfl ?_; clear M T; intro gr23_16 wc ac M T
   refine Zso hK _ _ ((M.mask [false] rfl).sub (Zsl _ _)) ?_; clear hK K
   exact H0 _ _ ⟨ACur23_4, cCur23_4, ICur23_4, bACur23_4, oACur23_4, SACur23_4, hcpCur23_4, gr23_16, T, M⟩
  ·refine gi 32239 ?_; intro K hK
   refine ow_bs0 (e := 30) M T rfl rfl rfl rfl (fun _ => by kernel_rfl) ?_; clear M T; intro gr23_10 wc ac M T
   refine Zso hK _ _ (M.mask [false] rfl) ?_; clear hK K
   refine g_m2 (i := 4) (j := 16) (by kernel_rfl) ?_ ?_
   ·refine gi 32255 ?_; intro K hK
    refine Zoc (first := []) (cap := []) T rfl rfl rfl rfl evf (.cons (T.e 9 rfl) .nil) Tryd.func25 rfl rfl ?_
    refine Calls.mono (copySheet_any s9 A9 c9 _ (S9.rd M (.cons _ (List.Sublist.refl _))) (by omega)) ?_
    clear T; rintro e wc ⟨ACur23_4, cCur23_4, ICur23_4, rfl, hclur23_4, N⟩ ac T
    obtain ⟨bACur23_4, oACur23_4, SVCur23_4⟩ := hclur23_4.spV (pc_length _)
    have SACur23_4 := SVCur23_4 w noEx
    replace M := (M.join N).swapI
    clear N
    replace M : Mem w noEx wc ((gr23_10, .any fun o => o = .cells #[] 30) :: (IT ++ ICur23_4)) := M
    have hcpCur23_4 := hclur23_4.capLe M (.cons _ (Zsq _ _))
    refine Zso hK _ _ ((M.mask [false] rfl).sub (Zsl _ _)) ?_; clear hK K
    exact H2 _ _ ⟨ACur23_4, cCur23_4, ICur23_4, bACur23_4, oACur23_4, SACur23_4, hcpCur23_4, gr23_10, T.pick [1, 0, 2, 3, 4, 5, 6, 7, 8, 9, 10, 11, 12, 13, 14, 15, 16, 17, 18, 19] rfl, M⟩
   refine gi 97775 ?_; intro K hK
   refine Zoa M T rfl rfl rfl rfl ?_; clear M T; intro gr23_16 wc ac M T
   refine Zso hK _ _ (M.mask [false, false] rfl) ?_; clear hK K
   exact H1 _ _ ⟨gr23_16, gr23_10, T, M⟩
  refine gi 96751 ?_; intro K hK
  refine Zoa M T rfl rfl rfl rfl ?_; clear M T; intro gr23_16 wc ac M T
  refine Zso hK _ _ (M.mask [false] rfl) ?_; clear hK K
  refine g_m2 (i := 4) (j := 10) (by kernel_rfl) ?_ ?_
  ·refine gi 96767 ?_; intro K hK
   refine Zoc (first := []) (cap := []) T rfl rfl rfl rfl evf (.cons (T.e 9 rfl) .nil) Tryd.func25 rfl rfl ?_
   refine Calls.mono (copySheet_any s9 A9 c9 _ (S9.rd M (.cons _ (List.Sublist.refl _))) (by omega)) ?_
   clear T; rintro e wc ⟨ACur23_4, cCur23_4, ICur23_4, rfl, hclur23_4, N⟩ ac T
   obtain ⟨bACur23_4, oACur23_4, SVCur23_4⟩ := hclur23_4.spV (pc_length _)
   have SACur23_4 := SVCur23_4 w noEx
   replace M := (M.join N).swapI
   clear N
   replace M : Mem w noEx wc ((gr23_16, .cells [.int .i64 0, .int .i64 0, .int .i64 0, .int .i64 0, .int .i64 0, .int .i64 0, .slice none 0 0]) :: (IT ++ ICur23_4)) := M
   have hcpCur23_4 := hclur23_4.capLe M (.cons _ (Zsq _ _))
   refine Zso hK _ _ ((M.mask [false] rfl).sub (Zsl _ _)) ?_; clear hK K
   exact H0 _ _ ⟨ACur23_4, cCur23_4, ICur23_4, bACur23_4, oACur23_4, SACur23_4, hcpCur23_4, gr23_16, T.pick [1, 0, 2, 3, 4, 5, 6, 7, 8, 9, 10, 11, 12, 13, 14, 15, 16, 17, 18, 19] rfl, M⟩
  refine gi 97775 ?_; intro K hK
  refine ow_bs0 (e := 30) M T rfl rfl rfl rfl (fun _ => by kernel_rfl) ?_; clear M T; intro gr23_10 wc ac M T
  refine Zso hK _ _ (M.mask [false, false] rfl) ?_; clear hK K
  exact H1 _ _ ⟨gr23_16, gr23_10, T.pick [1, 0, 2, 3, 4, 5, 6, 7, 8, 9, 10, 11, 12, 13, 14, 15, 16, 17, 18, 19] rfl, M.permT [1, 0] 2 rfl rfl rfl rfl⟩
 intro h7
 refine wp_exit ?_
 refine Zet ?_
 refine Zet ?_
 refine ex_hit ?_
 refine nm_then ?_
 refine Zsr ?_
 refine Zl2 ?_
 refine Zoc (first := []) (cap := []) T rfl rfl rfl rfl evf .nil Tryd.func17 rfl rfl ?_
 refine Calls.mono (sawn8_any _ (hT.mem M (fun h => h))) ?_
 clear T; rintro e wc ⟨rfl, hb⟩ ac T
 replace M := M.call hb; clear hb
 refine lq T (Zra rfl (T.e 0 rfl)) ?_; clear T ac; intro ac T
 refine wpList_nil ?_
 replace T := T.pick [0] rfl
 refine Znr ?_
 refine rt_1 T rfl (T.e 0 rfl) ?_
 exact ⟨ret_bool (by simp_all), M.below⟩
end Go.Proofs.YtehpcclfgjccbaaDoor

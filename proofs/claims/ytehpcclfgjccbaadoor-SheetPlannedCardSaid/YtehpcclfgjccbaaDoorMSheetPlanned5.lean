/-
  Walks of functions, and plain laws (texts put together). No condition.
-/
import Derived.Test.YtehpcclfgjccbaaDoorMSheetPlanned1
import Derived.Test.YtehpcclfgjccbaaDoorMSheetPlanned2
import Derived.Test.YtehpcclfgjccbaaDoorMSheetPlanned3
import Derived.Test.YtehpcclfgjccbaaDoorMSheetPlanned4
set_option maxRecDepth 100000
set_option maxHeartbeats 1000000
section
/-
 sheet's laws, plain: what is laid can be sawn.
-/
namespace Go.Proofs.YtehpcclfgjccbaaDoor
set_option linter.unusedSimpArgs false
set_option linter.unusedVariables false
open Go.RowKit
theorem sel_sub {α : Type} : ∀ (L : List α) (s : Nat), (sel L s).Sublist L
 | [], _ => List.Sublist.refl _
 | x :: L, s => by
   simp only [sel]
   split
   · exact (sel_sub L _).cons_cons x
   · exact (sel_sub L _).cons x
def ldA (a c : Int) (L : List Pt) (z : Nat × Spt) : Ld := ldOf a c (L.getD z.1 default) z.2 z.1
structure LayOk (a c : Int) (L : List Pt) (r : Rm) (x y : Int) (A : List (Nat × Spt)) : Prop where
 idx : (A.map (·.1)).Perm (sel (List.range L.length) r.s)
 fit : ∀ z ∈ A, (z.2.t && (L.getD z.1 default).gr) = false
 inn : ∀ z ∈ A, inP (ldA a c L z).ar ⟨x, y, x + r.lo, y + r.wi⟩ = true
 apart : A.Pairwise fun z w => overP (ldA a c L z).ar (ldA a c L w).ar = false
 saw : Saw (A.map (ldA a c L)) ⟨x, y, x + r.lo, y + r.wi⟩
section
variable {a c : Int} {L : List Pt}
theorem size_pos (ha : 0 ≤ a) (hc : 0 ≤ c) {p : Pt} (hp : p.good) (t : Bool) : 1 ≤ sizeL a c p t ∧ 1 ≤ sizeW a c p t := by
 obtain ⟨h1, h2, -⟩ := hp
 unfold sizeL sizeW
 cases t <;> simp <;> omega
theorem LayOk.lt {r : Rm} {x y : Int} {A : List (Nat × Spt)} (h : LayOk a c L r x y A) {z : Nat × Spt} (hz : z ∈ A) : z.1 < L.length := by
 have h1 := (sel_sub _ _).subset (h.idx.subset (List.mem_map.2 ⟨z, hz, rfl⟩))
 exact List.mem_range.1 h1
theorem getD_good (hg : ∀ p ∈ L, p.good) {i : Nat} (hi : i < L.length) : (L.getD i default).good := by
 rw [List.getD_eq_getElem?_getD, List.getElem?_eq_getElem hi]
 exact hg _ (List.getElem_mem hi)
theorem LayOk.join (hg : ∀ p ∈ L, p.good) (ha : 0 ≤ a) (hc : 0 ≤ c) {r ra rb : Rm} {x y xb yb : Int} {A B : List (Nat × Spt)} (h1 : LayOk a c L ra x y A) (h2 : LayOk a c L rb xb yb B)
   (hp : (sel (List.range L.length) r.s).Perm (sel (List.range L.length) ra.s ++ sel (List.range L.length) rb.s)) (hA : A ≠ []) (hB : B ≠ [])
   (hd : (∃ k, 0 < k ∧ k < r.lo ∧ ra.lo = k ∧ ra.wi = r.wi ∧ rb.lo = r.lo - k ∧ rb.wi = r.wi ∧ xb = x + k ∧ yb = y) ∨ ∃ k, 0 < k ∧ k < r.wi ∧ ra.wi = k ∧ ra.lo = r.lo ∧ rb.wi = r.wi - k ∧ rb.lo = r.lo ∧ yb = y + k ∧ xb = x) : LayOk a c L r x y (A ++ B) := by
 have iA : ∀ z ∈ A, x ≤ z.2.x ∧ (ldA a c L z).r ≤ x + ra.lo ∧ y ≤ z.2.y ∧ (ldA a c L z).f ≤ y + ra.wi := fun z hz => inP_iff.1 (h1.inn z hz)
 have iB : ∀ z ∈ B, xb ≤ z.2.x ∧ (ldA a c L z).r ≤ xb + rb.lo ∧ yb ≤ z.2.y ∧ (ldA a c L z).f ≤ yb + rb.wi := fun z hz => inP_iff.1 (h2.inn z hz)
 have pA : ∀ z ∈ A, z.2.x < (ldA a c L z).r ∧ z.2.y < (ldA a c L z).f := fun z hz => by
   have := size_pos ha hc (getD_good hg (h1.lt hz)) z.2.t
   constructor
   · show z.2.x < z.2.x + _; omega
   · show z.2.y < z.2.y + _; omega
 have pB : ∀ z ∈ B, z.2.x < (ldA a c L z).r ∧ z.2.y < (ldA a c L z).f := fun z hz => by
   have := size_pos ha hc (getD_good hg (h2.lt hz)) z.2.t
   constructor
   · show z.2.x < z.2.x + _; omega
   · show z.2.y < z.2.y + _; omega
 refine ⟨?_, fun z hz => ?_, fun z hz => ?_, ?_, ?_⟩
 · rw [List.map_append]
   exact (h1.idx.append h2.idx).trans hp.symm
 · rcases List.mem_append.1 hz with hz | hz
   · exact h1.fit z hz
   · exact h2.fit z hz
 · rw [inP_iff]
   rcases List.mem_append.1 hz with hz | hz
   · have := iA z hz
     show x ≤ z.2.x ∧ (ldA a c L z).r ≤ x + r.lo ∧ y ≤ z.2.y ∧ (ldA a c L z).f ≤ y + r.wi
     rcases hd with ⟨k, h3⟩ | ⟨k, h3⟩ <;> omega
   · have := iB z hz
     show x ≤ z.2.x ∧ (ldA a c L z).r ≤ x + r.lo ∧ y ≤ z.2.y ∧ (ldA a c L z).f ≤ y + r.wi
     rcases hd with ⟨k, h3⟩ | ⟨k, h3⟩ <;> omega
 · refine List.pairwise_append.2 ⟨h1.apart, h2.apart, fun z hz w hw => ?_⟩
   have := iA z hz
   have := iB w hw
   rw [Bool.eq_false_iff]
   intro h9
   simp only [overP, Bool.and_eq_true, decide_eq_true_eq] at h9
   have h8 : z.2.x < (ldA a c L w).r ∧ w.2.x < (ldA a c L z).r ∧ z.2.y < (ldA a c L w).f ∧ w.2.y < (ldA a c L z).f := ⟨h9.1.1.1, h9.1.1.2, h9.1.2, h9.2⟩
   rcases hd with ⟨k, h3⟩ | ⟨k, h3⟩ <;> omega
 · have split : ∀ (one two : Ar), (∀ z ∈ A, inP (ldA a c L z).ar one = true) → (∀ z ∈ B, inP (ldA a c L z).ar two = true) → (∀ z ∈ B, inP (ldA a c L z).ar one = false) →
       splI ((A ++ B).map (ldA a c L)) one two = true ∧ splA ((A ++ B).map (ldA a c L)) one two = A.map (ldA a c L) ∧ splB ((A ++ B).map (ldA a c L)) one two = B.map (ldA a c L) := by
     intro one two k1 k2 k3
     have eA : spA ((A ++ B).map (ldA a c L)) one = A.map (ldA a c L) := by
       unfold spA
       rw [List.map_append, List.filter_append, List.filter_eq_self.2, List.filter_eq_nil_iff.2, List.append_nil]
       · intro w hw
         obtain ⟨z, hz, rfl⟩ := List.mem_map.1 hw
         rw [k3 z hz]
         decide
       · intro w hw
         obtain ⟨z, hz, rfl⟩ := List.mem_map.1 hw
         exact k1 z hz
     have eB : spB ((A ++ B).map (ldA a c L)) one two = B.map (ldA a c L) := by
       unfold spB
       rw [List.map_append, List.filter_append, List.filter_eq_nil_iff.2, List.filter_eq_self.2, List.nil_append]
       · intro w hw
         obtain ⟨z, hz, rfl⟩ := List.mem_map.1 hw
         rw [k3 z hz, k2 z hz]
         rfl
       · intro w hw
         obtain ⟨z, hz, rfl⟩ := List.mem_map.1 hw
         rw [k1 z hz]
         simp
     have ok : spOk ((A ++ B).map (ldA a c L)) one two = true := List.all_eq_true.2 fun w hw => by
       obtain ⟨z, hz, rfl⟩ := List.mem_map.1 hw
       rcases List.mem_append.1 hz with hz | hz
       · rw [k1 z hz]; rfl
       · rw [k2 z hz]; simp
     refine ⟨?_, ?_, ?_⟩
     · simp only [splI, ok, eA, eB, Bool.true_and, Bool.and_eq_true, decide_eq_true_eq, List.length_map]
       exact ⟨List.length_pos_iff.2 hA, List.length_pos_iff.2 hB⟩
     · simp only [splA, if_pos ok, eA]
     · simp only [splB, if_pos ok, eB]
   rcases hd with ⟨k, k1, k2, k3, k4, k5, k6, k7, k8⟩ | ⟨k, k1, k2, k3, k4, k5, k6, k7, k8⟩
   · have e1 : (⟨x, y, x + ra.lo, y + ra.wi⟩ : Ar) = (⟨x, y, x + r.lo, y + r.wi⟩ : Ar).al (x + k) := by rw [k3, k4]; rfl
     have e2 : (⟨xb, yb, xb + rb.lo, yb + rb.wi⟩ : Ar) = (⟨x, y, x + r.lo, y + r.wi⟩ : Ar).ar (x + k) := by rw [k5, k6, k7, k8, show x + k + (r.lo - k) = x + r.lo by omega]; rfl
     obtain ⟨s1, s2, s3⟩ := split _ _ (e1 ▸ h1.inn) (e2 ▸ h2.inn) fun z hz => by
       rw [Bool.eq_false_iff, Ne, inP_iff]
       intro h9
       have := iB z hz
       have := pB z hz
       have h8 : (ldA a c L z).r ≤ x + k := h9.2.1
       omega
     exact .along (x + k) (by show x < x + k; omega) (by show x + k < x + r.lo; omega) s1 (by rw [s2, ← e1]; exact h1.saw) (by rw [s3, ← e2]; exact h2.saw)
   · have e1 : (⟨x, y, x + ra.lo, y + ra.wi⟩ : Ar) = (⟨x, y, x + r.lo, y + r.wi⟩ : Ar).cl (y + k) := by rw [k3, k4]; rfl
     have e2 : (⟨xb, yb, xb + rb.lo, yb + rb.wi⟩ : Ar) = (⟨x, y, x + r.lo, y + r.wi⟩ : Ar).cr (y + k) := by rw [k5, k6, k7, k8, show y + k + (r.wi - k) = y + r.wi by omega]; rfl
     obtain ⟨s1, s2, s3⟩ := split _ _ (e1 ▸ h1.inn) (e2 ▸ h2.inn) fun z hz => by
       rw [Bool.eq_false_iff, Ne, inP_iff]
       intro h9
       have := iB z hz
       have := pB z hz
       have h8 : (ldA a c L z).f ≤ y + k := h9.2.2.2
       omega
     exact .across (y + k) (by show y < y + k; omega) (by show y + k < y + r.wi; omega) s1 (by rw [s2, ← e1]; exact h1.saw) (by rw [s3, ← e2]; exact h2.saw)
theorem LayOk.ne {r : Rm} {x y : Int} {A : List (Nat × Spt)} (h : LayOk a c L r x y A) (h5 : L.length ≤ 5) (hs : r.s < 2 ^ L.length) (h0 : 0 < r.s) : A ≠ [] := fun e => by
 have h1 := h.idx
 rw [e] at h1
 exact (sel_ne (L := List.range L.length) (by rw [List.length_range]; exact hs) (by rw [List.length_range]; exact h5)).2 h0 (List.perm_nil.1 h1.symm)
theorem Lay.ok (hg : ∀ p ∈ L, p.good) (ha : 0 ≤ a) (hc : 0 ≤ c) (h5 : L.length ≤ 5) {r : Rm} {x y : Int} {A : List (Nat × Spt)} (h : Lay a c L r x y A) : r.s < 2 ^ L.length → canP a c L r → LayOk a c L r x y A := by
 have h32 : 2 ^ L.length ≤ 32 := Nat.pow_le_pow_right (n := 2) (by omega) h5
 induction h with
 | @none r x y h0 =>
   intro hs _
   have h1 := (pop_zero r.s (by omega)).1 h0
   exact ⟨by rw [h1, sel_zero]; exact .refl _, fun z hz => (by cases hz), fun z hz => (by cases hz), List.Pairwise.nil, .few (by simp)⟩
 | @one r x y h1 =>
   intro hs hcan
   have hf := fitsP_is ((can_one hs h5 h1).1 hcan)
   obtain ⟨s1, s2⟩ := sel_one (List.range L.length) r.s (by rw [List.length_range]; exact hs) (by rw [List.length_range]; exact h5) h1
   rw [List.length_range] at s2
   simp only [fitsT, Bool.and_eq_true, decide_eq_true_eq, Bool.not_eq_true'] at hf
   refine ⟨?_, fun z hz => ?_, fun z hz => ?_, List.pairwise_singleton _ _, .few (by simp)⟩
   · have e9 : (List.range L.length).getD (onlyP r.s) default = onlyP r.s := by rw [List.getD_eq_getElem?_getD, List.getElem?_range s2]; rfl
     rw [s1, e9]
     exact .refl _
   · rw [List.mem_singleton.1 hz]
     exact hf.2
   · rw [List.mem_singleton.1 hz, inP_iff]
     refine ⟨Int.le_refl _, ?_, Int.le_refl _, ?_⟩
     · exact Int.add_le_add_left hf.1.1 x
     · exact Int.add_le_add_left hf.1.2 y
 | @cut r x y q A B h2 hq _ _ ih1 ih2 =>
   intro hs hcan
   have hm := List.mem_of_find?_eq_some hq
   have hb := List.find?_some hq
   simp only [Bool.and_eq_true, canB_iff] at hb
   obtain ⟨p1, p2⟩ := rooms_pow hs h5 hm
   obtain ⟨⟨r1, r2, r3, r4⟩, -, -⟩ := rooms_pop (by omega) hm
   have o1 := ih1 p1 hb.1
   have o2 := ih2 p2 hb.2
   refine o1.join hg ha hc o2 ?_ (o1.ne h5 p1 r1) (o2.ne h5 p2 (by omega)) ?_
   · rw [r4]
     exact sel_perm _ _ _ (by omega) (by omega) r3
   · rcases mem_rooms.1 hm with ⟨k, k0, k1, hq⟩ | ⟨k, k0, k1, hq⟩
     · obtain ⟨z, -, rfl⟩ := mem_long.1 hq
       exact .inl ⟨(k : Int), by omega, k1, rfl, rfl, rfl, rfl, rfl, by show y + 0 = y; omega⟩
     · obtain ⟨z, -, rfl⟩ := mem_wide.1 hq
       exact .inr ⟨(k : Int), by omega, k1, rfl, rfl, rfl, rfl, rfl, by show x + 0 = x; omega⟩
end
end Go.Proofs.YtehpcclfgjccbaaDoor
end

section
/-
 kit: copies of stocks, stocks that are equal.
-/
namespace Go.Proofs.YtehpcclfgjccbaaDoor
set_option linter.unusedSimpArgs false
set_option linter.unusedVariables false
open Go.RowKit
theorem eqT23 {x y : Operand} {a0 a1 b0 b1 : Int} {w : World} : (do eqGuard .eql 23 x y (.agg #[.int .i64 a0, .int .i64 a1]) (.agg #[.int .i64 b0, .int .i64 b1]); binOp .eql 23 (.agg #[.int .i64 a0, .int .i64 a1]) (.agg #[.int .i64 b0, .int .i64 b1]) : Sem Value).run Tryd.prog w = .ok (.bool ((decide (a0 = b0) && decide (a1 = b1)))) w := by
 go_simp
 (repeat' split) <;> simp_all
theorem eqT63 {x y : Operand} {a0 a1 a3 b0 b1 b3 : Int} {a2 b2 : Bool} {w : World} : (do eqGuard .eql 63 x y (.agg #[.int .i64 a0, .int .i64 a1, .bool a2, .int .i64 a3]) (.agg #[.int .i64 b0, .int .i64 b1, .bool b2, .int .i64 b3]); binOp .eql 63 (.agg #[.int .i64 a0, .int .i64 a1, .bool a2, .int .i64 a3]) (.agg #[.int .i64 b0, .int .i64 b1, .bool b2, .int .i64 b3]) : Sem Value).run Tryd.prog w = .ok (.bool (decide (a0 = b0) && (decide (a1 = b1) && (decide (a2 = b2) && decide (a3 = b3))))) w := by
 go_simp
 (repeat' split) <;> simp_all
def CopySkPost (s : Sk) (w : World) (e : Ending) (w' : World) : Prop := ∃ A c I, e = .returned (.agg #[.int .i64 s.lo, .int .i64 s.wi, .int .i64 s.a0, .int .i64 s.a1, .int .i64 s.c0, .int .i64 s.c1, .slice A s.ps.length c]) ∧ Cl 63 4 A s.ps.length c (pc s.ps) I ∧ Mem w noEx w' I
def eqF (s t : Sk) : Prop := s.lo = t.lo ∧ s.wi = t.wi ∧ (s.a0 = t.a0 ∧ s.a1 = t.a1) ∧ (s.c0 = t.c0 ∧ s.c1 = t.c1) ∧ s.ps.length = t.ps.length
theorem sameSheets_any (s : Sk) (A : Option Addr) (c : Nat) (t : Sk) (B : Option Addr) (d : Nat)  (w : World) (hA : Rd w w.heap.size 4 A s.ps.length (pc s.ps)) (hB : Rd w w.heap.size 4 B t.ps.length (pc t.ps)) (nA : s.ps.length ≤ 1000000) (nB : t.ps.length ≤ 1000000) :
   Calls Tryd.prog 29 #[.agg #[.int .i64 s.lo, .int .i64 s.wi, .int .i64 s.a0, .int .i64 s.a1, .int .i64 s.c0, .int .i64 s.c1, .slice A s.ps.length c], .agg #[.int .i64 t.lo, .int .i64 t.wi, .int .i64 t.a0, .int .i64 t.a1, .int .i64 t.c0, .int .i64 t.c1, .slice B t.ps.length d]] w fun e w' => e = .returned (.bool (decide (s = t))) ∧ Below w.heap.size w w' := by
 obtain ⟨bA, oA, SA⟩ := Sp.old hA
 obtain ⟨bB, oB, SB⟩ := Sp.old hB
 refine px_enter noEx Tryd.func29 rfl 64 rfl [.agg #[.int .i64 s.lo, .int .i64 s.wi, .int .i64 s.a0, .int .i64 s.a1, .int .i64 s.c0, .int .i64 s.c1, .slice A s.ps.length c], .agg #[.int .i64 t.lo, .int .i64 t.wi, .int .i64 t.a0, .int .i64 t.a1, .int .i64 t.c0, .int .i64 t.c1, .slice B t.ps.length d]] rfl rfl (Mem.init w _) ?_
 intro ac wc T M
 refine wp_seq ?_
 refine wp_region_lit ?_
 refine l_w rfl ?_; intro K hK
 refine ow_bx M T rfl rfl rfl rfl (T.ev 0 rfl) rfl ?_; clear M T; intro g1 wc ac M T
 refine sh_out hK _ _ ?_; clear hK K
 refine l_w rfl ?_; intro K hK
 refine ow_bx M T rfl rfl rfl rfl (T.ev 2 rfl) rfl ?_; clear M T; intro g2 wc ac M T
 refine sh_out hK _ _ ?_; clear hK K
 refine lq T (rn_assign rfl evc) ?_; clear T ac; intro ac T
 refine wpList_nil ?_
 replace T := T.pick [1, 2] rfl
 refine nm_then ?_
 refine cut_seq (fun ac wc => Tm ac 64 [(2, .pointer (some ⟨g1, 0, none⟩)), (3, .pointer (some ⟨g2, 0, none⟩)), (5, .bool ((decide (s.lo = t.lo)) && ((decide (s.wi = t.wi)) && (((decide (s.a0 = t.a0)) && (decide (s.a1 = t.a1))) && (((decide (s.c0 = t.c0)) && (decide (s.c1 = t.c1))) && (decide (((s.ps.length : Nat) : Int) = ((t.ps.length : Nat) : Int))))))))] ∧ Mem w noEx wc [(g2, .cells [.int .i64 t.lo, .int .i64 t.wi, .int .i64 t.a0, .int .i64 t.a1, .int .i64 t.c0, .int .i64 t.c1, .slice B t.ps.length d]), (g1, .cells [.int .i64 s.lo, .int .i64 s.wi, .int .i64 s.a0, .int .i64 s.a1, .int .i64 s.c0, .int .i64 s.c1, .slice A s.ps.length c])]) ?_ ?_
 ·refine wp_region_lit ?_
  refine lq (v := (.pointer (some ⟨g1, 0, none⟩))) T (rn_fieldAddr (off := 0) rfl (T.ev 1 rfl) (fun _ _ _ => by kernel_rfl)) ?_; clear T ac; intro ac T
  refine lq T (rn_one (Mem.nth M 1 rfl) rfl (T.ev 0 rfl) rfl) ?_; clear T ac; intro ac T
  refine lq (v := (.pointer (some ⟨g2, 0, none⟩))) T (rn_fieldAddr (off := 0) rfl (T.ev 2 rfl) (fun _ _ _ => by kernel_rfl)) ?_; clear T ac; intro ac T
  refine lq T (rn_one (Mem.nth M 0 rfl) rfl (T.ev 0 rfl) rfl) ?_; clear T ac; intro ac T
  refine lq T (rn_eql rfl (T.ev 2 rfl) (T.ev 0 rfl)) ?_; clear T ac; intro ac T
  refine lq T (rn_move rfl (T.ev 0 rfl)) ?_; clear T ac; intro ac T
  rcases Bool.eq_false_or_eq_true (decide (s.lo = t.lo)) with h1 | h1
  ·replace h1 := of_decide_eq_true h1
   refine lw (v := (.pointer (some ⟨g1, 1, none⟩))) T (wanted_yes rfl rfl (T.ev 0 rfl) (decide_eq_true h1)) (rn_fieldAddr (off := 1) rfl (T.ev 7 rfl) (fun _ _ _ => by kernel_rfl)) ?_; clear T ac; intro ac T
   refine lw T (wanted_yes rfl rfl (T.ev 1 rfl) (decide_eq_true h1)) (rn_one (Mem.nth M 1 rfl) rfl (T.ev 0 rfl) rfl) ?_; clear T ac; intro ac T
   refine lw (v := (.pointer (some ⟨g2, 1, none⟩))) T (wanted_yes rfl rfl (T.ev 2 rfl) (decide_eq_true h1)) (rn_fieldAddr (off := 1) rfl (T.ev 8 rfl) (fun _ _ _ => by kernel_rfl)) ?_; clear T ac; intro ac T
   refine lw T (wanted_yes rfl rfl (T.ev 3 rfl) (decide_eq_true h1)) (rn_one (Mem.nth M 0 rfl) rfl (T.ev 0 rfl) rfl) ?_; clear T ac; intro ac T
   refine lw T (wanted_yes rfl rfl (T.ev 4 rfl) (decide_eq_true h1)) (rn_eql rfl (T.ev 2 rfl) (T.ev 0 rfl)) ?_; clear T ac; intro ac T
   refine lq T (rn_pick1 rfl (T.ev 5 rfl) (decide_eq_true h1) (T.ev 0 rfl)) ?_; clear T ac; intro ac T
   refine lq T (rn_move rfl (T.ev 0 rfl)) ?_; clear T ac; intro ac T
   rcases Bool.eq_false_or_eq_true (decide (s.wi = t.wi)) with h2 | h2
   ·replace h2 := of_decide_eq_true h2
    refine lw (v := (.pointer (some ⟨g1, 2, none⟩))) T (wanted_yes rfl rfl (T.ev 0 rfl) (decide_eq_true h2)) (rn_fieldAddr (off := 2) rfl (T.ev 14 rfl) (fun _ _ _ => by kernel_rfl)) ?_; clear T ac; intro ac T
    refine lw T (wanted_yes rfl rfl (T.ev 1 rfl) (decide_eq_true h2)) (rn_rowO (Mem.nth M 1 rfl) rfl (T.ev 0 rfl) rfl) ?_; clear T ac; intro ac T
    refine lw (v := (.pointer (some ⟨g2, 2, none⟩))) T (wanted_yes rfl rfl (T.ev 2 rfl) (decide_eq_true h2)) (rn_fieldAddr (off := 2) rfl (T.ev 15 rfl) (fun _ _ _ => by kernel_rfl)) ?_; clear T ac; intro ac T
    refine lw T (wanted_yes rfl rfl (T.ev 3 rfl) (decide_eq_true h2)) (rn_rowO (Mem.nth M 0 rfl) rfl (T.ev 0 rfl) rfl) ?_; clear T ac; intro ac T
    refine lw (v := (.bool ((decide (s.a0 = t.a0)) && (decide (s.a1 = t.a1))))) T (wanted_yes rfl rfl (T.ev 4 rfl) (decide_eq_true h2)) (rn_bin rfl (T.ev 2 rfl) (T.ev 0 rfl) eqT23) ?_; clear T ac; intro ac T
    refine lq T (rn_pick1 rfl (T.ev 5 rfl) (decide_eq_true h2) (T.ev 0 rfl)) ?_; clear T ac; intro ac T
    refine lq T (rn_move rfl (T.ev 0 rfl)) ?_; clear T ac; intro ac T
    rcases Bool.eq_false_or_eq_true ((decide (s.a0 = t.a0)) && (decide (s.a1 = t.a1))) with h3 | h3
    ·refine lw (v := (.pointer (some ⟨g1, 4, none⟩))) T (wanted_yes rfl rfl (T.ev 0 rfl) h3) (rn_fieldAddr (off := 4) rfl (T.ev 21 rfl) (fun _ _ _ => by kernel_rfl)) ?_; clear T ac; intro ac T
     refine lw T (wanted_yes rfl rfl (T.ev 1 rfl) h3) (rn_rowO (Mem.nth M 1 rfl) rfl (T.ev 0 rfl) rfl) ?_; clear T ac; intro ac T
     refine lw (v := (.pointer (some ⟨g2, 4, none⟩))) T (wanted_yes rfl rfl (T.ev 2 rfl) h3) (rn_fieldAddr (off := 4) rfl (T.ev 22 rfl) (fun _ _ _ => by kernel_rfl)) ?_; clear T ac; intro ac T
     refine lw T (wanted_yes rfl rfl (T.ev 3 rfl) h3) (rn_rowO (Mem.nth M 0 rfl) rfl (T.ev 0 rfl) rfl) ?_; clear T ac; intro ac T
     refine lw (v := (.bool ((decide (s.c0 = t.c0)) && (decide (s.c1 = t.c1))))) T (wanted_yes rfl rfl (T.ev 4 rfl) h3) (rn_bin rfl (T.ev 2 rfl) (T.ev 0 rfl) eqT23) ?_; clear T ac; intro ac T
     refine lq T (rn_pick1 rfl (T.ev 5 rfl) h3 (T.ev 0 rfl)) ?_; clear T ac; intro ac T
     refine lq T (rn_move rfl (T.ev 0 rfl)) ?_; clear T ac; intro ac T
     rcases Bool.eq_false_or_eq_true ((decide (s.c0 = t.c0)) && (decide (s.c1 = t.c1))) with h4 | h4
     ·refine lw (v := (.pointer (some ⟨g1, 6, none⟩))) T (wanted_yes rfl rfl (T.ev 0 rfl) h4) (rn_fieldAddr (off := 6) rfl (T.ev 28 rfl) (fun _ _ _ => by kernel_rfl)) ?_; clear T ac; intro ac T
      refine lw T (wanted_yes rfl rfl (T.ev 1 rfl) h4) (rn_one (Mem.nth M 1 rfl) rfl (T.ev 0 rfl) rfl) ?_; clear T ac; intro ac T
      refine lw T (wanted_yes rfl rfl (T.ev 2 rfl) h4) (rn_lenS rfl Tryd.underlying24 (T.ev 0 rfl)) ?_; clear T ac; intro ac T
      refine lw (v := (.pointer (some ⟨g2, 6, none⟩))) T (wanted_yes rfl rfl (T.ev 3 rfl) h4) (rn_fieldAddr (off := 6) rfl (T.ev 30 rfl) (fun _ _ _ => by kernel_rfl)) ?_; clear T ac; intro ac T
      refine lw T (wanted_yes rfl rfl (T.ev 4 rfl) h4) (rn_one (Mem.nth M 0 rfl) rfl (T.ev 0 rfl) rfl) ?_; clear T ac; intro ac T
      refine lw T (wanted_yes rfl rfl (T.ev 5 rfl) h4) (rn_lenS rfl Tryd.underlying24 (T.ev 0 rfl)) ?_; clear T ac; intro ac T
      refine lw T (wanted_yes rfl rfl (T.ev 6 rfl) h4) (rn_eql rfl (T.ev 3 rfl) (T.ev 0 rfl)) ?_; clear T ac; intro ac T
      refine lq T (rn_pick1 rfl (T.ev 7 rfl) h4 (T.ev 0 rfl)) ?_; clear T ac; intro ac T
      refine lq T (rn_assign rfl (T.ev 0 rfl)) ?_; clear T ac; intro ac T
      refine wpList_nil ?_
      replace T := T.pick [0, 36, 37] rfl
      exact ⟨(T.pick (E' := [(2, .pointer (some ⟨g1, 0, none⟩)), (3, .pointer (some ⟨g2, 0, none⟩)), (5, .bool (decide (((s.ps.length : Nat) : Int) = ((t.ps.length : Nat) : Int))))]) [2, 1, 0] rfl).as (by (try rw [show (decide (s.lo = t.lo)) = true from (decide_eq_true h1)]); (try rw [show (decide (s.wi = t.wi)) = true from (decide_eq_true h2)]); (try rw [show ((decide (s.a0 = t.a0)) && (decide (s.a1 = t.a1))) = true from h3]); (try rw [show ((decide (s.c0 = t.c0)) && (decide (s.c1 = t.c1))) = true from h4]); (try rfl)), M.mask [true, true] rfl⟩
     refine lp T (wanted_no rfl rfl (T.ev 0 rfl) h4) ?_; clear T ac; intro ac T
     refine lp T (wanted_no rfl rfl (T.ev 1 rfl) h4) ?_; clear T ac; intro ac T
     refine lp T (wanted_no rfl rfl (T.ev 2 rfl) h4) ?_; clear T ac; intro ac T
     refine lp T (wanted_no rfl rfl (T.ev 3 rfl) h4) ?_; clear T ac; intro ac T
     refine lp T (wanted_no rfl rfl (T.ev 4 rfl) h4) ?_; clear T ac; intro ac T
     refine lp T (wanted_no rfl rfl (T.ev 5 rfl) h4) ?_; clear T ac; intro ac T
     refine lp T (wanted_no rfl rfl (T.ev 6 rfl) h4) ?_; clear T ac; intro ac T
     refine lq T (rn_pick0 rfl (T.ev 7 rfl) h4 evc) ?_; clear T ac; intro ac T
     refine lq T (rn_assign rfl (T.ev 0 rfl)) ?_; clear T ac; intro ac T
     refine wpList_nil ?_
     replace T := T.pick [0, 36, 37] rfl
     exact ⟨(T.pick (E' := [(2, .pointer (some ⟨g1, 0, none⟩)), (3, .pointer (some ⟨g2, 0, none⟩)), (5, .bool false)]) [2, 1, 0] rfl).as (by (try rw [show (decide (s.lo = t.lo)) = true from (decide_eq_true h1)]); (try rw [show (decide (s.wi = t.wi)) = true from (decide_eq_true h2)]); (try rw [show ((decide (s.a0 = t.a0)) && (decide (s.a1 = t.a1))) = true from h3]); (try rw [show ((decide (s.c0 = t.c0)) && (decide (s.c1 = t.c1))) = false from h4]); (try rfl)), M.mask [true, true] rfl⟩
    refine lp T (wanted_no rfl rfl (T.ev 0 rfl) h3) ?_; clear T ac; intro ac T
    refine lp T (wanted_no rfl rfl (T.ev 1 rfl) h3) ?_; clear T ac; intro ac T
    refine lp T (wanted_no rfl rfl (T.ev 2 rfl) h3) ?_; clear T ac; intro ac T
    refine lp T (wanted_no rfl rfl (T.ev 3 rfl) h3) ?_; clear T ac; intro ac T
    refine lp T (wanted_no rfl rfl (T.ev 4 rfl) h3) ?_; clear T ac; intro ac T
    refine lq T (rn_pick0 rfl (T.ev 5 rfl) h3 evc) ?_; clear T ac; intro ac T
    refine lq T (rn_move rfl (T.ev 0 rfl)) ?_; clear T ac; intro ac T
    refine lp T (wanted_no rfl rfl (T.ev 0 rfl) rfl) ?_; clear T ac; intro ac T
    refine lp T (wanted_no rfl rfl (T.ev 1 rfl) rfl) ?_; clear T ac; intro ac T
    refine lp T (wanted_no rfl rfl (T.ev 2 rfl) rfl) ?_; clear T ac; intro ac T
    refine lp T (wanted_no rfl rfl (T.ev 3 rfl) rfl) ?_; clear T ac; intro ac T
    refine lp T (wanted_no rfl rfl (T.ev 4 rfl) rfl) ?_; clear T ac; intro ac T
    refine lp T (wanted_no rfl rfl (T.ev 5 rfl) rfl) ?_; clear T ac; intro ac T
    refine lp T (wanted_no rfl rfl (T.ev 6 rfl) rfl) ?_; clear T ac; intro ac T
    refine lq T (rn_pick0 rfl (T.ev 7 rfl) rfl evc) ?_; clear T ac; intro ac T
    refine lq T (rn_assign rfl (T.ev 0 rfl)) ?_; clear T ac; intro ac T
    refine wpList_nil ?_
    replace T := T.pick [0, 36, 37] rfl
    exact ⟨(T.pick (E' := [(2, .pointer (some ⟨g1, 0, none⟩)), (3, .pointer (some ⟨g2, 0, none⟩)), (5, .bool false)]) [2, 1, 0] rfl).as (by (try rw [show (decide (s.lo = t.lo)) = true from (decide_eq_true h1)]); (try rw [show (decide (s.wi = t.wi)) = true from (decide_eq_true h2)]); (try rw [show ((decide (s.a0 = t.a0)) && (decide (s.a1 = t.a1))) = false from h3]); (try rfl)), M.mask [true, true] rfl⟩
   replace h2 := of_decide_eq_false h2
   refine lp T (wanted_no rfl rfl (T.ev 0 rfl) (decide_eq_false h2)) ?_; clear T ac; intro ac T
   refine lp T (wanted_no rfl rfl (T.ev 1 rfl) (decide_eq_false h2)) ?_; clear T ac; intro ac T
   refine lp T (wanted_no rfl rfl (T.ev 2 rfl) (decide_eq_false h2)) ?_; clear T ac; intro ac T
   refine lp T (wanted_no rfl rfl (T.ev 3 rfl) (decide_eq_false h2)) ?_; clear T ac; intro ac T
   refine lp T (wanted_no rfl rfl (T.ev 4 rfl) (decide_eq_false h2)) ?_; clear T ac; intro ac T
   refine lq T (rn_pick0 rfl (T.ev 5 rfl) (decide_eq_false h2) evc) ?_; clear T ac; intro ac T
   refine lq T (rn_move rfl (T.ev 0 rfl)) ?_; clear T ac; intro ac T
   refine lp T (wanted_no rfl rfl (T.ev 0 rfl) rfl) ?_; clear T ac; intro ac T
   refine lp T (wanted_no rfl rfl (T.ev 1 rfl) rfl) ?_; clear T ac; intro ac T
   refine lp T (wanted_no rfl rfl (T.ev 2 rfl) rfl) ?_; clear T ac; intro ac T
   refine lp T (wanted_no rfl rfl (T.ev 3 rfl) rfl) ?_; clear T ac; intro ac T
   refine lp T (wanted_no rfl rfl (T.ev 4 rfl) rfl) ?_; clear T ac; intro ac T
   refine lq T (rn_pick0 rfl (T.ev 5 rfl) rfl evc) ?_; clear T ac; intro ac T
   refine lq T (rn_move rfl (T.ev 0 rfl)) ?_; clear T ac; intro ac T
   refine lp T (wanted_no rfl rfl (T.ev 0 rfl) rfl) ?_; clear T ac; intro ac T
   refine lp T (wanted_no rfl rfl (T.ev 1 rfl) rfl) ?_; clear T ac; intro ac T
   refine lp T (wanted_no rfl rfl (T.ev 2 rfl) rfl) ?_; clear T ac; intro ac T
   refine lp T (wanted_no rfl rfl (T.ev 3 rfl) rfl) ?_; clear T ac; intro ac T
   refine lp T (wanted_no rfl rfl (T.ev 4 rfl) rfl) ?_; clear T ac; intro ac T
   refine lp T (wanted_no rfl rfl (T.ev 5 rfl) rfl) ?_; clear T ac; intro ac T
   refine lp T (wanted_no rfl rfl (T.ev 6 rfl) rfl) ?_; clear T ac; intro ac T
   refine lq T (rn_pick0 rfl (T.ev 7 rfl) rfl evc) ?_; clear T ac; intro ac T
   refine lq T (rn_assign rfl (T.ev 0 rfl)) ?_; clear T ac; intro ac T
   refine wpList_nil ?_
   replace T := T.pick [0, 36, 37] rfl
   exact ⟨(T.pick (E' := [(2, .pointer (some ⟨g1, 0, none⟩)), (3, .pointer (some ⟨g2, 0, none⟩)), (5, .bool false)]) [2, 1, 0] rfl).as (by (try rw [show (decide (s.lo = t.lo)) = true from (decide_eq_true h1)]); (try rw [show (decide (s.wi = t.wi)) = false from (decide_eq_false h2)]); (try rfl)), M.mask [true, true] rfl⟩
  replace h1 := of_decide_eq_false h1
  refine lp T (wanted_no rfl rfl (T.ev 0 rfl) (decide_eq_false h1)) ?_; clear T ac; intro ac T
  refine lp T (wanted_no rfl rfl (T.ev 1 rfl) (decide_eq_false h1)) ?_; clear T ac; intro ac T
  refine lp T (wanted_no rfl rfl (T.ev 2 rfl) (decide_eq_false h1)) ?_; clear T ac; intro ac T
  refine lp T (wanted_no rfl rfl (T.ev 3 rfl) (decide_eq_false h1)) ?_; clear T ac; intro ac T
  refine lp T (wanted_no rfl rfl (T.ev 4 rfl) (decide_eq_false h1)) ?_; clear T ac; intro ac T
  refine lq T (rn_pick0 rfl (T.ev 5 rfl) (decide_eq_false h1) evc) ?_; clear T ac; intro ac T
  refine lq T (rn_move rfl (T.ev 0 rfl)) ?_; clear T ac; intro ac T
  refine lp T (wanted_no rfl rfl (T.ev 0 rfl) rfl) ?_; clear T ac; intro ac T
  refine lp T (wanted_no rfl rfl (T.ev 1 rfl) rfl) ?_; clear T ac; intro ac T
  refine lp T (wanted_no rfl rfl (T.ev 2 rfl) rfl) ?_; clear T ac; intro ac T
  refine lp T (wanted_no rfl rfl (T.ev 3 rfl) rfl) ?_; clear T ac; intro ac T
  refine lp T (wanted_no rfl rfl (T.ev 4 rfl) rfl) ?_; clear T ac; intro ac T
  refine lq T (rn_pick0 rfl (T.ev 5 rfl) rfl evc) ?_; clear T ac; intro ac T
  refine lq T (rn_move rfl (T.ev 0 rfl)) ?_; clear T ac; intro ac T
  refine lp T (wanted_no rfl rfl (T.ev 0 rfl) rfl) ?_; clear T ac; intro ac T
  refine lp T (wanted_no rfl rfl (T.ev 1 rfl) rfl) ?_; clear T ac; intro ac T
  refine lp T (wanted_no rfl rfl (T.ev 2 rfl) rfl) ?_; clear T ac; intro ac T
  refine lp T (wanted_no rfl rfl (T.ev 3 rfl) rfl) ?_; clear T ac; intro ac T
  refine lp T (wanted_no rfl rfl (T.ev 4 rfl) rfl) ?_; clear T ac; intro ac T
  refine lq T (rn_pick0 rfl (T.ev 5 rfl) rfl evc) ?_; clear T ac; intro ac T
  refine lq T (rn_move rfl (T.ev 0 rfl)) ?_; clear T ac; intro ac T
  refine lp T (wanted_no rfl rfl (T.ev 0 rfl) rfl) ?_; clear T ac; intro ac T
  refine lp T (wanted_no rfl rfl (T.ev 1 rfl) rfl) ?_; clear T ac; intro ac T
  refine lp T (wanted_no rfl rfl (T.ev 2 rfl) rfl) ?_; clear T ac; intro ac T
  refine lp T (wanted_no rfl rfl (T.ev 3 rfl) rfl) ?_; clear T ac; intro ac T
  refine lp T (wanted_no rfl rfl (T.ev 4 rfl) rfl) ?_; clear T ac; intro ac T
  refine lp T (wanted_no rfl rfl (T.ev 5 rfl) rfl) ?_; clear T ac; intro ac T
  refine lp T (wanted_no rfl rfl (T.ev 6 rfl) rfl) ?_; clear T ac; intro ac T
  refine lq T (rn_pick0 rfl (T.ev 7 rfl) rfl evc) ?_; clear T ac; intro ac T
  refine lq T (rn_assign rfl (T.ev 0 rfl)) ?_; clear T ac; intro ac T
  refine wpList_nil ?_
  replace T := T.pick [0, 36, 37] rfl
  exact ⟨(T.pick (E' := [(2, .pointer (some ⟨g1, 0, none⟩)), (3, .pointer (some ⟨g2, 0, none⟩)), (5, .bool false)]) [2, 1, 0] rfl).as (by (try rw [show (decide (s.lo = t.lo)) = false from (decide_eq_false h1)]); (try rfl)), M.mask [true, true] rfl⟩
 clear T M
 rintro ac wc ⟨T, M⟩
 refine wp_seq ?_
 refine wp_seq ?_
 refine wp_region_lit ?_
 refine lq T (rn_assign rfl evc) ?_; clear T ac; intro ac T
 refine wpList_nil ?_
 refine nm_then ?_
 refine wp_block ?_
 refine wp_loop_n (fun mz ac wc => ∃ (i : Nat) (sm : Bool), mz = s.ps.length - i ∧ (i ≤ s.ps.length) ∧ (sm = true ↔ eqF s t ∧ s.ps.take i = t.ps.take i) ∧ Tm ac 64 [(2, .pointer (some ⟨g1, 0, none⟩)), (3, .pointer (some ⟨g2, 0, none⟩)), (5, .bool sm), (6, .int .i64 (i : Int))] ∧ Mem w noEx wc [(g2, .cells [.int .i64 t.lo, .int .i64 t.wi, .int .i64 t.a0, .int .i64 t.a1, .int .i64 t.c0, .int .i64 t.c1, .slice B t.ps.length d]), (g1, .cells [.int .i64 s.lo, .int .i64 s.wi, .int .i64 s.a0, .int .i64 s.a1, .int .i64 s.c0, .int .i64 s.c1, .slice A s.ps.length c])]) ?_ ?_
 ·exact ⟨_, 0, _, rfl, (Nat.zero_le _), (by unfold eqF; simp [and_assoc, Int.natCast_inj]), T.pick [1, 2, 3, 0] rfl, M.mask [true, true] rfl⟩
 clear T M
 rintro mz ac wc ⟨i, sm, hmm1, hi, hs, T, M⟩
 refine wp_seq ?_
 refine cut_seq (fun ac wc => Tm ac 64 [(2, .pointer (some ⟨g1, 0, none⟩)), (3, .pointer (some ⟨g2, 0, none⟩)), (5, .bool sm), (6, .int .i64 (i : Int)), (49, .bool (sm && (decide ((i : Int) < ((s.ps.length : Nat) : Int)))))] ∧ Mem w noEx wc [(g2, .cells [.int .i64 t.lo, .int .i64 t.wi, .int .i64 t.a0, .int .i64 t.a1, .int .i64 t.c0, .int .i64 t.c1, .slice B t.ps.length d]), (g1, .cells [.int .i64 s.lo, .int .i64 s.wi, .int .i64 s.a0, .int .i64 s.a1, .int .i64 s.c0, .int .i64 s.c1, .slice A s.ps.length c])]) ?_ ?_
 ·refine wp_region_lit ?_
  refine lq T (rn_move rfl (T.ev 2 rfl)) ?_; clear T ac; intro ac T
  refine lq T (rn_move rfl (T.ev 0 rfl)) ?_; clear T ac; intro ac T
  rcases Bool.eq_false_or_eq_true sm with h5 | h5
  ·refine lw T (wanted_yes rfl rfl (T.ev 0 rfl) h5) (rn_move rfl (T.ev 5 rfl)) ?_; clear T ac; intro ac T
   refine lw (v := (.pointer (some ⟨g1, 6, none⟩))) T (wanted_yes rfl rfl (T.ev 1 rfl) h5) (rn_fieldAddr (off := 6) rfl (T.ev 3 rfl) (fun _ _ _ => by kernel_rfl)) ?_; clear T ac; intro ac T
   refine lw T (wanted_yes rfl rfl (T.ev 2 rfl) h5) (rn_one (Mem.nth M 1 rfl) rfl (T.ev 0 rfl) rfl) ?_; clear T ac; intro ac T
   refine lw T (wanted_yes rfl rfl (T.ev 3 rfl) h5) (rn_lenS rfl Tryd.underlying24 (T.ev 0 rfl)) ?_; clear T ac; intro ac T
   refine lw T (wanted_yes rfl rfl (T.ev 4 rfl) h5) (rn_lss rfl (T.ev 3 rfl) (T.ev 0 rfl)) ?_; clear T ac; intro ac T
   refine lq T (rn_pick1 rfl (T.ev 5 rfl) h5 (T.ev 0 rfl)) ?_; clear T ac; intro ac T
   refine wpList_nil ?_
   replace T := T.pick [0, 1, 2, 3, 4, 5, 8, 9, 10, 11] rfl
   exact ⟨(T.pick (E' := [(2, .pointer (some ⟨g1, 0, none⟩)), (3, .pointer (some ⟨g2, 0, none⟩)), (5, .bool sm), (6, .int .i64 (i : Int)), (49, .bool (decide ((i : Int) < ((s.ps.length : Nat) : Int))))]) [6, 7, 8, 9, 0] rfl).as (by (try rw [show sm = true from h5]); (try rfl)), M.mask [true, true] rfl⟩
  refine lp T (wanted_no rfl rfl (T.ev 0 rfl) h5) ?_; clear T ac; intro ac T
  refine lp T (wanted_no rfl rfl (T.ev 1 rfl) h5) ?_; clear T ac; intro ac T
  refine lp T (wanted_no rfl rfl (T.ev 2 rfl) h5) ?_; clear T ac; intro ac T
  refine lp T (wanted_no rfl rfl (T.ev 3 rfl) h5) ?_; clear T ac; intro ac T
  refine lp T (wanted_no rfl rfl (T.ev 4 rfl) h5) ?_; clear T ac; intro ac T
  refine lq T (rn_pick0 rfl (T.ev 5 rfl) h5 evc) ?_; clear T ac; intro ac T
  refine wpList_nil ?_
  replace T := T.pick [0, 1, 2, 3, 4, 5, 8, 9, 10, 11] rfl
  exact ⟨(T.pick (E' := [(2, .pointer (some ⟨g1, 0, none⟩)), (3, .pointer (some ⟨g2, 0, none⟩)), (5, .bool sm), (6, .int .i64 (i : Int)), (49, .bool false)]) [6, 7, 8, 9, 0] rfl).as (by (try rw [show sm = false from h5]); (try rfl)), M.mask [true, true] rfl⟩
 clear T M
 rintro ac wc ⟨T, M⟩
 refine wp_cond_split (T.ev 4 rfl) ?_ ?_
 ·intro h6
  (try have h6' := h6; try simp only [Bool.and_eq_true, Bool.or_eq_true, Bool.not_eq_true', Bool.and_eq_false_imp, Bool.or_eq_false_iff, decide_eq_true_eq, decide_eq_false_iff_not] at h6')
  have hlr : sm = true ∧ i < s.ps.length := by simpa using h6
  have heF := (hs.1 hlr.1).1
  have hlen := heF.2.2.2.2
  have htk := (hs.1 hlr.1).2
  obtain ⟨p, hkp, -⟩ := pc_next (l := s.ps) (k := i) (by omega)
  obtain ⟨q, hkq, -⟩ := pc_next (l := t.ps) (k := i) (by omega)
  refine wp_skip ?_
  refine nm_then ?_
  refine wp_seq ?_
  refine wp_block ?_
  refine g_start2 M (M.mask [true, true] rfl) 12 (by kernel_rfl) rfl (by kernel_rfl) ?_
  clear M; intro wc M
  refine gq (v := (.pointer (some ⟨g1, 6, none⟩))) T 0 1 rfl (fun _ _ _ _ _ => (rn_fieldAddr (off := 6) rfl (T.ev 0 rfl) (fun _ _ _ => by kernel_rfl))) ?_; clear T ac; intro ac T
  refine gq T 1 3 rfl (fun B w' hD hl hS => (rn_one (Mem.nth (show Mem w noEx w' _ from hS) 1 rfl) rfl (T.ev 0 rfl) rfl)) ?_; clear T ac; intro ac T
  refine gq T 2 7 rfl (fun _ _ _ _ _ => (rn_move rfl (T.ev 5 rfl))) ?_; clear T ac; intro ac T
  refine gq T 3 15 rfl (fun _ _ _ _ _ => (rn_indexAddr (size := 4) i rfl (T.ev 1 rfl) (T.ev 0 rfl) ⟨_, Tryd.underlying24, by kernel_rfl⟩ rfl (by omega) (SA.at0 (by omega)))) ?_; clear T ac; intro ac T
  refine gq (v := (.agg #[.int .i64 p.l, .int .i64 p.w, .bool p.gr, .int .i64 p.pa])) T 4 31 rfl (fun B w' hD hl hS => (rn_rowat (Sp.pcR SA (show Mem w noEx w' _ from hS) (List.nil_sublist _) hkp) rfl (T.ev 0 rfl) rfl)) ?_; clear T ac; intro ac T
  refine gq (v := (.pointer (some ⟨g2, 6, none⟩))) T 5 63 rfl (fun _ _ _ _ _ => (rn_fieldAddr (off := 6) rfl (T.ev 6 rfl) (fun _ _ _ => by kernel_rfl))) ?_; clear T ac; intro ac T
  refine gq T 6 127 rfl (fun B w' hD hl hS => (rn_one (Mem.nth (show Mem w noEx w' _ from hS) 0 rfl) rfl (T.ev 0 rfl) rfl)) ?_; clear T ac; intro ac T
  refine gq T 7 255 rfl (fun _ _ _ _ _ => (rn_move rfl (T.ev 10 rfl))) ?_; clear T ac; intro ac T
  refine gq T 8 511 rfl (fun _ _ _ _ _ => (rn_indexAddr (size := 4) i rfl (T.ev 1 rfl) (T.ev 0 rfl) ⟨_, Tryd.underlying24, by kernel_rfl⟩ rfl (by omega) (SB.at0 (by omega)))) ?_; clear T ac; intro ac T
  refine gq (v := (.agg #[.int .i64 q.l, .int .i64 q.w, .bool q.gr, .int .i64 q.pa])) T 9 1023 rfl (fun B w' hD hl hS => (rn_rowat (Sp.pcR SB (show Mem w noEx w' _ from hS) (List.nil_sublist _) hkq) rfl (T.ev 0 rfl) rfl)) ?_; clear T ac; intro ac T
  refine gq (v := (.bool ((decide (p.l = q.l)) && ((decide (p.w = q.w)) && ((decide (p.gr = q.gr)) && (decide (p.pa = q.pa))))))) T 10 2047 rfl (fun _ _ _ _ _ => (rn_bin rfl (T.ev 5 rfl) (T.ev 0 rfl) eqT63)) ?_; clear T ac; intro ac T
  refine g_q (v := (.bool ((decide (p.l = q.l)) && ((decide (p.w = q.w)) && ((decide (p.gr = q.gr)) && (decide (p.pa = q.pa))))))) (T := T.pick [0, 1, 2, 3, 4, 5, 6, 7, 8, 9, 10, 11, 12, 14, 15] rfl) (i := 11) rfl (by kernel_rfl) (by kernel_rfl : (pbits 12 2047).setIfInBounds 11 true = pbits 12 4095) si_U (fun _ _ _ h => h) rfl rfl rfl rfl (fun _ _ _ _ _ => (rn_assign rfl (T.ev 0 rfl))) ?_; clear T ac; intro ac T
  refine g_done (by kernel_rfl) ?_
  replace T := T.pick [0, 12, 13, 14] rfl
  refine nm_blk ?_
  refine nm_then ?_
  refine wp_region_lit ?_
  refine lq T (rn_move rfl (T.ev 3 rfl)) ?_; clear T ac; intro ac T
  refine lq T (rn_add rfl (T.ev 0 rfl) evc (by omega)) ?_; clear T ac; intro ac T
  refine l_q (v := (.int .i64 ((i : Int) + 1))) (T.pick [0, 1, 2, 3, 4] rfl) rfl rfl rfl rfl (rn_assign rfl (T.ev 0 rfl)) ?_; clear T ac; intro ac T
  refine wpList_nil ?_
  replace T := T.pick [0, 3, 4, 5] rfl
  refine nm_then ?_
  exact ⟨_, by omega, i + 1, ((decide (p.l = q.l)) && ((decide (p.w = q.w)) && ((decide (p.gr = q.gr)) && (decide (p.pa = q.pa))))), rfl, (by omega), (by rw [take_same hkp hkq]; cases p; cases q; simp [heF, htk]), T.pick [2, 3, 1, 0] rfl, M.mask [true, true] rfl⟩
 intro h6
 (try have h6' := h6; try simp only [Bool.and_eq_true, Bool.or_eq_true, Bool.not_eq_true', Bool.and_eq_false_imp, Bool.or_eq_false_iff, decide_eq_true_eq, decide_eq_false_iff_not] at h6')
 refine wp_exit ?_
 refine ex_then ?_
 refine ex_then ?_
 refine ex_hit ?_
 refine nm_then ?_
 refine wp_seq ?_
 refine wp_region_lit ?_
 refine lq T (rn_move rfl (T.ev 2 rfl)) ?_; clear T ac; intro ac T
 refine lq T (rn_assign rfl (T.ev 0 rfl)) ?_; clear T ac; intro ac T
 refine wpList_nil ?_
 replace T := T.pick [0] rfl
 replace M := M.mask [false, false] rfl
 refine nm_then ?_
 refine wp_ret ?_
 refine rt_1 T rfl (T.ev 0 rfl) ?_
 have e9 : sm = decide (s = t) := by
   rw [Bool.eq_iff_iff, decide_eq_true_eq]
   constructor
   · intro hsm
     obtain ⟨⟨k1, k2, ⟨k3, k4⟩, ⟨k5, k6⟩, k7⟩, k8⟩ := hs.1 hsm
     have hi9 : ¬ i < s.ps.length := by simpa [hsm] using h6
     rw [List.take_of_length_le (by omega), List.take_of_length_le (by omega)] at k8
     cases s; cases t; simp_all
   · rintro rfl
     exact hs.2 ⟨⟨rfl, rfl, ⟨rfl, rfl⟩, ⟨rfl, rfl⟩, rfl⟩, rfl⟩
 rw [e9]
 exact ⟨rfl, M.below⟩
def szE (s : Sk) (k : Int) (t : Bool) : Int := if skErr s ≠ 0 then skErr s else if ¬ (0 ≤ k ∧ k ≤ (s.ps.length : Int) - 1) then 3 else if (t && (s.ps.getD k.toNat default).gr) = true then 8 else 0
def szL (s : Sk) (k : Int) (t su : Bool) : Int := if szE s k t ≠ 0 then 0 else sizeL (cutA s su) (cutC s su) (s.ps.getD k.toNat default) t
def szW (s : Sk) (k : Int) (t su : Bool) : Int := if szE s k t ≠ 0 then 0 else sizeW (cutA s su) (cutC s su) (s.ps.getD k.toNat default) t
theorem Size_any (s : Sk) (A : Option Addr) (d : Nat) (k : Int) (t su : Bool)  (w : World) (hA : Rd w w.heap.size 4 A s.ps.length (pc s.ps)) (nA : s.ps.length ≤ 1000000)  :
   Calls Tryd.prog 56 #[.agg #[.int .i64 s.lo, .int .i64 s.wi, .int .i64 s.a0, .int .i64 s.a1, .int .i64 s.c0, .int .i64 s.c1, .slice A s.ps.length d], .int .i64 k, .bool t, .bool su] w fun e w' => e = .returned (.tuple #[.int .i64 (szL s k t su), .int .i64 (szW s k t su), .int .i64 (szE s k t)]) ∧ Below w.heap.size w w' := by
 obtain ⟨bA, oA, SA⟩ := Sp.old hA
 refine px_enter noEx Tryd.func56 rfl 48 rfl [.agg #[.int .i64 s.lo, .int .i64 s.wi, .int .i64 s.a0, .int .i64 s.a1, .int .i64 s.c0, .int .i64 s.c1, .slice A s.ps.length d], .int .i64 k, .bool t, .bool su] rfl rfl (Mem.init w _) ?_
 intro ac wc T M
 refine wp_seq ?_
 refine wp_region_lit ?_
 refine l_w rfl ?_; intro K hK
 refine ow_bx M T rfl rfl rfl rfl (T.ev 0 rfl) rfl ?_; clear M T; intro g1 wc ac M T
 refine sh_out hK _ _ ?_; clear hK K
 refine lq T (rn_assign rfl evc) ?_; clear T ac; intro ac T
 refine lq T (rn_assign rfl evc) ?_; clear T ac; intro ac T
 refine lq T (rn_assign rfl evc) ?_; clear T ac; intro ac T
 refine wpList_nil ?_
 replace T := T.pick [3, 5, 6, 7] rfl
 refine nm_then ?_
 refine wp_seq ?_
 refine wp_seq ?_
 refine wp_region_lit ?_
 refine lq T (rn_rowO (Mem.nth M 0 rfl) rfl (T.ev 0 rfl) rfl) ?_; clear T ac; intro ac T
 refine l_w rfl ?_; intro K hK
 refine ow_call (first := []) (cap := []) T rfl rfl rfl rfl evf (.cons (T.ev 0 rfl) .nil) Tryd.func60 rfl rfl ?_
 refine Calls.mono (skCheck_any s A d _ (SA.rd M (List.nil_sublist _)) (by omega)) ?_
 clear T
 rintro e wc ⟨rfl, hb⟩
 intro ac T
 replace M := M.call hb; clear hb
 refine sh_out hK _ _ ?_; clear hK K
 refine lq T (rn_assign rfl (T.ev 0 rfl)) ?_; clear T ac; intro ac T
 refine wpList_nil ?_
 replace T := T.pick [0, 3, 4, 5, 6] rfl
 refine nm_then ?_
 refine wp_seq ?_
 refine wp_region_lit ?_
 refine lq T (rn_move rfl (T.ev 0 rfl)) ?_; clear T ac; intro ac T
 refine lq T (rn_neq rfl (T.ev 0 rfl) evc) ?_; clear T ac; intro ac T
 refine wpList_nil ?_
 replace T := T.pick [0, 2, 3, 4, 5, 6] rfl
 refine nm_then ?_
 refine wp_ifn (T.ev 0 rfl) ?_ ?_
 ·intro h1
  refine wp_seq ?_
  refine wp_region_lit ?_
  refine lq T (rn_move rfl (T.ev 1 rfl)) ?_; clear T ac; intro ac T
  refine lq T (rn_assign rfl evc) ?_; clear T ac; intro ac T
  refine lq T (rn_assign rfl evc) ?_; clear T ac; intro ac T
  refine lq T (rn_assign rfl (T.ev 2 rfl)) ?_; clear T ac; intro ac T
  refine wpList_nil ?_
  replace T := T.pick [0, 1, 2] rfl
  replace M := M.mask [false] rfl
  refine nm_then ?_
  refine wp_ret ?_
  refine rt_then ?_
  refine rt_3 T rfl (T.ev 2 rfl) (T.ev 1 rfl) (T.ev 0 rfl) ?_
  have e9 : szE s k t = skErr s := if_pos (by omega)
  have e8 : szL s k t su = 0 := if_pos (by omega)
  have e7 : szW s k t su = 0 := if_pos (by omega)
  rw [e9, e8, e7]
  exact ⟨rfl, M.below⟩
 intro h1
 have hsg := skErr_iff.1 (show skErr s = 0 by omega)
 obtain ⟨hb1, hb2, -, -, -, -⟩ := hsg
 have hsg := skErr_iff.1 (show skErr s = 0 by omega)
 refine wp_skip ?_
 refine nm_then ?_
 refine wp_seq ?_
 refine wp_seq ?_
 refine wp_region_lit ?_
 refine lq T (rn_move rfl (T.ev 3 rfl)) ?_; clear T ac; intro ac T
 refine lq (v := (.pointer (some ⟨g1, 6, none⟩))) T (rn_fieldAddr (off := 6) rfl (T.ev 3 rfl) (fun _ _ _ => by kernel_rfl)) ?_; clear T ac; intro ac T
 refine lq T (rn_one (Mem.nth M 0 rfl) rfl (T.ev 0 rfl) rfl) ?_; clear T ac; intro ac T
 refine lq T (rn_lenS rfl Tryd.underlying24 (T.ev 0 rfl)) ?_; clear T ac; intro ac T
 refine lq T (rn_sub rfl (T.ev 0 rfl) evc (by omega)) ?_; clear T ac; intro ac T
 refine l_w rfl ?_; intro K hK
 refine ow_call (first := []) (cap := []) T rfl rfl rfl rfl evf (.cons (T.ev 4 rfl) (.cons evc (.cons (T.ev 0 rfl) .nil))) Tryd.func72 rfl rfl ?_
 refine Calls.mono (sin_any k 0 (((s.ps.length : Nat) : Int) - 1) _) ?_
 clear T
 rintro e wc ⟨rfl, hb⟩
 intro ac T
 replace M := M.call hb; clear hb
 refine sh_out hK _ _ ?_; clear hK K
 refine lq T (rn_not rfl (T.ev 0 rfl)) ?_; clear T ac; intro ac T
 refine wpList_nil ?_
 replace T := T.pick [0, 9, 10, 11, 12] rfl
 refine nm_then ?_
 refine wp_cond_split (T.ev 0 rfl) ?_ ?_
 ·intro h2
  (try have h2' := h2; try simp only [Bool.and_eq_true, Bool.or_eq_true, Bool.not_eq_true', Bool.and_eq_false_imp, Bool.or_eq_false_iff, decide_eq_true_eq, decide_eq_false_iff_not] at h2')
  have hk9 : ¬ (0 ≤ k ∧ k ≤ (s.ps.length : Int) - 1) := by simp [withinB] at h2; omega
  refine wp_seq ?_
  refine wp_region_lit ?_
  refine lq T (rn_assign rfl evc) ?_; clear T ac; intro ac T
  refine lq T (rn_assign rfl evc) ?_; clear T ac; intro ac T
  refine lq T (rn_assign rfl evc) ?_; clear T ac; intro ac T
  refine wpList_nil ?_
  replace T := T.pick [0, 1, 2] rfl
  replace M := M.mask [false] rfl
  refine nm_then ?_
  refine wp_ret ?_
  refine rt_then ?_
  refine rt_3 T rfl (T.ev 2 rfl) (T.ev 1 rfl) (T.ev 0 rfl) ?_
  have e9 : szE s k t = 3 := (if_neg (by omega)).trans (if_pos hk9)
  have e8 : szL s k t su = 0 := if_pos (by omega)
  have e7 : szW s k t su = 0 := if_pos (by omega)
  rw [e9, e8, e7]
  exact ⟨rfl, M.below⟩
 intro h2
 (try have h2' := h2; try simp only [Bool.and_eq_true, Bool.or_eq_true, Bool.not_eq_true', Bool.and_eq_false_imp, Bool.or_eq_false_iff, decide_eq_true_eq, decide_eq_false_iff_not] at h2')
 have hk9 : ¬ ¬ (0 ≤ k ∧ k ≤ (s.ps.length : Int) - 1) := by simp [withinB] at h2; omega
 obtain ⟨k9, hk8⟩ : ∃ q : Nat, k = (q : Int) := ⟨k.toNat, by omega⟩
 obtain ⟨p, hkp, -⟩ := pc_next (l := s.ps) (k := k9) (by omega)
 have hpe : s.ps.getD k.toNat default = p := by rw [List.getD_eq_getElem?_getD, show k.toNat = k9 by omega, hkp]; rfl
 have hpg := hsg.ps p (List.mem_of_getElem? hkp)
 refine wp_skip ?_
 refine nm_then ?_
 refine wp_seq ?_
 refine cut_seq (fun ac wc => Tm ac 48 [(1, .int .i64 k), (2, .bool t), (3, .bool su), (4, .pointer (some ⟨g1, 0, none⟩)), (32, .bool (t && p.gr))] ∧ Mem w noEx wc [(g1, .cells [.int .i64 s.lo, .int .i64 s.wi, .int .i64 s.a0, .int .i64 s.a1, .int .i64 s.c0, .int .i64 s.c1, .slice A s.ps.length d])]) ?_ ?_
 ·refine wp_region_lit ?_
  refine lq T (rn_move rfl (T.ev 3 rfl)) ?_; clear T ac; intro ac T
  refine lq T (rn_move rfl (T.ev 0 rfl)) ?_; clear T ac; intro ac T
  rcases Bool.eq_false_or_eq_true t with h3 | h3
  ·refine lw (v := (.pointer (some ⟨g1, 6, none⟩))) T (wanted_yes rfl rfl (T.ev 0 rfl) h3) (rn_fieldAddr (off := 6) rfl (T.ev 3 rfl) (fun _ _ _ => by kernel_rfl)) ?_; clear T ac; intro ac T
   refine lw T (wanted_yes rfl rfl (T.ev 1 rfl) h3) (rn_one (Mem.nth M 0 rfl) rfl (T.ev 0 rfl) rfl) ?_; clear T ac; intro ac T
   refine lw T (wanted_yes rfl rfl (T.ev 2 rfl) h3) (rn_move rfl (T.ev 6 rfl)) ?_; clear T ac; intro ac T
   refine lw T (wanted_yes rfl rfl (T.ev 3 rfl) h3) (rn_indexAddr (size := 4) k9 rfl (T.ev 1 rfl) (T.ev 0 rfl) ⟨_, Tryd.underlying24, by kernel_rfl⟩ hk8 (by omega) (SA.at0 (by omega))) ?_; clear T ac; intro ac T
   refine lw T (wanted_yes rfl rfl (T.ev 4 rfl) h3) (rn_fieldAddr (off := 2) rfl (T.ev 0 rfl) (fun _ _ _ => by kernel_rfl)) ?_; clear T ac; intro ac T
   refine lw T (wanted_yes rfl rfl (T.ev 5 rfl) h3) (rn_cell (Sp.pcC2 SA M (List.nil_sublist _) hkp) rfl (T.ev 0 rfl)) ?_; clear T ac; intro ac T
   refine lq T (rn_pick1 rfl (T.ev 6 rfl) h3 (T.ev 0 rfl)) ?_; clear T ac; intro ac T
   refine wpList_nil ?_
   replace T := T.pick [0, 10, 11, 12, 13] rfl
   exact ⟨(T.pick (E' := [(1, .int .i64 k), (2, .bool t), (3, .bool su), (4, .pointer (some ⟨g1, 0, none⟩)), (32, .bool p.gr)]) [2, 3, 4, 1, 0] rfl).as (by (try rw [show t = true from h3]); (try rfl)), M.mask [true] rfl⟩
  refine lp T (wanted_no rfl rfl (T.ev 0 rfl) h3) ?_; clear T ac; intro ac T
  refine lp T (wanted_no rfl rfl (T.ev 1 rfl) h3) ?_; clear T ac; intro ac T
  refine lp T (wanted_no rfl rfl (T.ev 2 rfl) h3) ?_; clear T ac; intro ac T
  refine lp T (wanted_no rfl rfl (T.ev 3 rfl) h3) ?_; clear T ac; intro ac T
  refine lp T (wanted_no rfl rfl (T.ev 4 rfl) h3) ?_; clear T ac; intro ac T
  refine lp T (wanted_no rfl rfl (T.ev 5 rfl) h3) ?_; clear T ac; intro ac T
  refine lq T (rn_pick0 rfl (T.ev 6 rfl) h3 evc) ?_; clear T ac; intro ac T
  refine wpList_nil ?_
  replace T := T.pick [0, 10, 11, 12, 13] rfl
  exact ⟨(T.pick (E' := [(1, .int .i64 k), (2, .bool t), (3, .bool su), (4, .pointer (some ⟨g1, 0, none⟩)), (32, .bool false)]) [2, 3, 4, 1, 0] rfl).as (by (try rw [show t = false from h3]); (try rfl)), M.mask [true] rfl⟩
 clear T M
 rintro ac wc ⟨T, M⟩
 refine wp_cond_split (T.ev 4 rfl) ?_ ?_
 ·intro h4
  (try have h4' := h4; try simp only [Bool.and_eq_true, Bool.or_eq_true, Bool.not_eq_true', Bool.and_eq_false_imp, Bool.or_eq_false_iff, decide_eq_true_eq, decide_eq_false_iff_not] at h4')
  refine wp_seq ?_
  refine wp_region_lit ?_
  refine lq T (rn_assign rfl evc) ?_; clear T ac; intro ac T
  refine lq T (rn_assign rfl evc) ?_; clear T ac; intro ac T
  refine lq T (rn_assign rfl evc) ?_; clear T ac; intro ac T
  refine wpList_nil ?_
  replace T := T.pick [0, 1, 2] rfl
  replace M := M.mask [false] rfl
  refine nm_then ?_
  refine wp_ret ?_
  refine rt_then ?_
  refine rt_3 T rfl (T.ev 2 rfl) (T.ev 1 rfl) (T.ev 0 rfl) ?_
  have e9 : szE s k t = 8 := (if_neg (by omega)).trans ((if_neg hk9).trans (if_pos (by rw [hpe]; simp_all)))
  have e8 : szL s k t su = 0 := if_pos (by omega)
  have e7 : szW s k t su = 0 := if_pos (by omega)
  rw [e9, e8, e7]
  exact ⟨rfl, M.below⟩
 intro h4
 (try have h4' := h4; try simp only [Bool.and_eq_true, Bool.or_eq_true, Bool.not_eq_true', Bool.and_eq_false_imp, Bool.or_eq_false_iff, decide_eq_true_eq, decide_eq_false_iff_not] at h4')
 refine wp_skip ?_
 refine nm_then ?_
 refine wp_seq ?_
 refine g_start2 M (M.mask [true] rfl) 15 (by kernel_rfl) rfl (by kernel_rfl) ?_
 clear M; intro wc M
 refine gq T 0 1 rfl (fun B w' hD hl hS => (rn_rowO (Mem.nth (show Mem w noEx w' _ from hS) 0 rfl) rfl (T.ev 3 rfl) rfl)) ?_; clear T ac; intro ac T
 refine gq T 1 3 rfl (fun _ _ _ _ _ => (rn_move rfl (T.ev 3 rfl))) ?_; clear T ac; intro ac T
 refine gq (v := (.pointer (some ⟨g1, 6, none⟩))) T 3 11 rfl (fun _ _ _ _ _ => (rn_fieldAddr (off := 6) rfl (T.ev 5 rfl) (fun _ _ _ => by kernel_rfl))) ?_; clear T ac; intro ac T
 refine gq T 4 27 rfl (fun B w' hD hl hS => (rn_one (Mem.nth (show Mem w noEx w' _ from hS) 0 rfl) rfl (T.ev 0 rfl) rfl)) ?_; clear T ac; intro ac T
 refine gq T 5 59 rfl (fun _ _ _ _ _ => (rn_move rfl (T.ev 4 rfl))) ?_; clear T ac; intro ac T
 refine gq T 6 123 rfl (fun _ _ _ _ _ => (rn_indexAddr (size := 4) k9 rfl (T.ev 1 rfl) (T.ev 0 rfl) ⟨_, Tryd.underlying24, by kernel_rfl⟩ hk8 (by omega) (SA.at0 (by omega)))) ?_; clear T ac; intro ac T
 refine gq (v := (.agg #[.int .i64 p.l, .int .i64 p.w, .bool p.gr, .int .i64 p.pa])) T 7 251 rfl (fun B w' hD hl hS => (rn_rowat (Sp.pcR SA (show Mem w noEx w' _ from hS) (List.nil_sublist _) hkp) rfl (T.ev 0 rfl) rfl)) ?_; clear T ac; intro ac T
 refine gq T 8 507 rfl (fun _ _ _ _ _ => (rn_move rfl (T.ev 8 rfl))) ?_; clear T ac; intro ac T
 refine gw 2 511 ?_; intro K hK
 refine ow_call (first := []) (cap := []) T rfl rfl rfl rfl evf (.cons (T.ev 7 rfl) (.cons (T.ev 6 rfl) .nil)) Tryd.func70 rfl rfl ?_
 refine Calls.mono (cut_any s A d su _) ?_
 clear T
 rintro e wc ⟨gau3, gcu3, rfl, N⟩
 intro ac T
 obtain ⟨a, hae⟩ : ∃ q, q = cutA s su := ⟨_, rfl⟩
 obtain ⟨c, hce⟩ : ∃ q, q = cutC s su := ⟨_, rfl⟩
 rw [← hae, ← hce] at N
 obtain ⟨ha, hc⟩ := cut_bd hsg su
 rw [← hae] at ha
 rw [← hce] at hc
 replace M := M.join N; clear N
 replace M := M.mask [true, true, true] rfl
 refine sh_out hK _ _ (M.mask [false, false, true] rfl) ?_; clear hK K
 refine gw 9 1023 ?_; intro K hK
 refine ow_call (first := []) (cap := []) T rfl rfl rfl rfl evf (.cons (T.ev 0 rfl) (.cons (T.ev 2 rfl) (.cons (T.ev 1 rfl) .nil))) Tryd.func71 rfl rfl ?_
 refine Calls.mono (size_any s A d a c gau3 gcu3 p t _ (by omega) (by omega) hpg (M.nth 0 rfl) (M.nth 1 rfl)) ?_
 clear T
 rintro e wc ⟨rfl, hb⟩
 intro ac T
 replace M := M.call hb; clear hb
 refine sh_out hK _ _ (M.mask [false, false, true] rfl) ?_; clear hK K
 refine gq T 10 2047 rfl (fun _ _ _ _ _ => (rn_move rfl (T.ev 0 rfl))) ?_; clear T ac; intro ac T
 refine gq T 11 4095 rfl (fun _ _ _ _ _ => (rn_extract rfl (T.ev 0 rfl) rfl)) ?_; clear T ac; intro ac T
 refine gq T 12 8191 rfl (fun _ _ _ _ _ => (rn_extract rfl (T.ev 1 rfl) rfl)) ?_; clear T ac; intro ac T
 refine gq T 13 16383 rfl (fun _ _ _ _ _ => (rn_assign rfl (T.ev 1 rfl))) ?_; clear T ac; intro ac T
 refine gq T 14 32767 rfl (fun _ _ _ _ _ => (rn_assign rfl (T.ev 1 rfl))) ?_; clear T ac; intro ac T
 refine g_done (by kernel_rfl) ?_
 replace T := T.pick [0, 1] rfl
 replace M := M.mask [false, false, false] rfl
 refine nm_then ?_
 refine wp_seq ?_
 refine wp_region_lit ?_
 refine lq T (rn_move rfl (T.ev 1 rfl)) ?_; clear T ac; intro ac T
 refine lq T (rn_move rfl (T.ev 1 rfl)) ?_; clear T ac; intro ac T
 refine l_q (v := (.int .i64 (sizeL a c p t))) (T.pick [0, 1, 2] rfl) rfl rfl rfl rfl (rn_assign rfl (T.ev 1 rfl)) ?_; clear T ac; intro ac T
 refine l_q (v := (.int .i64 (sizeW a c p t))) (T.pick [0, 1, 2] rfl) rfl rfl rfl rfl (rn_assign rfl (T.ev 1 rfl)) ?_; clear T ac; intro ac T
 refine lq T (rn_assign rfl evc) ?_; clear T ac; intro ac T
 refine wpList_nil ?_
 replace T := T.pick [0, 1, 2] rfl
 refine nm_then ?_
 refine wp_ret ?_
 refine rt_3 T rfl (T.ev 2 rfl) (T.ev 1 rfl) (T.ev 0 rfl) ?_
 have e9 : szE s k t = 0 := (if_neg (by omega)).trans ((if_neg hk9).trans (if_neg (by rw [hpe]; simp_all)))
 have e8 : szL s k t su = sizeL a c p t := by unfold szL; rw [if_neg (by omega), hpe, ← hae, ← hce]
 have e7 : szW s k t su = sizeW a c p t := by unfold szW; rw [if_neg (by omega), hpe, ← hae, ← hce]
 rw [e9, e8, e7]
 exact ⟨rfl, M.below⟩
end Go.Proofs.YtehpcclfgjccbaaDoor
end

section
/-
 sheet's law: blanks that cost a sheet.
-/
namespace Go.Proofs.YtehpcclfgjccbaaDoor
set_option linter.unusedSimpArgs false
set_option linter.unusedVariables false
open Go.RowKit
def SkPost (s : Sk) (w : World) (e : Ending) (w' : World) : Prop := ∃ A c I, e = .returned (.agg #[.int .i64 s.lo, .int .i64 s.wi, .int .i64 s.a0, .int .i64 s.a1, .int .i64 s.c0, .int .i64 s.c1, .slice A s.ps.length c]) ∧ s.ps.length ≤ c ∧ (∃ b o, ∀ (w : World) (ex : Nat → Prop), Sp w ex I A s.ps.length 4 b o (pc s.ps)) ∧ Mem w noEx w' I
end Go.Proofs.YtehpcclfgjccbaaDoor
end

section
/-
 ref8: Number; sheet's law: whether a numbering will do.
-/
namespace Go.Proofs.YtehpcclfgjccbaaDoor
set_option linter.unusedSimpArgs false
set_option linter.unusedVariables false
open Go.RowKit
def numI (l : List Int) : Int := l.foldl (fun m x => max m (x + 1)) 0
theorem plan_cases {s : Sk} {g : List Int} {su : Bool} (hg : s.good) (h : ∀ x ∈ g, 0 ≤ x ∧ x < (s.ps.length : Int)) (hn : g.Nodup) : (planE s g su = 0 ∧ canS s su (gP s g) = true) ∨ (planE s g su = 11 ∧ canS s su (gP s g) = false) := by
 have h1 : lstE s g = 0 := lstE_iff.2 ⟨hg, h, hn⟩
 unfold planE
 rw [if_neg (show ¬ lstE s g ≠ 0 by omega)]
 by_cases hc : canS s su (gP s g) = true
 · rw [if_pos hc]; exact .inl ⟨rfl, hc⟩
 · rw [if_neg hc]; exact .inr ⟨rfl, by simpa using hc⟩
end Go.Proofs.YtehpcclfgjccbaaDoor
end

section
/-
 sheet's laws, plain: a plan's spots can be cut.
-/
namespace Go.Proofs.YtehpcclfgjccbaaDoor
set_option linter.unusedSimpArgs false
set_option linter.unusedVariables false
open Go.RowKit
theorem putS_other : ∀ (A : List (Nat × Spt)) (l : List Spt) (i : Nat), i ∉ A.map (·.1) → (putS l A)[i]? = l[i]?
 | [], l, i, _ => rfl
 | q :: A, l, i, h => by
   show (putS (l.set q.1 q.2) A)[i]? = _
   simp only [List.map_cons, List.mem_cons, not_or] at h
   rw [putS_other A _ i h.2, List.getElem?_set_ne (fun e => h.1 e.symm)]
theorem putS_get : ∀ (A : List (Nat × Spt)) (l : List Spt), (A.map (·.1)).Nodup → (∀ z ∈ A, z.1 < l.length) → ∀ z ∈ A, (putS l A)[z.1]? = some z.2
 | [], l, _, _, z, h => by cases h
 | q :: A, l, hn, hl, z, hz => by
   show (putS (l.set q.1 q.2) A)[z.1]? = _
   rw [List.map_cons, List.nodup_cons] at hn
   rcases List.mem_cons.1 hz with rfl | hz
   · rw [putS_other A _ _ hn.1, List.getElem?_set_self (hl _ List.mem_cons_self)]
   · exact putS_get A _ hn.2 (fun y hy => by rw [List.length_set]; exact hl y (List.mem_cons_of_mem _ hy)) z hz
section
variable {a c lo wi : Int}
def plL (a c : Int) : List Ld → List Pt → List Spt → List Ld
 | all, p :: L, q :: S => plL a c (all ++ [ldOf a c p q all.length]) L S
 | all, _, _ => all
theorem plL_pre : ∀ (L : List Pt) (S : List Spt) (all : List Ld), all <+: plL a c all L S
 | [], _, all => by unfold plL; exact List.prefix_refl _
 | p :: L, [], all => by unfold plL; exact List.prefix_refl _
 | p :: L, q :: S, all => (List.prefix_append all _).trans (plL_pre L S _)
theorem plP_some : ∀ (L : List Pt) (S : List Spt) (all : List Ld), (∀ (j : Nat) (p : Pt) (q : Spt), L[j]? = some p → S[j]? = some q → badP a c lo wi p q = false) → (plL a c all L S).Pairwise (fun z o => (decide (z.ar = o.ar) || overP z.ar o.ar) = false) → plP a c lo wi all L S = some (plL a c all L S)
 | [], S, all, _, _ => by unfold plP plL; rfl
 | p :: L, [], all, _, _ => by unfold plP plL; rfl
 | p :: L, q :: S, all, hb, hp => by
   have h0 := hb 0 p q rfl rfl
   obtain ⟨t, ht⟩ := plL_pre (a := a) (c := c) L S (all ++ [ldOf a c p q all.length])
   have hp' : (plL a c (all ++ [ldOf a c p q all.length]) L S).Pairwise (fun z o => (decide (z.ar = o.ar) || overP z.ar o.ar) = false) := hp
   have h1 : hitP all (ldOf a c p q all.length) = false := by
     rw [Bool.eq_false_iff]
     intro h9
     obtain ⟨z, hz, h8⟩ := List.any_eq_true.1 h9
     rw [← ht] at hp'
     have := (List.pairwise_append.1 (List.pairwise_append.1 hp').1).2.2 z hz _ (List.mem_singleton.2 rfl)
     rw [this] at h8
     cases h8
   show (if badP a c lo wi p q = true then none else if hitP all (ldOf a c p q all.length) = true then none else plP a c lo wi (all ++ [ldOf a c p q all.length]) L S) = _
   rw [if_neg (by rw [h0]; decide), if_neg (by rw [h1]; decide)]
   exact plP_some L S _ (fun j p' q' e1 e2 => hb (j + 1) p' q' (by rw [List.getElem?_cons_succ]; exact e1) (by rw [List.getElem?_cons_succ]; exact e2)) hp'
theorem plL_eq : ∀ (L : List Pt) (S : List Spt) (all : List Ld), L.length = S.length → plL a c all L S = all ++ (List.range L.length).map fun i => ldOf a c (L.getD i default) (S.getD i default) (all.length + i)
 | [], S, all, _ => by unfold plL; simp
 | p :: L, [], all, h => by simp at h
 | p :: L, q :: S, all, h => by
   show plL a c (all ++ [ldOf a c p q all.length]) L S = _
   rw [plL_eq L S _ (by simpa using h), List.length_cons, List.range_succ_eq_map, List.map_cons, List.map_map, List.append_assoc, List.length_append]
   congr 1
   show ldOf a c p q all.length :: _ = ldOf a c p q (all.length + 0) :: _
   congr 1
   apply List.map_congr_left
   intro i _
   show ldOf a c (L.getD i default) (S.getD i default) (all.length + 1 + i) = ldOf a c ((p :: L).getD (i + 1) default) ((q :: S).getD (i + 1) default) (all.length + (i + 1))
   rw [List.getD_cons_succ, List.getD_cons_succ, Nat.add_assoc, Nat.add_comm 1 i]
end
theorem hit_of_over {z o : Ld} (h : overP z.ar o.ar = false) (h1 : z.l < z.r) (h2 : z.n < z.f) : (decide (z.ar = o.ar) || overP z.ar o.ar) = false := by
 rw [h, Bool.or_false, decide_eq_false_iff_not]
 intro e
 rw [← e] at h
 have h9 : overP z.ar z.ar = true := by
   simp only [overP, Bool.and_eq_true, decide_eq_true_eq]
   exact ⟨⟨⟨h1, h1⟩, h2⟩, h2⟩
 rw [h] at h9
 cases h9
theorem over_symm (a b : Ar) : overP a b = overP b a := by
 rw [Bool.eq_iff_iff]
 simp only [overP, Bool.and_eq_true, decide_eq_true_eq]
 constructor <;> (intro h; omega)
theorem lay_cuts {a c lo wi : Int} {L : List Pt} (hg : ∀ p ∈ L, p.good) (ha : 0 ≤ a) (hc : 0 ≤ c) {A : List (Nat × Spt)} {S : List Spt} (h : LayOk a c L ⟨2 ^ L.length - 1, lo, wi⟩ 0 0 A) (hS : S = putS (List.replicate L.length ⟨0, 0, false⟩) A) :
   S.length = L.length ∧ cutsB a c lo wi L S = true ∧ (∀ (i : Nat) (p : Pt) (q : Spt), L[i]? = some p → S[i]? = some q → badP a c lo wi p q = false) ∧
   ∀ (i k : Nat) (p p' : Pt) (q q' : Spt), k < i → L[i]? = some p → S[i]? = some q → L[k]? = some p' → S[k]? = some q' → overP (ldOf a c p' q' k).ar (ldOf a c p q i).ar = false := by
 have hl : S.length = L.length := by rw [hS, putS_length, List.length_replicate]
 have hidx : (A.map (·.1)).Perm (List.range L.length) := by
   have h1 := h.idx
   have h2 := sel_all (List.range L.length)
   rw [List.length_range] at h2
   rwa [h2] at h1
 have hnd : (A.map (·.1)).Nodup := hidx.nodup_iff.2 List.nodup_range
 have hlt : ∀ z ∈ A, z.1 < (List.replicate L.length (⟨0, 0, false⟩ : Spt)).length := fun z hz => by rw [List.length_replicate]; exact h.lt hz
 have hget : ∀ z ∈ A, S[z.1]? = some z.2 := fun z hz => by rw [hS]; exact putS_get A _ hnd hlt z hz
 have hall : ∀ (i : Nat) (q : Spt), S[i]? = some q → (i, q) ∈ A := fun i q hq => by
   have hi : i < L.length := by rw [← hl]; exact (List.getElem?_eq_some_iff.1 hq).1
   obtain ⟨z, hz, hzi⟩ := List.mem_map.1 (hidx.symm.subset (List.mem_range.2 hi))
   have := hget z hz
   rw [hzi, hq] at this
   injection this with this
   rw [show (i, q) = z by rw [← hzi, this]]
   exact hz
 have bad : ∀ (i : Nat) (p : Pt) (q : Spt), L[i]? = some p → S[i]? = some q → badP a c lo wi p q = false := fun i p q hp hq => by
   have hm := hall i q hq
   have hpd : L.getD i default = p := by rw [List.getD_eq_getElem?_getD, hp]; rfl
   have f1 := h.fit _ hm
   have f2 := inP_iff.1 (h.inn _ hm)
   rw [show (i, q).1 = i from rfl, hpd] at f1
   have e1 : 0 ≤ q.x ∧ q.x + sizeL a c (L.getD i default) q.t ≤ 0 + lo ∧ 0 ≤ q.y ∧ q.y + sizeW a c (L.getD i default) q.t ≤ 0 + wi := f2
   rw [hpd] at e1
   unfold badP
   rw [show (q.t && p.gr) = false from f1, decide_eq_true (show 0 ≤ q.x by omega), decide_eq_true (show q.x ≤ lo - sizeL a c p q.t by omega), decide_eq_true (show 0 ≤ q.y by omega), decide_eq_true (show q.y ≤ wi - sizeW a c p q.t by omega)]
   rfl
 have eA : A.map (ldA a c L) = (A.map (·.1)).map fun i => ldOf a c (L.getD i default) (S.getD i default) i := by
   rw [List.map_map]
   apply List.map_congr_left
   intro z hz
   show ldOf a c (L.getD z.1 default) z.2 z.1 = ldOf a c (L.getD z.1 default) (S.getD z.1 default) z.1
   rw [List.getD_eq_getElem?_getD (l := S), hget z hz]
   rfl
 have eF : plL a c [] L S = (List.range L.length).map fun i => ldOf a c (L.getD i default) (S.getD i default) i := by
   rw [plL_eq L S [] hl.symm, List.nil_append]
   apply List.map_congr_left
   intro i _
   rw [List.length_nil, Nat.zero_add]
 have hpA : (A.map (ldA a c L)).Pairwise fun z o => overP z.ar o.ar = false := List.pairwise_map.2 h.apart
 have hpF : ((List.range L.length).map fun i => ldOf a c (L.getD i default) (S.getD i default) i).Pairwise fun z o => overP z.ar o.ar = false := by
   rw [eA] at hpA
   exact ((hidx.map _).pairwise_iff (fun {x y} h9 => by rw [over_symm]; exact h9)).1 hpA
 have pos : ∀ i, i < L.length → ∀ q : Spt, (ldOf a c (L.getD i default) q i).l < (ldOf a c (L.getD i default) q i).r ∧ (ldOf a c (L.getD i default) q i).n < (ldOf a c (L.getD i default) q i).f := fun i hi q => by
   have := size_pos ha hc (getD_good hg hi) q.t
   constructor
   · show q.x < q.x + _; omega
   · show q.y < q.y + _; omega
 have hpl : plP a c lo wi [] L S = some (plL a c [] L S) := by
   refine plP_some L S [] bad ?_
   rw [eF]
   refine List.pairwise_map.2 ((List.pairwise_map.1 hpF).imp_of_mem fun {i k} hi _ h9 => ?_)
   obtain ⟨q1, q2⟩ := pos i (List.mem_range.1 hi) (S.getD i default)
   exact hit_of_over h9 q1 q2
 refine ⟨hl, ?_, bad, ?_⟩
 · unfold cutsB
   rw [hpl]
   show sawB _ _ = true
   rw [sawB_iff, eF]
   have hs := h.saw
   rw [eA, show (⟨0, 0, 0 + lo, 0 + wi⟩ : Ar) = ⟨0, 0, lo, wi⟩ by rw [Int.zero_add, Int.zero_add]] at hs
   exact hs.perm (hidx.map _).symm
 · intro i k p p' q q' hki hp hq hp' hq'
   have hi := (List.getElem?_eq_some_iff.1 hp).1
   have h9 := List.pairwise_iff_getElem.1 hpF k i (by simp; omega) (by simp; omega) hki
   simp only [List.getElem_map, List.getElem_range] at h9
   rw [List.getD_eq_getElem?_getD, List.getD_eq_getElem?_getD, List.getD_eq_getElem?_getD, List.getD_eq_getElem?_getD, hp, hq, hp', hq'] at h9
   exact h9
theorem plan_law {s : Sk} {g : List Int} {su : Bool} (hg : s.good) (hi : ∀ x ∈ g, 0 ≤ x ∧ x < (s.ps.length : Int)) (hn : g.Nodup) (h : planE s g su = 0) : (planL s g su).length = g.length ∧ cutsV s g (planL s g su) su = true ∧ cutsE s g (planL s g su).length = 0 ∧
   (∀ (i : Nat) (p : Pt) (q : Spt), (gP s g)[i]? = some p → (planL s g su)[i]? = some q → badP (cutA s su) (cutC s su) s.lo s.wi p q = false) ∧
   ∀ (i k : Nat) (p p' : Pt) (q q' : Spt), k < i → (gP s g)[i]? = some p → (planL s g su)[i]? = some q → (gP s g)[k]? = some p' → (planL s g su)[k]? = some q' → overP (ldOf (cutA s su) (cutC s su) p' q' k).ar (ldOf (cutA s su) (cutC s su) p q i).ar = false := by
 have h0 : lstE s g = 0 := lstE_iff.2 ⟨hg, hi, hn⟩
 have hgl : (gP s g).length = g.length := by unfold gP; rw [List.length_map]
 have h5 : (gP s g).length ≤ 5 := by rw [hgl]; exact Nat.le_trans (nodup_short hi hn) hg.len
 have hgg : ∀ p ∈ gP s g, p.good := fun p hp => by
   unfold gP at hp
   obtain ⟨x, hx, rfl⟩ := List.mem_map.1 hp
   have := hi x hx
   exact getD_good hg.ps (by omega)
 obtain ⟨⟨ha, -⟩, hc, -⟩ := cut_bd hg su
 have hcan : canS s su (gP s g) = true := by
   rcases plan_cases (su := su) hg hi hn with ⟨-, h1⟩ | ⟨h1, -⟩
   · exact h1
   · omega
 obtain ⟨A, hA⟩ := lay_ex (a := cutA s su) (c := cutC s su) h5 6 (whR s (gP s g)) 0 0 (pop_lt _) (whole_pow _) hcan
 have hok := hA.ok hgg ha hc h5 (whole_pow _) (canB_iff.1 hcan)
 have hpl : planL s g su = putS (List.replicate (gP s g).length ⟨0, 0, false⟩) A := by
   unfold planL
   rw [if_pos h, planA_eq hA]
 obtain ⟨k1, k2, k3, k4⟩ := lay_cuts hgg ha hc hok hpl
 have hE : cutsE s g (planL s g su).length = 0 := by
   unfold cutsE
   rw [if_neg (by omega), if_neg (by omega), if_neg (by omega)]
 exact ⟨by omega, by unfold cutsV; rw [if_pos hE]; exact k2, hE, k3, k4⟩
end Go.Proofs.YtehpcclfgjccbaaDoor
end

section
/-
 sheet's law: areas, and scrap.
-/
namespace Go.Proofs.YtehpcclfgjccbaaDoor
set_option linter.unusedSimpArgs false
set_option linter.unusedVariables false
open Go.RowKit
theorem sz_law {s : Sk} (hg : s.good) {k : Nat} {p : Pt} (hk : s.ps[k]? = some p) (t su : Bool) : szE s (k : Int) t = (if (t && p.gr) = true then 8 else 0) ∧ ((t && p.gr) = false → szL s (k : Int) t su = sizeL (cutA s su) (cutC s su) p t ∧ szW s (k : Int) t su = sizeW (cutA s su) (cutC s su) p t) := by
 have hl := (List.getElem?_eq_some_iff.1 hk).1
 have hp : s.ps.getD ((k : Int)).toNat default = p := by rw [List.getD_eq_getElem?_getD, Int.toNat_natCast, hk]; rfl
 have hE : szE s (k : Int) t = (if (t && p.gr) = true then 8 else 0) := by
   unfold szE
   rw [if_neg (by rw [skErr_iff.2 hg]; decide), if_neg (by omega), hp]
 refine ⟨hE, fun h => ?_⟩
 have h0 : szE s (k : Int) t = 0 := by rw [hE, h]; rfl
 exact ⟨by unfold szL; rw [if_neg (by omega), hp], by unfold szW; rw [if_neg (by omega), hp]⟩
end Go.Proofs.YtehpcclfgjccbaaDoor
end

section
/-
 sheet's law: what is planned can be cut.
-/
namespace Go.Proofs.YtehpcclfgjccbaaDoor
set_option linter.unusedSimpArgs false
set_option linter.unusedVariables false
open Go.RowKit
theorem gP_at {s : Sk} {g : List Int} {i m : Nat} {v : Int} {p : Pt} (hv : g[i]? = some v) (hm : v = (m : Int)) (hp : s.ps[m]? = some p) : (gP s g)[i]? = some p := by
 unfold gP
 rw [List.getElem?_map, hv, Option.map_some, hm, Int.toNat_natCast, List.getD_eq_getElem?_getD, hp]
 rfl
theorem over_not {a c : Int} {p p2 : Pt} {q q2 : Spt} {i k : Nat} (h : overP (ldOf a c p2 q2 k).ar (ldOf a c p q i).ar = false) : ¬ (q.x < q2.x + sizeL a c p2 q2.t ∧ q2.x < q.x + sizeL a c p q.t ∧ q.y < q2.y + sizeW a c p2 q2.t ∧ q2.y < q.y + sizeW a c p q.t) := by
 rintro ⟨h1, h2, h3, h4⟩
 have h9 : overP (ldOf a c p2 q2 k).ar (ldOf a c p q i).ar = true := by
   simp only [overP, Bool.and_eq_true, decide_eq_true_eq]
   exact ⟨⟨⟨h2, h1⟩, h4⟩, h3⟩
 rw [h] at h9
 cases h9
theorem can_hope {s : Sk} {L : List Pt} (hg : s.good) (h : canS s true L = true) : canS s false L = true := by
 rw [canS_iff] at *
 have h1 := Cut.map (g := Fit (cutA s false) (cutC s false)) (fun p => p) (fun p _ lo wi hf => (easier.rfl' p).fit (by have := hg.a; unfold cutA; simp; omega) (by have := hg.c; unfold cutC; simp; omega) hf) h
 rwa [List.map_id'] at h1
theorem pf_law {s : Sk} {g : List Int} {su : Bool} (hg : s.good) (hi : ∀ x ∈ g, 0 ≤ x ∧ x < (s.ps.length : Int)) (hn : g.Nodup) : (planE s g su = 0 ∨ planE s g su = 11) ∧ (planE s g su ≠ 0 → (planL s g su).length = 0) ∧ (su = true → (planE s g su = 0 ↔ fitV s g = 1)) ∧ (su = false → (planE s g su = 0 ↔ ¬ fitV s g = 2)) := by
 have h0 : lstE s g = 0 := lstE_iff.2 ⟨hg, hi, hn⟩
 have hp := plan_cases (su := su) hg hi hn
 have hh := can_hope (L := gP s g) hg
 have hV : fitV s g = if canS s true (gP s g) = true then 1 else if canS s false (gP s g) = true then 3 else 2 := by
   unfold fitV
   rw [if_neg (by omega)]
 refine ⟨hp.imp And.left And.left, fun h => by unfold planL; rw [if_neg h]; rfl, fun h => ?_, fun h => ?_⟩
 · subst h
   rw [hV]
   rcases hp with ⟨h1, h2⟩ | ⟨h1, h2⟩
   · rw [if_pos h2, h1]; simp
   · rw [if_neg (by rw [h2]; decide), h1]
     split <;> simp
 · subst h
   rw [hV]
   rcases hp with ⟨h1, h2⟩ | ⟨h1, h2⟩
   · rw [h1, if_pos h2]
     split <;> simp
   · rw [if_neg (fun h3 => by rw [hh h3] at h2; cases h2), if_neg (by rw [h2]; decide), h1]
     simp
theorem pf_test {e v : Int} {b : Bool} (h1 : e = 0 ∨ e = 11) (h3 : b = true → (e = 0 ↔ v = 1)) (h4 : b = false → (e = 0 ↔ ¬ v = 2)) : (bif (!(decide (e = 0))) then ((!(decide (e = 11))) || (bif b then (!((decide (e = 0)) == (decide (v = 1)))) else (!((decide (e = 0)) == (!(decide (v = 2))))))) else (bif b then (!((decide (e = 0)) == (decide (v = 1)))) else (!((decide (e = 0)) == (!(decide (v = 2))))))) = false := by
 cases b <;> rcases h1 with rfl | rfl <;> simp_all
theorem plan_less {s : Sk} {g : List Int} {su : Bool} {k : Nat} (hg : s.good) (hi : ∀ x ∈ g, 0 ≤ x ∧ x < (s.ps.length : Int)) (hn : g.Nodup) (hk : k + 1 = g.length) (h : planE s g su = 0) : planE s (g.take k) su = 0 := by
 have hi' : ∀ x ∈ g.take k, 0 ≤ x ∧ x < (s.ps.length : Int) := fun x hx => hi x (List.mem_of_mem_take hx)
 have hn' : (g.take k).Nodup := hn.sublist (List.take_sublist _ _)
 rcases plan_cases (su := su) hg hi' hn' with ⟨h1, -⟩ | ⟨-, h2⟩
 · exact h1
 · exfalso
   have hcan : canS s su (gP s g) = true := by
     rcases plan_cases (su := su) hg hi hn with ⟨-, h1⟩ | ⟨h1, -⟩
     · exact h1
     · omega
   have e : g = g.take k ++ [g[k]'(by omega)] := by
     have h9 := List.take_append_drop k g
     rw [List.drop_eq_getElem_cons (by omega), List.drop_of_length_le (by omega)] at h9
     exact h9.symm
   have hp : (gP s g).Perm (s.ps.getD (g[k]'(by omega)).toNat default :: gP s (g.take k)) := by
     have e2 : gP s g = gP s (g.take k) ++ [s.ps.getD (g[k]'(by omega)).toNat default] := by
       have e3 : gP s g = gP s (g.take k ++ [g[k]'(by omega)]) := by rw [← e]
       rw [e3]
       unfold gP
       rw [List.map_append]
       rfl
     rw [e2]
     exact List.perm_append_singleton _ _
   have h3 := canS_iff.2 ((canS_iff.1 hcan).less fit_mono hp)
   rw [h2] at h3
   cases h3
set_option maxHeartbeats 4000000 in
theorem SheetPlanned_any (D : Option Addr) (n d : Nat) (l : List Int) (w : World) (hl : Rd w w.heap.size 1 D n (ic l)) (hm : n ≤ 9223372036854775807) (hT : TabW w) :
   Calls Tryd.prog 14 #[.slice D n d] w fun e w' => e = .returned (.bool true) ∧ Below w.heap.size w w' := by
 have hll := hl.len1
 obtain ⟨bI, oI, SI⟩ := Sp.old hl
 refine px_enter noEx Tryd.func14 rfl 272 rfl [.slice D n d] rfl rfl (Mem.init w _) ?_
 intro ac wc T M
 refine wp_seq ?_
 refine wp_region_lit ?_
 refine lq T (rn_assign rfl evc) ?_; clear T ac; intro ac T
 refine wpList_nil ?_
 replace T := T.pick [1] rfl
 refine nm_then ?_
 refine wp_seq ?_
 refine wp_region_lit ?_
 refine lq T (rn_move rfl (T.ev 0 rfl)) ?_; clear T ac; intro ac T
 refine l_w rfl ?_; intro K hK
 refine ow_call (first := []) (cap := []) T rfl rfl rfl rfl evf (.cons (T.ev 0 rfl) .nil) Tryd.func18 rfl rfl ?_
 refine Calls.mono (newPot_any _ _ _ l _ (SI.rd M (List.nil_sublist _)) (by omega)) ?_
 clear T
 rintro e wc ⟨bpu1, su1, hsu1, rfl, N⟩
 intro ac T
 replace M := M.join N; clear N
 replace M := M.mask [true] rfl
 refine sh_out hK _ _ ?_; clear hK K
 refine lq T (rn_assign rfl (T.ev 0 rfl)) ?_; clear T ac; intro ac T
 refine wpList_nil ?_
 replace T := T.pick [0] rfl
 refine nm_then ?_
 refine wp_seq ?_
 refine wp_region_lit ?_
 refine lq T (rn_move rfl (T.ev 0 rfl)) ?_; clear T ac; intro ac T
 refine l_w rfl ?_; intro K hK
 refine ow_call (first := []) (cap := []) T rfl rfl rfl rfl evf (.cons (T.ev 0 rfl) (.cons evc (.cons evc .nil))) Tryd.func19 rfl rfl ?_
 refine Calls.mono (sheetOf_any _ bpu1 6 4 _ (by omega) (by omega) (M.nth 0 rfl) hsu1) ?_
 clear T
 rintro e wc ⟨s, AKu2, cKu2, sdu2, IKu2, rfl, hsgs, ⟨⟨hbls, hbws⟩, hbps⟩, hsu2, hcpKu2, SVKu2, N⟩
 intro ac T
 obtain ⟨bAKu2, oAKu2, SVKu2⟩ := SVKu2
 have SAKu2 := SVKu2 w noEx
 replace M := M.joinEI N .head
 clear N
 replace M : Mem w noEx wc ((bpu1, .cells [.int .u64 sdu2]) :: IKu2) := M
 have hlns := hsgs.len
 obtain ⟨hg1s, hg2s, hg3s, hg4s, -, -⟩ := id hsgs
 refine sh_out hK _ _ ?_; clear hK K
 refine l_w rfl ?_; intro K hK
 refine ow_al M T rfl rfl rfl rfl ?_; clear M T; intro g1 wc ac M T
 refine sh_out hK _ _ ?_; clear hK K
 refine l_w rfl ?_; intro K hK
 refine ow_stO M T rfl rfl (T.ev 0 rfl) (T.ev 1 rfl) rfl .head rfl (by simp) rfl (by kernel_rfl) ?_; clear M T; intro wc ac M T
 refine sh_out hK _ _ ?_; clear hK K
 refine wpList_nil ?_
 replace T := T.pick [0, 3] rfl
 refine nm_then ?_
 refine wp_seq ?_
 refine wp_region_lit ?_
 refine lq T (rn_move rfl (T.ev 1 rfl)) ?_; clear T ac; intro ac T
 refine lq (v := (.pointer (some ⟨g1, 6, none⟩))) T (rn_fieldAddr (off := 6) rfl (T.ev 1 rfl) (fun _ _ _ => by kernel_rfl)) ?_; clear T ac; intro ac T
 refine lq T (rn_one (Mem.nth M 0 rfl) rfl (T.ev 0 rfl) rfl) ?_; clear T ac; intro ac T
 refine lq T (rn_lenS rfl Tryd.underlying24 (T.ev 0 rfl)) ?_; clear T ac; intro ac T
 refine l_w rfl ?_; intro K hK
 refine ow_call (first := []) (cap := []) T rfl rfl rfl rfl evf (.cons (T.ev 3 rfl) (.cons (T.ev 0 rfl) .nil)) Tryd.func20 rfl rfl ?_
 refine Calls.mono (mix_any _ bpu1 s.ps.length _ (by omega) (M.nth 1 rfl) hsu2) ?_
 clear T
 rintro e wc ⟨lxu3, AXu3, cXu3, sdu3, IXu3, rfl, hixu3, hsu3, hcpXu3, SVXu3, N⟩
 intro ac T
 obtain ⟨bAXu3, oAXu3, SVXu3⟩ := SVXu3
 have SAXu3 := SVXu3 w noEx
 replace M := M.joinEI N (.tail .head)
 clear N
 replace M : Mem w noEx wc ((g1, .cells [.int .i64 s.lo, .int .i64 s.wi, .int .i64 s.a0, .int .i64 s.a1, .int .i64 s.c0, .int .i64 s.c1, .slice AKu2 s.ps.length cKu2]) :: (bpu1, .cells [.int .u64 sdu3]) :: (IKu2 ++ IXu3)) := M
 refine sh_out hK _ _ ?_; clear hK K
 refine lq T (rn_assign rfl (T.ev 0 rfl)) ?_; clear T ac; intro ac T
 refine wpList_nil ?_
 replace T := T.pick [0, 6, 7] rfl
 refine nm_then ?_
 refine wp_seq ?_
 refine wp_region_lit ?_
 refine lq T (rn_move rfl (T.ev 2 rfl)) ?_; clear T ac; intro ac T
 refine l_w rfl ?_; intro K hK
 refine ow_call (first := []) (cap := []) T rfl rfl rfl rfl evf (.cons (T.ev 0 rfl) (.cons evc (.cons evc .nil))) Tryd.func23 rfl rfl ?_
 refine Calls.mono (odds_any _ bpu1 1 2 _ (by omega) (by omega) (M.nth 1 rfl) hsu3) ?_
 clear T
 rintro e wc ⟨bu4, su4, hsu4, rfl, hgr, hbk⟩
 intro ac T
 replace M := M.callC (cs' := [.int .u64 su4]) (.tail .head) hgr hbk
 clear hgr hbk
 refine sh_out hK _ _ ?_; clear hK K
 refine lq T (rn_assign rfl (T.ev 0 rfl)) ?_; clear T ac; intro ac T
 refine wpList_nil ?_
 replace T := T.pick [0, 3, 4] rfl
 replace M := M.mask [true, false] rfl
 refine nm_then ?_
 refine wp_seq ?_
 refine wp_region_lit ?_
 refine lq T (rn_rowO (Mem.nth M 0 rfl) rfl (T.ev 2 rfl) rfl) ?_; clear T ac; intro ac T
 refine lq T (rn_move rfl (T.ev 2 rfl)) ?_; clear T ac; intro ac T
 refine lq T (rn_move rfl (T.ev 2 rfl)) ?_; clear T ac; intro ac T
 refine l_w rfl ?_; intro K hK
 have hgl9 : lxu3.length ≤ 5 := by have := hixu3.2; omega
 refine ow_call (first := []) (cap := []) T rfl rfl rfl rfl evf (.cons (T.ev 2 rfl) (.cons (T.ev 1 rfl) (.cons (T.ev 0 rfl) .nil))) Tryd.func33 rfl rfl ?_
 refine Calls.mono (Plan_any s AKu2 cKu2 AXu3 cXu3 lxu3 bu4 _ (SAKu2.rd M (.cons _ (subL (List.Sublist.refl _)))) (SAXu3.rd M (.cons _ (List.sublist_append_right _ _))) (by omega) (by omega) (by omega) (hT.mem M (fun h => h))) ?_
 clear T
 rintro e wc ⟨APu5, cPu5, IPu5, rfl, hcpPu5, SVPu5, N⟩
 intro ac T
 obtain ⟨pf1, pf2, pf3, pf4⟩ := pf_law (su := bu4) hsgs hixu3.1.1 hixu3.1.2
 obtain ⟨pE, hpE⟩ : ∃ q : Int, q = planE s lxu3 bu4 := ⟨_, rfl⟩
 rw [← hpE] at T pf1 pf2 pf3 pf4
 obtain ⟨bAPu5, oAPu5, SVPu5⟩ := SVPu5
 have SAPu5 := SVPu5 w noEx
 replace M := (M.join N).swapI
 clear N
 replace M : Mem w noEx wc ((g1, .cells [.int .i64 s.lo, .int .i64 s.wi, .int .i64 s.a0, .int .i64 s.a1, .int .i64 s.c0, .int .i64 s.c1, .slice AKu2 s.ps.length cKu2]) :: (IKu2 ++ IXu3 ++ IPu5)) := M
 refine sh_out hK _ _ ?_; clear hK K
 refine lq T (rn_move rfl (T.ev 0 rfl)) ?_; clear T ac; intro ac T
 refine lq T (rn_extract rfl (T.ev 0 rfl) rfl) ?_; clear T ac; intro ac T
 refine lq T (rn_extract rfl (T.ev 1 rfl) rfl) ?_; clear T ac; intro ac T
 refine lq T (rn_assign rfl (T.ev 1 rfl)) ?_; clear T ac; intro ac T
 refine lq T (rn_assign rfl (T.ev 1 rfl)) ?_; clear T ac; intro ac T
 refine wpList_nil ?_
 replace T := T.pick [0, 1, 9, 10, 11] rfl
 refine nm_then ?_
 refine wp_seq ?_
 refine wp_region_lit ?_
 refine lq T (rn_rowO (Mem.nth M 0 rfl) rfl (T.ev 4 rfl) rfl) ?_; clear T ac; intro ac T
 refine lq T (rn_move rfl (T.ev 4 rfl)) ?_; clear T ac; intro ac T
 refine l_w rfl ?_; intro K hK
 refine ow_call (first := []) (cap := []) T rfl rfl rfl rfl evf (.cons (T.ev 1 rfl) (.cons (T.ev 0 rfl) .nil)) Tryd.func46 rfl rfl ?_
 refine Calls.mono (Fits_any s AKu2 cKu2 AXu3 cXu3 lxu3 _ (SAKu2.rd M (.cons _ (subL (subL (List.Sublist.refl _))))) (SAXu3.rd M (.cons _ (subL (List.sublist_append_right _ _)))) (by omega) (by omega) (by omega) (hT.mem M (fun h => h))) ?_
 clear T
 rintro e wc ⟨rfl, hb⟩
 intro ac T
 rw [show lstE s lxu3 = 0 from lstE_iff.2 ⟨hsgs, hixu3.1.1, hixu3.1.2⟩] at T
 replace M := M.call hb; clear hb
 refine sh_out hK _ _ ?_; clear hK K
 refine lq T (rn_move rfl (T.ev 0 rfl)) ?_; clear T ac; intro ac T
 refine lq T (rn_extract rfl (T.ev 0 rfl) rfl) ?_; clear T ac; intro ac T
 refine lq T (rn_extract rfl (T.ev 1 rfl) rfl) ?_; clear T ac; intro ac T
 refine lq T (rn_assign rfl (T.ev 1 rfl)) ?_; clear T ac; intro ac T
 refine lq T (rn_assign rfl (T.ev 1 rfl)) ?_; clear T ac; intro ac T
 refine wpList_nil ?_
 replace T := T.pick [0, 1, 8, 9, 10, 11, 12] rfl
 refine nm_then ?_
 refine wp_seq ?_
 refine cut_seq (fun ac wc => Tm ac 272 [(4, .pointer (some ⟨g1, 0, none⟩)), (5, .slice AXu3 lxu3.length cXu3), (6, .bool bu4), (7, .slice APu5 ((planL s lxu3 bu4).length) cPu5), (8, .int .i64 pE), (78, .bool (bif (!(decide (pE = 0))) then ((!(decide (pE = 11))) || (bif bu4 then (!((decide (pE = 0)) == (decide ((fitV s lxu3) = 1)))) else (!((decide (pE = 0)) == (!(decide ((fitV s lxu3) = 2))))))) else (bif bu4 then (!((decide (pE = 0)) == (decide ((fitV s lxu3) = 1)))) else (!((decide (pE = 0)) == (!(decide ((fitV s lxu3) = 2))))))))] ∧ Mem w noEx wc ((g1, .cells [.int .i64 s.lo, .int .i64 s.wi, .int .i64 s.a0, .int .i64 s.a1, .int .i64 s.c0, .int .i64 s.c1, .slice AKu2 s.ps.length cKu2]) :: (IKu2 ++ IXu3 ++ IPu5))) ?_ ?_
 ·refine wp_region_lit ?_
  refine lq T (rn_move rfl (T.ev 0 rfl)) ?_; clear T ac; intro ac T
  refine lq (v := (.bool false)) T (rn_neqof (rn_neq rfl (T.ev 0 rfl) evc) (by simp)) ?_; clear T ac; intro ac T
  refine lq T (rn_move rfl (T.ev 0 rfl)) ?_; clear T ac; intro ac T
  refine lw T (wanted_yes rfl rfl (T.ev 0 rfl) rfl) (rn_move rfl (T.ev 5 rfl)) ?_; clear T ac; intro ac T
  refine lw T (wanted_yes rfl rfl (T.ev 1 rfl) rfl) (rn_neq rfl (T.ev 0 rfl) evc) ?_; clear T ac; intro ac T
  refine lw T (wanted_yes rfl rfl (T.ev 2 rfl) rfl) (rn_move rfl (T.ev 0 rfl)) ?_; clear T ac; intro ac T
  rcases Bool.eq_false_or_eq_true (!(decide (pE = 0))) with h1 | h1
  ·replace h1 : ¬ (pE = 0) := by first | (rw [Bool.not_eq_true'] at h1; exact of_decide_eq_false h1) | simpa using h1
   refine lw T (wanted_yes rfl rfl (T.ev 0 rfl) (by simp [h1])) (rn_move rfl (T.ev 8 rfl)) ?_; clear T ac; intro ac T
   refine lw T (wanted_yes rfl rfl (T.ev 1 rfl) (by simp [h1])) (rn_neq rfl (T.ev 0 rfl) evc) ?_; clear T ac; intro ac T
   refine lw T (wanted_yes rfl rfl (T.ev 5 rfl) rfl) (rn_pick1 rfl (T.ev 2 rfl) (by simp [h1]) (T.ev 0 rfl)) ?_; clear T ac; intro ac T
   refine lq T (rn_pick0 rfl (T.ev 6 rfl) rfl (T.ev 0 rfl)) ?_; clear T ac; intro ac T
   refine lq T (rn_move rfl (T.ev 0 rfl)) ?_; clear T ac; intro ac T
   rcases Bool.eq_false_or_eq_true (!(decide (pE = 11))) with h2 | h2
   ·replace h2 : ¬ (pE = 11) := by first | (rw [Bool.not_eq_true'] at h2; exact of_decide_eq_false h2) | simpa using h2
    refine lp T (wanted_no rfl rfl (T.ev 0 rfl) (by simp [h2])) ?_; clear T ac; intro ac T
    refine lp T (wanted_no rfl rfl (T.ev 1 rfl) (by simp [h2])) ?_; clear T ac; intro ac T
    refine lp T (wanted_un rfl rfl (T.ev 0 rfl)) ?_; clear T ac; intro ac T
    refine lp T (wanted_un rfl rfl (T.ev 1 rfl)) ?_; clear T ac; intro ac T
    refine lp T (wanted_un rfl rfl (T.ev 2 rfl)) ?_; clear T ac; intro ac T
    refine lp T (wanted_un rfl rfl (T.ev 3 rfl)) ?_; clear T ac; intro ac T
    refine lp T (wanted_un rfl rfl (T.ev 4 rfl)) ?_; clear T ac; intro ac T
    refine lp T (wanted_no rfl rfl (T.ev 7 rfl) (by simp [h2])) ?_; clear T ac; intro ac T
    refine lq T (rn_pick1 rfl (T.ev 8 rfl) (by simp [h2]) evc) ?_; clear T ac; intro ac T
    refine lq T (rn_move rfl (T.ev 0 rfl)) ?_; clear T ac; intro ac T
    refine lp T (wanted_no rfl rfl (T.ev 0 rfl) rfl) ?_; clear T ac; intro ac T
    refine lp T (wanted_no rfl rfl (T.ev 1 rfl) rfl) ?_; clear T ac; intro ac T
    refine lp T (wanted_no rfl rfl (T.ev 2 rfl) rfl) ?_; clear T ac; intro ac T
    refine lp T (wanted_un rfl rfl (T.ev 0 rfl)) ?_; clear T ac; intro ac T
    refine lp T (wanted_un rfl rfl (T.ev 1 rfl)) ?_; clear T ac; intro ac T
    refine lp T (wanted_un rfl rfl (T.ev 2 rfl)) ?_; clear T ac; intro ac T
    refine lp T (wanted_un rfl rfl (T.ev 3 rfl)) ?_; clear T ac; intro ac T
    refine lp T (wanted_un rfl rfl (T.ev 4 rfl)) ?_; clear T ac; intro ac T
    refine lp T (wanted_no rfl rfl (T.ev 8 rfl) rfl) ?_; clear T ac; intro ac T
    refine lq T (rn_pick1 rfl (T.ev 9 rfl) rfl evc) ?_; clear T ac; intro ac T
    refine wpList_nil ?_
    replace T := T.pick [0, 33, 34, 35, 36, 37] rfl
    exact ⟨(T.pick (E' := [(4, .pointer (some ⟨g1, 0, none⟩)), (5, .slice AXu3 lxu3.length cXu3), (6, .bool bu4), (7, .slice APu5 ((planL s lxu3 bu4).length) cPu5), (8, .int .i64 pE), (78, .bool true)]) [5, 4, 3, 2, 1, 0] rfl).as (by (try rw [show (!(decide (pE = 0))) = true from (by simp [h1])]); (try rw [show (!(decide (pE = 11))) = true from (by simp [h2])]); (try rfl)), M.mask [true] rfl⟩
   replace h2 : pE = 11 := by first | (rw [Bool.not_eq_false'] at h2; exact of_decide_eq_true h2) | simpa using h2
   refine lw T (wanted_yes rfl rfl (T.ev 0 rfl) (by simp [h2])) (rn_move rfl (T.ev 15 rfl)) ?_; clear T ac; intro ac T
   refine lw T (wanted_yes rfl rfl (T.ev 1 rfl) (by simp [h2])) (rn_move rfl (T.ev 0 rfl)) ?_; clear T ac; intro ac T
   rcases Bool.eq_false_or_eq_true bu4 with h3 | h3
   ·refine lw T (wanted_yes rfl rfl (T.ev 0 rfl) h3) (rn_move rfl (T.ev 15 rfl)) ?_; clear T ac; intro ac T
    refine lw T (wanted_yes rfl rfl (T.ev 1 rfl) h3) (rn_eql rfl (T.ev 0 rfl) evc) ?_; clear T ac; intro ac T
    refine lw T (wanted_yes rfl rfl (T.ev 2 rfl) h3) (rn_move rfl (T.ev 16 rfl)) ?_; clear T ac; intro ac T
    refine lw T (wanted_yes rfl rfl (T.ev 3 rfl) h3) (rn_eql rfl (T.ev 0 rfl) evc) ?_; clear T ac; intro ac T
    refine lw (v := (.bool (!((decide (pE = 0)) == (decide ((fitV s lxu3) = 1)))))) T (wanted_yes rfl rfl (T.ev 4 rfl) h3) (rn_bin rfl (T.ev 2 rfl) (T.ev 0 rfl) (by kernel_rfl)) ?_; clear T ac; intro ac T
    refine lw T (wanted_yes rfl rfl (T.ev 7 rfl) (by simp [h2])) (rn_pick1 rfl (T.ev 5 rfl) h3 (T.ev 0 rfl)) ?_; clear T ac; intro ac T
    refine lq T (rn_pick0 rfl (T.ev 8 rfl) (by simp [h2]) (T.ev 0 rfl)) ?_; clear T ac; intro ac T
    refine lq T (rn_move rfl (T.ev 0 rfl)) ?_; clear T ac; intro ac T
    rcases Bool.eq_false_or_eq_true (!((decide (pE = 0)) == (decide ((fitV s lxu3) = 1)))) with h4 | h4
    ·refine lp T (wanted_no rfl rfl (T.ev 0 rfl) h4) ?_; clear T ac; intro ac T
     refine lp T (wanted_no rfl rfl (T.ev 1 rfl) h4) ?_; clear T ac; intro ac T
     refine lp T (wanted_no rfl rfl (T.ev 2 rfl) h4) ?_; clear T ac; intro ac T
     refine lp T (wanted_un rfl rfl (T.ev 0 rfl)) ?_; clear T ac; intro ac T
     refine lp T (wanted_un rfl rfl (T.ev 1 rfl)) ?_; clear T ac; intro ac T
     refine lp T (wanted_un rfl rfl (T.ev 2 rfl)) ?_; clear T ac; intro ac T
     refine lp T (wanted_un rfl rfl (T.ev 3 rfl)) ?_; clear T ac; intro ac T
     refine lp T (wanted_un rfl rfl (T.ev 4 rfl)) ?_; clear T ac; intro ac T
     refine lp T (wanted_no rfl rfl (T.ev 8 rfl) h4) ?_; clear T ac; intro ac T
     refine lq T (rn_pick1 rfl (T.ev 9 rfl) h4 evc) ?_; clear T ac; intro ac T
     refine wpList_nil ?_
     replace T := T.pick [0, 33, 34, 35, 36, 37] rfl
     exact ⟨(T.pick (E' := [(4, .pointer (some ⟨g1, 0, none⟩)), (5, .slice AXu3 lxu3.length cXu3), (6, .bool bu4), (7, .slice APu5 ((planL s lxu3 bu4).length) cPu5), (8, .int .i64 pE), (78, .bool true)]) [5, 4, 3, 2, 1, 0] rfl).as (by (try rw [show (!(decide (pE = 0))) = true from (by simp [h1])]); (try rw [show (!(decide (pE = 11))) = false from (by simp [h2])]); (try rw [show bu4 = true from h3]); (try rw [show (!((decide (pE = 0)) == (decide ((fitV s lxu3) = 1)))) = true from h4]); (try rfl)), M.mask [true] rfl⟩
    refine lw T (wanted_yes rfl rfl (T.ev 0 rfl) h4) (rn_move rfl (T.ev 25 rfl)) ?_; clear T ac; intro ac T
    refine lw T (wanted_yes rfl rfl (T.ev 1 rfl) h4) (rn_not rfl (T.ev 0 rfl)) ?_; clear T ac; intro ac T
    refine lw T (wanted_yes rfl rfl (T.ev 2 rfl) h4) (rn_move rfl (T.ev 0 rfl)) ?_; clear T ac; intro ac T
    refine lp T (wanted_no rfl rfl (T.ev 0 rfl) (by rw [show bu4 = true from h3]; try rfl)) ?_; clear T ac; intro ac T
    refine lp T (wanted_no rfl rfl (T.ev 1 rfl) (by rw [show bu4 = true from h3]; try rfl)) ?_; clear T ac; intro ac T
    refine lp T (wanted_no rfl rfl (T.ev 2 rfl) (by rw [show bu4 = true from h3]; try rfl)) ?_; clear T ac; intro ac T
    refine lp T (wanted_no rfl rfl (T.ev 3 rfl) (by rw [show bu4 = true from h3]; try rfl)) ?_; clear T ac; intro ac T
    refine lp T (wanted_no rfl rfl (T.ev 4 rfl) (by rw [show bu4 = true from h3]; try rfl)) ?_; clear T ac; intro ac T
    refine lw T (wanted_yes rfl rfl (T.ev 8 rfl) h4) (rn_pick0 rfl (T.ev 5 rfl) (by rw [show bu4 = true from h3]; try rfl) evc) ?_; clear T ac; intro ac T
    refine lq T (rn_pick0 rfl (T.ev 9 rfl) h4 (T.ev 0 rfl)) ?_; clear T ac; intro ac T
    refine wpList_nil ?_
    replace T := T.pick [0, 33, 34, 35, 36, 37] rfl
    exact ⟨(T.pick (E' := [(4, .pointer (some ⟨g1, 0, none⟩)), (5, .slice AXu3 lxu3.length cXu3), (6, .bool bu4), (7, .slice APu5 ((planL s lxu3 bu4).length) cPu5), (8, .int .i64 pE), (78, .bool false)]) [5, 4, 3, 2, 1, 0] rfl).as (by (try rw [show (!(decide (pE = 0))) = true from (by simp [h1])]); (try rw [show (!(decide (pE = 11))) = false from (by simp [h2])]); (try rw [show bu4 = true from h3]); (try rw [show (!((decide (pE = 0)) == (decide ((fitV s lxu3) = 1)))) = false from h4]); (try rfl)), M.mask [true] rfl⟩
   refine lp T (wanted_no rfl rfl (T.ev 0 rfl) h3) ?_; clear T ac; intro ac T
   refine lp T (wanted_no rfl rfl (T.ev 1 rfl) h3) ?_; clear T ac; intro ac T
   refine lp T (wanted_no rfl rfl (T.ev 2 rfl) h3) ?_; clear T ac; intro ac T
   refine lp T (wanted_no rfl rfl (T.ev 3 rfl) h3) ?_; clear T ac; intro ac T
   refine lp T (wanted_no rfl rfl (T.ev 4 rfl) h3) ?_; clear T ac; intro ac T
   refine lw T (wanted_yes rfl rfl (T.ev 7 rfl) (by simp [h2])) (rn_pick0 rfl (T.ev 5 rfl) h3 evc) ?_; clear T ac; intro ac T
   refine lq T (rn_pick0 rfl (T.ev 8 rfl) (by simp [h2]) (T.ev 0 rfl)) ?_; clear T ac; intro ac T
   refine lq T (rn_move rfl (T.ev 0 rfl)) ?_; clear T ac; intro ac T
   refine lw T (wanted_yes rfl rfl (T.ev 0 rfl) rfl) (rn_move rfl (T.ev 25 rfl)) ?_; clear T ac; intro ac T
   refine lw T (wanted_yes rfl rfl (T.ev 1 rfl) rfl) (rn_not rfl (T.ev 0 rfl)) ?_; clear T ac; intro ac T
   refine lw T (wanted_yes rfl rfl (T.ev 2 rfl) rfl) (rn_move rfl (T.ev 0 rfl)) ?_; clear T ac; intro ac T
   refine lw T (wanted_yes rfl rfl (T.ev 0 rfl) (by rw [show bu4 = false from h3]; try rfl)) (rn_move rfl (T.ev 26 rfl)) ?_; clear T ac; intro ac T
   refine lw T (wanted_yes rfl rfl (T.ev 1 rfl) (by rw [show bu4 = false from h3]; try rfl)) (rn_eql rfl (T.ev 0 rfl) evc) ?_; clear T ac; intro ac T
   refine lw T (wanted_yes rfl rfl (T.ev 2 rfl) (by rw [show bu4 = false from h3]; try rfl)) (rn_move rfl (T.ev 27 rfl)) ?_; clear T ac; intro ac T
   refine lw T (wanted_yes rfl rfl (T.ev 3 rfl) (by rw [show bu4 = false from h3]; try rfl)) (rn_neq rfl (T.ev 0 rfl) evc) ?_; clear T ac; intro ac T
   refine lw (v := (.bool (!((decide (pE = 0)) == (!(decide ((fitV s lxu3) = 2))))))) T (wanted_yes rfl rfl (T.ev 4 rfl) (by rw [show bu4 = false from h3]; try rfl)) (rn_bin rfl (T.ev 2 rfl) (T.ev 0 rfl) (by kernel_rfl)) ?_; clear T ac; intro ac T
   refine lw T (wanted_yes rfl rfl (T.ev 8 rfl) rfl) (rn_pick1 rfl (T.ev 5 rfl) (by rw [show bu4 = false from h3]; try rfl) (T.ev 0 rfl)) ?_; clear T ac; intro ac T
   refine lq T (rn_pick0 rfl (T.ev 9 rfl) rfl (T.ev 0 rfl)) ?_; clear T ac; intro ac T
   refine wpList_nil ?_
   replace T := T.pick [0, 33, 34, 35, 36, 37] rfl
   exact ⟨(T.pick (E' := [(4, .pointer (some ⟨g1, 0, none⟩)), (5, .slice AXu3 lxu3.length cXu3), (6, .bool bu4), (7, .slice APu5 ((planL s lxu3 bu4).length) cPu5), (8, .int .i64 pE), (78, .bool (!((decide (pE = 0)) == (!(decide ((fitV s lxu3) = 2))))))]) [5, 4, 3, 2, 1, 0] rfl).as (by (try rw [show (!(decide (pE = 0))) = true from (by simp [h1])]); (try rw [show (!(decide (pE = 11))) = false from (by simp [h2])]); (try rw [show bu4 = false from h3]); (try rfl)), M.mask [true] rfl⟩
  replace h1 : pE = 0 := by first | (rw [Bool.not_eq_false'] at h1; exact of_decide_eq_true h1) | simpa using h1
  refine lp T (wanted_no rfl rfl (T.ev 0 rfl) (by simp [h1])) ?_; clear T ac; intro ac T
  refine lp T (wanted_no rfl rfl (T.ev 1 rfl) (by simp [h1])) ?_; clear T ac; intro ac T
  refine lw T (wanted_yes rfl rfl (T.ev 5 rfl) rfl) (rn_pick0 rfl (T.ev 2 rfl) (by simp [h1]) evc) ?_; clear T ac; intro ac T
  refine lq T (rn_pick0 rfl (T.ev 6 rfl) rfl (T.ev 0 rfl)) ?_; clear T ac; intro ac T
  refine lq T (rn_move rfl (T.ev 0 rfl)) ?_; clear T ac; intro ac T
  refine lw T (wanted_yes rfl rfl (T.ev 0 rfl) rfl) (rn_move rfl (T.ev 15 rfl)) ?_; clear T ac; intro ac T
  refine lw T (wanted_yes rfl rfl (T.ev 1 rfl) rfl) (rn_move rfl (T.ev 0 rfl)) ?_; clear T ac; intro ac T
  rcases Bool.eq_false_or_eq_true bu4 with h5 | h5
  ·refine lw T (wanted_yes rfl rfl (T.ev 0 rfl) h5) (rn_move rfl (T.ev 15 rfl)) ?_; clear T ac; intro ac T
   refine lw T (wanted_yes rfl rfl (T.ev 1 rfl) h5) (rn_eql rfl (T.ev 0 rfl) evc) ?_; clear T ac; intro ac T
   refine lw T (wanted_yes rfl rfl (T.ev 2 rfl) h5) (rn_move rfl (T.ev 16 rfl)) ?_; clear T ac; intro ac T
   refine lw T (wanted_yes rfl rfl (T.ev 3 rfl) h5) (rn_eql rfl (T.ev 0 rfl) evc) ?_; clear T ac; intro ac T
   refine lw (v := (.bool (!((decide (pE = 0)) == (decide ((fitV s lxu3) = 1)))))) T (wanted_yes rfl rfl (T.ev 4 rfl) h5) (rn_bin rfl (T.ev 2 rfl) (T.ev 0 rfl) (by kernel_rfl)) ?_; clear T ac; intro ac T
   refine lw T (wanted_yes rfl rfl (T.ev 7 rfl) rfl) (rn_pick1 rfl (T.ev 5 rfl) h5 (T.ev 0 rfl)) ?_; clear T ac; intro ac T
   refine lq T (rn_pick0 rfl (T.ev 8 rfl) rfl (T.ev 0 rfl)) ?_; clear T ac; intro ac T
   refine lq T (rn_move rfl (T.ev 0 rfl)) ?_; clear T ac; intro ac T
   rcases Bool.eq_false_or_eq_true (!((decide (pE = 0)) == (decide ((fitV s lxu3) = 1)))) with h6 | h6
   ·refine lp T (wanted_no rfl rfl (T.ev 0 rfl) h6) ?_; clear T ac; intro ac T
    refine lp T (wanted_no rfl rfl (T.ev 1 rfl) h6) ?_; clear T ac; intro ac T
    refine lp T (wanted_no rfl rfl (T.ev 2 rfl) h6) ?_; clear T ac; intro ac T
    refine lp T (wanted_un rfl rfl (T.ev 0 rfl)) ?_; clear T ac; intro ac T
    refine lp T (wanted_un rfl rfl (T.ev 1 rfl)) ?_; clear T ac; intro ac T
    refine lp T (wanted_un rfl rfl (T.ev 2 rfl)) ?_; clear T ac; intro ac T
    refine lp T (wanted_un rfl rfl (T.ev 3 rfl)) ?_; clear T ac; intro ac T
    refine lp T (wanted_un rfl rfl (T.ev 4 rfl)) ?_; clear T ac; intro ac T
    refine lp T (wanted_no rfl rfl (T.ev 8 rfl) h6) ?_; clear T ac; intro ac T
    refine lq T (rn_pick1 rfl (T.ev 9 rfl) h6 evc) ?_; clear T ac; intro ac T
    refine wpList_nil ?_
    replace T := T.pick [0, 33, 34, 35, 36, 37] rfl
    exact ⟨(T.pick (E' := [(4, .pointer (some ⟨g1, 0, none⟩)), (5, .slice AXu3 lxu3.length cXu3), (6, .bool bu4), (7, .slice APu5 ((planL s lxu3 bu4).length) cPu5), (8, .int .i64 pE), (78, .bool true)]) [5, 4, 3, 2, 1, 0] rfl).as (by (try rw [show (!(decide (pE = 0))) = false from (by simp [h1])]); (try rw [show bu4 = true from h5]); (try rw [show (!((decide (pE = 0)) == (decide ((fitV s lxu3) = 1)))) = true from h6]); (try rfl)), M.mask [true] rfl⟩
   refine lw T (wanted_yes rfl rfl (T.ev 0 rfl) h6) (rn_move rfl (T.ev 25 rfl)) ?_; clear T ac; intro ac T
   refine lw T (wanted_yes rfl rfl (T.ev 1 rfl) h6) (rn_not rfl (T.ev 0 rfl)) ?_; clear T ac; intro ac T
   refine lw T (wanted_yes rfl rfl (T.ev 2 rfl) h6) (rn_move rfl (T.ev 0 rfl)) ?_; clear T ac; intro ac T
   refine lp T (wanted_no rfl rfl (T.ev 0 rfl) (by rw [show bu4 = true from h5]; try rfl)) ?_; clear T ac; intro ac T
   refine lp T (wanted_no rfl rfl (T.ev 1 rfl) (by rw [show bu4 = true from h5]; try rfl)) ?_; clear T ac; intro ac T
   refine lp T (wanted_no rfl rfl (T.ev 2 rfl) (by rw [show bu4 = true from h5]; try rfl)) ?_; clear T ac; intro ac T
   refine lp T (wanted_no rfl rfl (T.ev 3 rfl) (by rw [show bu4 = true from h5]; try rfl)) ?_; clear T ac; intro ac T
   refine lp T (wanted_no rfl rfl (T.ev 4 rfl) (by rw [show bu4 = true from h5]; try rfl)) ?_; clear T ac; intro ac T
   refine lw T (wanted_yes rfl rfl (T.ev 8 rfl) h6) (rn_pick0 rfl (T.ev 5 rfl) (by rw [show bu4 = true from h5]; try rfl) evc) ?_; clear T ac; intro ac T
   refine lq T (rn_pick0 rfl (T.ev 9 rfl) h6 (T.ev 0 rfl)) ?_; clear T ac; intro ac T
   refine wpList_nil ?_
   replace T := T.pick [0, 33, 34, 35, 36, 37] rfl
   exact ⟨(T.pick (E' := [(4, .pointer (some ⟨g1, 0, none⟩)), (5, .slice AXu3 lxu3.length cXu3), (6, .bool bu4), (7, .slice APu5 ((planL s lxu3 bu4).length) cPu5), (8, .int .i64 pE), (78, .bool false)]) [5, 4, 3, 2, 1, 0] rfl).as (by (try rw [show (!(decide (pE = 0))) = false from (by simp [h1])]); (try rw [show bu4 = true from h5]); (try rw [show (!((decide (pE = 0)) == (decide ((fitV s lxu3) = 1)))) = false from h6]); (try rfl)), M.mask [true] rfl⟩
  refine lp T (wanted_no rfl rfl (T.ev 0 rfl) h5) ?_; clear T ac; intro ac T
  refine lp T (wanted_no rfl rfl (T.ev 1 rfl) h5) ?_; clear T ac; intro ac T
  refine lp T (wanted_no rfl rfl (T.ev 2 rfl) h5) ?_; clear T ac; intro ac T
  refine lp T (wanted_no rfl rfl (T.ev 3 rfl) h5) ?_; clear T ac; intro ac T
  refine lp T (wanted_no rfl rfl (T.ev 4 rfl) h5) ?_; clear T ac; intro ac T
  refine lw T (wanted_yes rfl rfl (T.ev 7 rfl) rfl) (rn_pick0 rfl (T.ev 5 rfl) h5 evc) ?_; clear T ac; intro ac T
  refine lq T (rn_pick0 rfl (T.ev 8 rfl) rfl (T.ev 0 rfl)) ?_; clear T ac; intro ac T
  refine lq T (rn_move rfl (T.ev 0 rfl)) ?_; clear T ac; intro ac T
  refine lw T (wanted_yes rfl rfl (T.ev 0 rfl) rfl) (rn_move rfl (T.ev 25 rfl)) ?_; clear T ac; intro ac T
  refine lw T (wanted_yes rfl rfl (T.ev 1 rfl) rfl) (rn_not rfl (T.ev 0 rfl)) ?_; clear T ac; intro ac T
  refine lw T (wanted_yes rfl rfl (T.ev 2 rfl) rfl) (rn_move rfl (T.ev 0 rfl)) ?_; clear T ac; intro ac T
  refine lw T (wanted_yes rfl rfl (T.ev 0 rfl) (by rw [show bu4 = false from h5]; try rfl)) (rn_move rfl (T.ev 26 rfl)) ?_; clear T ac; intro ac T
  refine lw T (wanted_yes rfl rfl (T.ev 1 rfl) (by rw [show bu4 = false from h5]; try rfl)) (rn_eql rfl (T.ev 0 rfl) evc) ?_; clear T ac; intro ac T
  refine lw T (wanted_yes rfl rfl (T.ev 2 rfl) (by rw [show bu4 = false from h5]; try rfl)) (rn_move rfl (T.ev 27 rfl)) ?_; clear T ac; intro ac T
  refine lw T (wanted_yes rfl rfl (T.ev 3 rfl) (by rw [show bu4 = false from h5]; try rfl)) (rn_neq rfl (T.ev 0 rfl) evc) ?_; clear T ac; intro ac T
  refine lw (v := (.bool (!((decide (pE = 0)) == (!(decide ((fitV s lxu3) = 2))))))) T (wanted_yes rfl rfl (T.ev 4 rfl) (by rw [show bu4 = false from h5]; try rfl)) (rn_bin rfl (T.ev 2 rfl) (T.ev 0 rfl) (by kernel_rfl)) ?_; clear T ac; intro ac T
  refine lw T (wanted_yes rfl rfl (T.ev 8 rfl) rfl) (rn_pick1 rfl (T.ev 5 rfl) (by rw [show bu4 = false from h5]; try rfl) (T.ev 0 rfl)) ?_; clear T ac; intro ac T
  refine lq T (rn_pick0 rfl (T.ev 9 rfl) rfl (T.ev 0 rfl)) ?_; clear T ac; intro ac T
  refine wpList_nil ?_
  replace T := T.pick [0, 33, 34, 35, 36, 37] rfl
  exact ⟨(T.pick (E' := [(4, .pointer (some ⟨g1, 0, none⟩)), (5, .slice AXu3 lxu3.length cXu3), (6, .bool bu4), (7, .slice APu5 ((planL s lxu3 bu4).length) cPu5), (8, .int .i64 pE), (78, .bool (!((decide (pE = 0)) == (!(decide ((fitV s lxu3) = 2))))))]) [5, 4, 3, 2, 1, 0] rfl).as (by (try rw [show (!(decide (pE = 0))) = false from (by simp [h1])]); (try rw [show bu4 = false from h5]); (try rfl)), M.mask [true] rfl⟩
 clear T M
 rintro ac wc ⟨T, M⟩
 refine wp_cond_split (T.ev 5 rfl) ?_ ?_
 ·intro h7
  exfalso
  exact absurd h7 (by rw [pf_test pf1 pf3 pf4]; decide)
 intro h7
 (try have h7' := h7; try simp only [Bool.and_eq_true, Bool.or_eq_true, Bool.not_eq_true', Bool.and_eq_false_imp, Bool.or_eq_false_iff, decide_eq_true_eq, decide_eq_false_iff_not] at h7')
 refine wp_skip ?_
 refine nm_then ?_
 refine wp_seq ?_
 refine wp_seq ?_
 refine wp_region_lit ?_
 refine lq T (rn_move rfl (T.ev 4 rfl)) ?_; clear T ac; intro ac T
 refine lq T (rn_neq rfl (T.ev 0 rfl) evc) ?_; clear T ac; intro ac T
 refine wpList_nil ?_
 replace T := T.pick [0, 2, 3, 4, 5] rfl
 refine nm_then ?_
 refine wp_ifn (T.ev 0 rfl) ?_ ?_
 ·intro h8
  have hpl0 := pf2 (by omega)
  refine wp_seq ?_
  refine wp_region_lit ?_
  refine lq T (rn_move rfl (T.ev 4 rfl)) ?_; clear T ac; intro ac T
  refine lq T (rn_lenS rfl Tryd.underlying28 (T.ev 0 rfl)) ?_; clear T ac; intro ac T
  refine lq T (rn_eql rfl (T.ev 0 rfl) evc) ?_; clear T ac; intro ac T
  refine lq T (rn_move rfl (T.ev 0 rfl)) ?_; clear T ac; intro ac T
  refine l_w (wanted_yes rfl rfl (T.ev 0 rfl) (decide_eq_true (by omega))) ?_; intro K hK
  refine ow_call (first := []) (cap := []) T rfl rfl rfl rfl evf .nil Tryd.func17 rfl rfl ?_
  refine Calls.mono (sawn8_any _ (hT.mem M (fun h => h))) ?_
  clear T
  rintro e wc ⟨rfl, hb⟩
  intro ac T
  replace M := M.call hb; clear hb
  refine sh_out hK _ _ ?_; clear hK K
  refine lq T (rn_pick1 rfl (T.ev 1 rfl) (decide_eq_true (by omega)) (T.ev 0 rfl)) ?_; clear T ac; intro ac T
  refine lq T (rn_assign rfl (T.ev 0 rfl)) ?_; clear T ac; intro ac T
  refine wpList_nil ?_
  replace T := T.pick [0] rfl
  replace M := M.mask [false] rfl
  replace M : Mem w noEx wc ((IKu2 ++ IXu3 ++ IPu5)) := M
  refine nm_then ?_
  refine wp_ret ?_
  refine rt_then ?_
  refine rt_1 T rfl (T.ev 0 rfl) ?_
  exact ⟨ret_bool (by first | (exfalso; omega) | simp_all), M.below⟩
 intro h8
 have hE0 : planE s lxu3 bu4 = 0 := by omega
 obtain ⟨pc1, pc2, pc3, pc4, pc5⟩ := plan_law (su := bu4) hsgs hixu3.1.1 hixu3.1.2 hE0
 obtain ⟨hcb1, hcb2⟩ := cut_bd hsgs bu4
 refine wp_skip ?_
 refine nm_then ?_
 refine wp_seq ?_
 refine wp_region_lit ?_
 refine lq T (rn_rowO (Mem.nth M 0 rfl) rfl (T.ev 1 rfl) rfl) ?_; clear T ac; intro ac T
 refine lq T (rn_move rfl (T.ev 3 rfl)) ?_; clear T ac; intro ac T
 refine lq T (rn_move rfl (T.ev 6 rfl)) ?_; clear T ac; intro ac T
 refine lq T (rn_move rfl (T.ev 6 rfl)) ?_; clear T ac; intro ac T
 refine l_w rfl ?_; intro K hK
 refine ow_call (first := []) (cap := []) T rfl rfl rfl rfl evf (.cons (T.ev 3 rfl) (.cons (T.ev 2 rfl) (.cons (T.ev 1 rfl) (.cons (T.ev 0 rfl) .nil)))) Tryd.func27 rfl rfl ?_
 refine Calls.mono (Cuts_any s AKu2 cKu2 AXu3 cXu3 lxu3 APu5 cPu5 (planL s lxu3 bu4) bu4 _ (SAKu2.rd M (.cons _ (subL (subL (List.Sublist.refl _))))) (SAXu3.rd M (.cons _ (subL (List.sublist_append_right _ _)))) (by omega) (by omega) (by omega) (SAPu5.rd M (.cons _ (List.sublist_append_right _ _))) (by omega)) ?_
 clear T
 rintro e wc ⟨rfl, hb⟩
 intro ac T
 rw [pc2, pc3] at T
 replace M := M.call hb; clear hb
 refine sh_out hK _ _ ?_; clear hK K
 refine lq T (rn_move rfl (T.ev 0 rfl)) ?_; clear T ac; intro ac T
 refine lq T (rn_extract rfl (T.ev 0 rfl) rfl) ?_; clear T ac; intro ac T
 refine lq T (rn_extract rfl (T.ev 1 rfl) rfl) ?_; clear T ac; intro ac T
 refine lq T (rn_assign rfl (T.ev 1 rfl)) ?_; clear T ac; intro ac T
 refine lq T (rn_assign rfl (T.ev 1 rfl)) ?_; clear T ac; intro ac T
 refine wpList_nil ?_
 replace T := T.pick [0, 1, 11, 12, 13, 14] rfl
 refine nm_then ?_
 refine wp_seq ?_
 refine wp_seq ?_
 refine wp_region_lit ?_
 refine lq T (rn_move rfl (T.ev 0 rfl)) ?_; clear T ac; intro ac T
 refine lq (v := (.bool false)) T (rn_neqof (rn_neq rfl (T.ev 0 rfl) evc) (by simp)) ?_; clear T ac; intro ac T
 refine lq T (rn_move rfl (T.ev 0 rfl)) ?_; clear T ac; intro ac T
 refine lw T (wanted_yes rfl rfl (T.ev 0 rfl) rfl) (rn_move rfl (T.ev 4 rfl)) ?_; clear T ac; intro ac T
 refine lw (v := (.bool false)) T (wanted_yes rfl rfl (T.ev 1 rfl) rfl) (rn_neqof (rn_not rfl (T.ev 0 rfl)) (by simp)) ?_; clear T ac; intro ac T
 refine lq T (rn_pick0 rfl (T.ev 2 rfl) rfl (T.ev 0 rfl)) ?_; clear T ac; intro ac T
 refine lq T (rn_move rfl (T.ev 0 rfl)) ?_; clear T ac; intro ac T
 refine lw T (wanted_yes rfl rfl (T.ev 0 rfl) rfl) (rn_move rfl (T.ev 12 rfl)) ?_; clear T ac; intro ac T
 refine lw T (wanted_yes rfl rfl (T.ev 1 rfl) rfl) (rn_lenS rfl Tryd.underlying28 (T.ev 0 rfl)) ?_; clear T ac; intro ac T
 refine lw T (wanted_yes rfl rfl (T.ev 2 rfl) rfl) (rn_move rfl (T.ev 12 rfl)) ?_; clear T ac; intro ac T
 refine lw T (wanted_yes rfl rfl (T.ev 3 rfl) rfl) (rn_lenS rfl Tryd.underlying27 (T.ev 0 rfl)) ?_; clear T ac; intro ac T
 refine lw T (wanted_yes rfl rfl (T.ev 4 rfl) rfl) (rn_neq rfl (T.ev 2 rfl) (T.ev 0 rfl)) ?_; clear T ac; intro ac T
 refine lq T (rn_pick0 rfl (T.ev 5 rfl) rfl (T.ev 0 rfl)) ?_; clear T ac; intro ac T
 refine wpList_nil ?_
 replace T := T.pick [0, 15, 16, 17, 18] rfl
 refine nm_then ?_
 refine wp_cond_false ((T.ev 0 rfl).trans (congrArg Value.bool (by rw [show (decide ((((planL s lxu3 bu4).length : Nat) : Int) = ((lxu3.length : Nat) : Int))) = true from (decide_eq_true (by omega))]; try rfl))) ?_
 refine wp_skip ?_
 refine nm_then ?_
 refine wp_seq ?_
 refine wp_seq ?_
 refine wp_region_lit ?_
 refine lq T (rn_assign rfl evc) ?_; clear T ac; intro ac T
 refine wpList_nil ?_
 replace T := T.pick [0, 2, 3, 4, 5] rfl
 refine nm_then ?_
 refine wp_block ?_
 refine wp_loop_n (fun mz ac wc => ∃ (i : Nat), mz = lxu3.length - i ∧ (i ≤ lxu3.length) ∧ Tm ac 272 [(4, .pointer (some ⟨g1, 0, none⟩)), (5, .slice AXu3 lxu3.length cXu3), (6, .bool bu4), (7, .slice APu5 ((planL s lxu3 bu4).length) cPu5), (13, .int .i64 (i : Int))] ∧ Mem w noEx wc ((g1, .cells [.int .i64 s.lo, .int .i64 s.wi, .int .i64 s.a0, .int .i64 s.a1, .int .i64 s.c0, .int .i64 s.c1, .slice AKu2 s.ps.length cKu2]) :: (IKu2 ++ IXu3 ++ IPu5))) ?_ ?_
 ·exact ⟨_, 0, rfl, (Nat.zero_le _), T.pick [1, 2, 3, 4, 0] rfl, M.mask [true] rfl⟩
 clear T M
 rintro mz ac wc ⟨i, hmm1, hi, T, M⟩
 refine wp_seq ?_
 refine wp_seq ?_
 refine wp_region_lit ?_
 refine lq T (rn_move rfl (T.ev 4 rfl)) ?_; clear T ac; intro ac T
 refine lq T (rn_move rfl (T.ev 4 rfl)) ?_; clear T ac; intro ac T
 refine lq T (rn_lenS rfl Tryd.underlying28 (T.ev 0 rfl)) ?_; clear T ac; intro ac T
 refine lq T (rn_lss rfl (T.ev 2 rfl) (T.ev 0 rfl)) ?_; clear T ac; intro ac T
 refine wpList_nil ?_
 replace T := T.pick [0, 4, 5, 6, 7, 8] rfl
 refine nm_then ?_
 refine wp_if (T.ev 0 rfl) ?_ ?_
 ·intro h9
  obtain ⟨v9, hkv9, -⟩ := ic_next (l := lxu3) (k := i) (by omega)
  have hv9 := hixu3.1.1 v9 (List.mem_of_getElem? hkv9)
  obtain ⟨m9, hm9⟩ : ∃ m : Nat, v9 = (m : Int) := ⟨v9.toNat, by omega⟩
  obtain ⟨p, hkp, -⟩ := pc_next (l := s.ps) (k := m9) (by omega)
  obtain ⟨q, hkq⟩ : ∃ q, ((planL s lxu3 bu4))[i]? = some q := ⟨_, List.getElem?_eq_getElem (by omega)⟩
  have hgp9 := gP_at hkv9 hm9 hkp
  have hbd9 := pc4 i p q hgp9 hkq
  have hb90 : (q.t && p.gr) = false := by simp only [badP, Bool.or_eq_false_iff] at hbd9; exact hbd9.1.1
  obtain ⟨⟨hb91, hb92⟩, hb93, hb94⟩ := bad_not hbd9
  obtain ⟨hb95, hb96⟩ := size_pos (a := cutA s bu4) (c := cutC s bu4) hcb1.1 hcb2.1 (hsgs.ps p (List.mem_of_getElem? hkp)) q.t
  refine wp_skip ?_
  refine nm_then ?_
  refine wp_seq ?_
  refine wp_block ?_
  refine wp_seq ?_
  refine g_start2 M (M.mask [true] rfl) 19 (by kernel_rfl) rfl (by kernel_rfl) ?_
  clear M; intro wc M
  refine gq T 0 1 rfl (fun B w' hD hl hS => (rn_rowO (Mem.nth (show Mem w noEx w' _ from hS) 0 rfl) rfl (T.ev 1 rfl) rfl)) ?_; clear T ac; intro ac T
  refine gq T 1 3 rfl (fun _ _ _ _ _ => (rn_move rfl (T.ev 3 rfl))) ?_; clear T ac; intro ac T
  refine gq T 2 7 rfl (fun _ _ _ _ _ => (rn_move rfl (T.ev 7 rfl))) ?_; clear T ac; intro ac T
  refine gq T 3 15 rfl (fun _ _ _ _ _ => (rn_indexAddr (size := 1) i rfl (T.ev 1 rfl) (T.ev 0 rfl) ⟨_, Tryd.underlying27, by kernel_rfl⟩ rfl (by omega) (SAXu3.at0 (by omega)))) ?_; clear T ac; intro ac T
  refine gq T 4 31 rfl (fun B w' hD hl hS => (rn_cell (Sp.ic0 SAXu3 (show Mem w noEx w' _ from hS) (.cons _ (subL (List.sublist_append_right _ _))) hkv9) rfl (T.ev 0 rfl))) ?_; clear T ac; intro ac T
  refine gq T 5 63 rfl (fun _ _ _ _ _ => (rn_move rfl (T.ev 9 rfl))) ?_; clear T ac; intro ac T
  refine gq T 6 127 rfl (fun _ _ _ _ _ => (rn_move rfl (T.ev 11 rfl))) ?_; clear T ac; intro ac T
  refine gq T 7 255 rfl (fun _ _ _ _ _ => (rn_indexAddr (size := 3) i rfl (T.ev 1 rfl) (T.ev 0 rfl) ⟨_, Tryd.underlying28, by kernel_rfl⟩ rfl (by omega) (SAPu5.at0 (by omega)))) ?_; clear T ac; intro ac T
  refine gq T 8 511 rfl (fun _ _ _ _ _ => (rn_fieldAddr (off := 2) rfl (T.ev 0 rfl) (fun _ _ _ => by kernel_rfl))) ?_; clear T ac; intro ac T
  refine gq T 9 1023 rfl (fun B w' hD hl hS => (rn_cell (Sp.tcC2 SAPu5 (show Mem w noEx w' _ from hS) (.cons _ (List.sublist_append_right _ _)) hkq) rfl (T.ev 0 rfl))) ?_; clear T ac; intro ac T
  refine gq T 10 2047 rfl (fun _ _ _ _ _ => (rn_move rfl (T.ev 13 rfl))) ?_; clear T ac; intro ac T
  refine gw 11 4095 ?_; intro K hK
  refine ow_call (first := []) (cap := []) T rfl rfl rfl rfl evf (.cons (T.ev 10 rfl) (.cons (T.ev 6 rfl) (.cons (T.ev 1 rfl) (.cons (T.ev 0 rfl) .nil)))) Tryd.func56 rfl rfl ?_
  refine Calls.mono (Size_any s AKu2 cKu2 v9 q.t bu4 _ (SAKu2.rd M (.cons _ (subL (subL (List.Sublist.refl _))))) (by omega)) ?_
  clear T
  rintro e wc ⟨rfl, hb⟩
  intro ac T
  obtain ⟨z1, z2⟩ := sz_law hsgs hkp q.t bu4
  rw [← hm9] at z1 z2
  have z0 : (q.t && p.gr) = false := hb90
  obtain ⟨z2, z3⟩ := z2 z0
  rw [z0] at z1
  rw [z2, z3, show szE s v9 q.t = 0 from z1] at T
  clear z0 z1 z2 z3
  replace M := M.call hb; clear hb
  refine sh_out hK _ _ (M.mask [true] rfl) ?_; clear hK K
  refine gq T 12 8191 rfl (fun _ _ _ _ _ => (rn_move rfl (T.ev 0 rfl))) ?_; clear T ac; intro ac T
  refine gq T 13 16383 rfl (fun _ _ _ _ _ => (rn_extract rfl (T.ev 0 rfl) rfl)) ?_; clear T ac; intro ac T
  refine gq T 14 32767 rfl (fun _ _ _ _ _ => (rn_extract rfl (T.ev 1 rfl) rfl)) ?_; clear T ac; intro ac T
  refine gq T 15 65535 rfl (fun _ _ _ _ _ => (rn_extract rfl (T.ev 2 rfl) rfl)) ?_; clear T ac; intro ac T
  refine gq T 16 131071 rfl (fun _ _ _ _ _ => (rn_assign rfl (T.ev 2 rfl))) ?_; clear T ac; intro ac T
  refine gq T 17 262143 rfl (fun _ _ _ _ _ => (rn_assign rfl (T.ev 2 rfl))) ?_; clear T ac; intro ac T
  refine gq T 18 524287 rfl (fun _ _ _ _ _ => (rn_assign rfl (T.ev 2 rfl))) ?_; clear T ac; intro ac T
  refine g_done (by kernel_rfl) ?_
  replace T := T.pick [0, 1, 2, 20, 21, 22, 23, 24] rfl
  refine nm_then ?_
  refine wp_seq ?_
  refine cut_seq (fun ac wc => Tm ac 272 [(4, .pointer (some ⟨g1, 0, none⟩)), (5, .slice AXu3 lxu3.length cXu3), (6, .bool bu4), (7, .slice APu5 ((planL s lxu3 bu4).length) cPu5), (13, .int .i64 (i : Int)), (14, .int .i64 (sizeL (cutA s bu4) (cutC s bu4) p q.t)), (15, .int .i64 (sizeW (cutA s bu4) (cutC s bu4) p q.t)), (133, .slice APu5 ((planL s lxu3 bu4).length) cPu5), (134, .int .i64 (i : Int)), (135, .pointer (some ⟨bAPu5, oAPu5 + i * 3, none⟩)), (136, .pointer (some ⟨bAPu5, oAPu5 + i * 3 + 0, none⟩)), (137, .int .i64 q.x), (138, .bool (decide (q.x < 0))), (171, .bool ((decide (q.x < 0)) || ((decide (q.y < 0)) || ((decide (s.lo < (q.x + (sizeL (cutA s bu4) (cutC s bu4) p q.t)))) || (decide (s.wi < (q.y + (sizeW (cutA s bu4) (cutC s bu4) p q.t))))))))] ∧ Mem w noEx wc ((g1, .cells [.int .i64 s.lo, .int .i64 s.wi, .int .i64 s.a0, .int .i64 s.a1, .int .i64 s.c0, .int .i64 s.c1, .slice AKu2 s.ps.length cKu2]) :: (IKu2 ++ IXu3 ++ IPu5))) ?_ ?_
  ·refine g_start2 M (M.mask [true] rfl) 42 (by kernel_rfl) rfl (by kernel_rfl) ?_
   clear M; intro wc M
   refine gq T 0 1 rfl (fun _ _ _ _ _ => (rn_move rfl (T.ev 0 rfl))) ?_; clear T ac; intro ac T
   refine gq (v := (.bool false)) T 1 3 rfl (fun _ _ _ _ _ => (rn_neqof (rn_neq rfl (T.ev 0 rfl) evc) (by simp))) ?_; clear T ac; intro ac T
   refine gq T 2 7 rfl (fun _ _ _ _ _ => (rn_move rfl (T.ev 0 rfl))) ?_; clear T ac; intro ac T
   refine g_q (T := T) (i := 3) rfl (by kernel_rfl) (by kernel_rfl : (pbits 42 7).setIfInBounds 3 true = pbits 42 15) si_U (fun _ _ _ h => h) (wanted_yes rfl rfl (T.ev 0 rfl) rfl) rfl rfl rfl (fun _ _ _ _ _ => (rn_move rfl (T.ev 9 rfl))) ?_; clear T ac; intro ac T
   refine g_q (T := T) (i := 4) rfl (by kernel_rfl) (by kernel_rfl : (pbits 42 15).setIfInBounds 4 true = pbits 42 31) si_U (fun _ _ _ h => h) (wanted_yes rfl rfl (T.ev 1 rfl) rfl) rfl rfl rfl (fun _ _ _ _ _ => (rn_move rfl (T.ev 11 rfl))) ?_; clear T ac; intro ac T
   refine g_q (T := T) (i := 5) rfl (by kernel_rfl) (by kernel_rfl : (pbits 42 31).setIfInBounds 5 true = pbits 42 63) si_U (fun _ _ _ h => h) (wanted_yes rfl rfl (T.ev 2 rfl) rfl) rfl rfl rfl (fun _ _ _ _ _ => (rn_indexAddr (size := 3) i rfl (T.ev 1 rfl) (T.ev 0 rfl) ⟨_, Tryd.underlying28, by kernel_rfl⟩ rfl (by omega) (SAPu5.at0 (by omega)))) ?_; clear T ac; intro ac T
   refine g_q (T := T) (i := 6) rfl (by kernel_rfl) (by kernel_rfl : (pbits 42 63).setIfInBounds 6 true = pbits 42 127) si_U (fun _ _ _ h => h) (wanted_yes rfl rfl (T.ev 3 rfl) rfl) rfl rfl rfl (fun _ _ _ _ _ => (rn_fieldAddr (off := 0) rfl (T.ev 0 rfl) (fun _ _ _ => by kernel_rfl))) ?_; clear T ac; intro ac T
   refine g_q (T := T) (i := 7) rfl (by kernel_rfl) (by kernel_rfl : (pbits 42 127).setIfInBounds 7 true = pbits 42 255) si_U (fun _ _ _ h => h) (wanted_yes rfl rfl (T.ev 4 rfl) rfl) rfl rfl rfl (fun B w' hD hl hS => (rn_cell (Sp.tcC0 SAPu5 (show Mem w noEx w' _ from hS) (.cons _ (List.sublist_append_right _ _)) hkq) rfl (T.ev 0 rfl))) ?_; clear T ac; intro ac T
   refine g_q (T := T) (i := 8) rfl (by kernel_rfl) (by kernel_rfl : (pbits 42 255).setIfInBounds 8 true = pbits 42 511) si_U (fun _ _ _ h => h) (wanted_yes rfl rfl (T.ev 5 rfl) rfl) rfl rfl rfl (fun _ _ _ _ _ => (rn_lss rfl (T.ev 0 rfl) evc)) ?_; clear T ac; intro ac T
   refine gq T 9 1023 rfl (fun _ _ _ _ _ => (rn_pick0 rfl (T.ev 6 rfl) rfl (T.ev 0 rfl))) ?_; clear T ac; intro ac T
   refine gq T 10 2047 rfl (fun _ _ _ _ _ => (rn_move rfl (T.ev 0 rfl))) ?_; clear T ac; intro ac T
   rcases Bool.eq_false_or_eq_true (decide (q.x < 0)) with h10 | h10
   ·replace h10 := of_decide_eq_true h10
    refine g_pass (T := T) (i := 11) rfl (by kernel_rfl) (by kernel_rfl : (pbits 42 2047).setIfInBounds 11 true = pbits 42 4095) si_U (fun _ _ _ h => h) (wanted_no rfl rfl (T.ev 0 rfl) (decide_eq_true h10)) rfl rfl rfl ?_; clear T ac; intro ac T
    refine g_pass (T := T) (i := 12) rfl (by kernel_rfl) (by kernel_rfl : (pbits 42 4095).setIfInBounds 12 true = pbits 42 8191) si_U (fun _ _ _ h => h) (wanted_no rfl rfl (T.ev 1 rfl) (decide_eq_true h10)) rfl rfl rfl ?_; clear T ac; intro ac T
    refine g_pass (T := T) (i := 13) rfl (by kernel_rfl) (by kernel_rfl : (pbits 42 8191).setIfInBounds 13 true = pbits 42 16383) si_U (fun _ _ _ h => h) (wanted_no rfl rfl (T.ev 2 rfl) (decide_eq_true h10)) rfl rfl rfl ?_; clear T ac; intro ac T
    refine g_pass (T := T) (i := 14) rfl (by kernel_rfl) (by kernel_rfl : (pbits 42 16383).setIfInBounds 14 true = pbits 42 32767) si_U (fun _ _ _ h => h) (wanted_no rfl rfl (T.ev 3 rfl) (decide_eq_true h10)) rfl rfl rfl ?_; clear T ac; intro ac T
    refine g_pass (T := T) (i := 15) rfl (by kernel_rfl) (by kernel_rfl : (pbits 42 32767).setIfInBounds 15 true = pbits 42 65535) si_U (fun _ _ _ h => h) (wanted_no rfl rfl (T.ev 4 rfl) (decide_eq_true h10)) rfl rfl rfl ?_; clear T ac; intro ac T
    refine g_pass (T := T) (i := 16) rfl (by kernel_rfl) (by kernel_rfl : (pbits 42 65535).setIfInBounds 16 true = pbits 42 131071) si_U (fun _ _ _ h => h) (wanted_no rfl rfl (T.ev 5 rfl) (decide_eq_true h10)) rfl rfl rfl ?_; clear T ac; intro ac T
    refine gq T 17 262143 rfl (fun _ _ _ _ _ => (rn_pick1 rfl (T.ev 6 rfl) (decide_eq_true h10) evc)) ?_; clear T ac; intro ac T
    refine gq T 18 524287 rfl (fun _ _ _ _ _ => (rn_move rfl (T.ev 0 rfl))) ?_; clear T ac; intro ac T
    refine g_pass (T := T) (i := 19) rfl (by kernel_rfl) (by kernel_rfl : (pbits 42 524287).setIfInBounds 19 true = pbits 42 1048575) si_U (fun _ _ _ h => h) (wanted_no rfl rfl (T.ev 0 rfl) rfl) rfl rfl rfl ?_; clear T ac; intro ac T
    refine g_pass (T := T) (i := 20) rfl (by kernel_rfl) (by kernel_rfl : (pbits 42 1048575).setIfInBounds 20 true = pbits 42 2097151) si_U (fun _ _ _ h => h) (wanted_no rfl rfl (T.ev 1 rfl) rfl) rfl rfl rfl ?_; clear T ac; intro ac T
    refine g_pass (T := T) (i := 21) rfl (by kernel_rfl) (by kernel_rfl : (pbits 42 2097151).setIfInBounds 21 true = pbits 42 4194303) si_U (fun _ _ _ h => h) (wanted_no rfl rfl (T.ev 2 rfl) rfl) rfl rfl rfl ?_; clear T ac; intro ac T
    refine g_pass (T := T) (i := 22) rfl (by kernel_rfl) (by kernel_rfl : (pbits 42 4194303).setIfInBounds 22 true = pbits 42 8388607) si_U (fun _ _ _ h => h) (wanted_no rfl rfl (T.ev 3 rfl) rfl) rfl rfl rfl ?_; clear T ac; intro ac T
    refine g_pass (T := T) (i := 23) rfl (by kernel_rfl) (by kernel_rfl : (pbits 42 8388607).setIfInBounds 23 true = pbits 42 16777215) si_U (fun _ _ _ h => h) (wanted_no rfl rfl (T.ev 4 rfl) rfl) rfl rfl rfl ?_; clear T ac; intro ac T
    refine g_pass (T := T) (i := 24) rfl (by kernel_rfl) (by kernel_rfl : (pbits 42 16777215).setIfInBounds 24 true = pbits 42 33554431) si_U (fun _ _ _ h => h) (wanted_no rfl rfl (T.ev 5 rfl) rfl) rfl rfl rfl ?_; clear T ac; intro ac T
    refine g_pass (T := T) (i := 25) rfl (by kernel_rfl) (by kernel_rfl : (pbits 42 33554431).setIfInBounds 25 true = pbits 42 67108863) si_U (fun _ _ _ h => h) (wanted_no rfl rfl (T.ev 6 rfl) rfl) rfl rfl rfl ?_; clear T ac; intro ac T
    refine g_pass (T := T) (i := 26) rfl (by kernel_rfl) (by kernel_rfl : (pbits 42 67108863).setIfInBounds 26 true = pbits 42 134217727) si_U (fun _ _ _ h => h) (wanted_no rfl rfl (T.ev 7 rfl) rfl) rfl rfl rfl ?_; clear T ac; intro ac T
    refine g_pass (T := T) (i := 27) rfl (by kernel_rfl) (by kernel_rfl : (pbits 42 134217727).setIfInBounds 27 true = pbits 42 268435455) si_U (fun _ _ _ h => h) (wanted_no rfl rfl (T.ev 8 rfl) rfl) rfl rfl rfl ?_; clear T ac; intro ac T
    refine g_pass (T := T) (i := 28) rfl (by kernel_rfl) (by kernel_rfl : (pbits 42 268435455).setIfInBounds 28 true = pbits 42 536870911) si_U (fun _ _ _ h => h) (wanted_no rfl rfl (T.ev 9 rfl) rfl) rfl rfl rfl ?_; clear T ac; intro ac T
    refine gq T 29 1073741823 rfl (fun _ _ _ _ _ => (rn_pick1 rfl (T.ev 10 rfl) rfl evc)) ?_; clear T ac; intro ac T
    refine gq T 30 2147483647 rfl (fun _ _ _ _ _ => (rn_move rfl (T.ev 0 rfl))) ?_; clear T ac; intro ac T
    refine g_pass (T := T) (i := 31) rfl (by kernel_rfl) (by kernel_rfl : (pbits 42 2147483647).setIfInBounds 31 true = pbits 42 4294967295) si_U (fun _ _ _ h => h) (wanted_no rfl rfl (T.ev 0 rfl) rfl) rfl rfl rfl ?_; clear T ac; intro ac T
    refine g_pass (T := T) (i := 32) rfl (by kernel_rfl) (by kernel_rfl : (pbits 42 4294967295).setIfInBounds 32 true = pbits 42 8589934591) si_U (fun _ _ _ h => h) (wanted_no rfl rfl (T.ev 1 rfl) rfl) rfl rfl rfl ?_; clear T ac; intro ac T
    refine g_pass (T := T) (i := 33) rfl (by kernel_rfl) (by kernel_rfl : (pbits 42 8589934591).setIfInBounds 33 true = pbits 42 17179869183) si_U (fun _ _ _ h => h) (wanted_no rfl rfl (T.ev 2 rfl) rfl) rfl rfl rfl ?_; clear T ac; intro ac T
    refine g_pass (T := T) (i := 34) rfl (by kernel_rfl) (by kernel_rfl : (pbits 42 17179869183).setIfInBounds 34 true = pbits 42 34359738367) si_U (fun _ _ _ h => h) (wanted_no rfl rfl (T.ev 3 rfl) rfl) rfl rfl rfl ?_; clear T ac; intro ac T
    refine g_pass (T := T) (i := 35) rfl (by kernel_rfl) (by kernel_rfl : (pbits 42 34359738367).setIfInBounds 35 true = pbits 42 68719476735) si_U (fun _ _ _ h => h) (wanted_no rfl rfl (T.ev 4 rfl) rfl) rfl rfl rfl ?_; clear T ac; intro ac T
    refine g_pass (T := T) (i := 36) rfl (by kernel_rfl) (by kernel_rfl : (pbits 42 68719476735).setIfInBounds 36 true = pbits 42 137438953471) si_U (fun _ _ _ h => h) (wanted_no rfl rfl (T.ev 5 rfl) rfl) rfl rfl rfl ?_; clear T ac; intro ac T
    refine g_pass (T := T) (i := 37) rfl (by kernel_rfl) (by kernel_rfl : (pbits 42 137438953471).setIfInBounds 37 true = pbits 42 274877906943) si_U (fun _ _ _ h => h) (wanted_no rfl rfl (T.ev 6 rfl) rfl) rfl rfl rfl ?_; clear T ac; intro ac T
    refine g_pass (T := T) (i := 38) rfl (by kernel_rfl) (by kernel_rfl : (pbits 42 274877906943).setIfInBounds 38 true = pbits 42 549755813887) si_U (fun _ _ _ h => h) (wanted_no rfl rfl (T.ev 7 rfl) rfl) rfl rfl rfl ?_; clear T ac; intro ac T
    refine g_pass (T := T) (i := 39) rfl (by kernel_rfl) (by kernel_rfl : (pbits 42 549755813887).setIfInBounds 39 true = pbits 42 1099511627775) si_U (fun _ _ _ h => h) (wanted_no rfl rfl (T.ev 8 rfl) rfl) rfl rfl rfl ?_; clear T ac; intro ac T
    refine g_pass (T := T) (i := 40) rfl (by kernel_rfl) (by kernel_rfl : (pbits 42 1099511627775).setIfInBounds 40 true = pbits 42 2199023255551) si_U (fun _ _ _ h => h) (wanted_no rfl rfl (T.ev 9 rfl) rfl) rfl rfl rfl ?_; clear T ac; intro ac T
    refine gq T 41 4398046511103 rfl (fun _ _ _ _ _ => (rn_pick1 rfl (T.ev 10 rfl) rfl evc)) ?_; clear T ac; intro ac T
    refine g_done (by kernel_rfl) ?_
    replace T := T.pick [0, 1, 2, 3, 4, 5, 6, 7, 8, 9, 10, 13, 14, 15, 16, 17, 18, 19, 20, 21, 22, 25, 26, 27, 28, 29, 30, 33, 34, 35, 36, 37, 38, 43, 44, 45, 46, 47, 48, 49] rfl
    exact ⟨(T.pick (E' := [(4, .pointer (some ⟨g1, 0, none⟩)), (5, .slice AXu3 lxu3.length cXu3), (6, .bool bu4), (7, .slice APu5 ((planL s lxu3 bu4).length) cPu5), (13, .int .i64 (i : Int)), (14, .int .i64 (sizeL (cutA s bu4) (cutC s bu4) p q.t)), (15, .int .i64 (sizeW (cutA s bu4) (cutC s bu4) p q.t)), (133, .slice APu5 ((planL s lxu3 bu4).length) cPu5), (134, .int .i64 (i : Int)), (135, .pointer (some ⟨bAPu5, oAPu5 + i * 3, none⟩)), (136, .pointer (some ⟨bAPu5, oAPu5 + i * 3 + 0, none⟩)), (137, .int .i64 q.x), (138, .bool (decide (q.x < 0))), (171, .bool true)]) [35, 36, 37, 38, 39, 34, 33, 32, 31, 30, 29, 28, 27, 0] rfl).as (by (try rw [show (decide (q.x < 0)) = true from (decide_eq_true h10)]); (try rfl)), M.mask [true] rfl⟩
   replace h10 := of_decide_eq_false h10
   refine g_q (T := T) (i := 11) rfl (by kernel_rfl) (by kernel_rfl : (pbits 42 2047).setIfInBounds 11 true = pbits 42 4095) si_U (fun _ _ _ h => h) (wanted_yes rfl rfl (T.ev 0 rfl) (decide_eq_false h10)) rfl rfl rfl (fun _ _ _ _ _ => (rn_move rfl (T.ev 17 rfl))) ?_; clear T ac; intro ac T
   refine g_q (T := T) (i := 12) rfl (by kernel_rfl) (by kernel_rfl : (pbits 42 4095).setIfInBounds 12 true = pbits 42 8191) si_U (fun _ _ _ h => h) (wanted_yes rfl rfl (T.ev 1 rfl) (decide_eq_false h10)) rfl rfl rfl (fun _ _ _ _ _ => (rn_move rfl (T.ev 19 rfl))) ?_; clear T ac; intro ac T
   refine g_q (T := T) (i := 13) rfl (by kernel_rfl) (by kernel_rfl : (pbits 42 8191).setIfInBounds 13 true = pbits 42 16383) si_U (fun _ _ _ h => h) (wanted_yes rfl rfl (T.ev 2 rfl) (decide_eq_false h10)) rfl rfl rfl (fun _ _ _ _ _ => (rn_indexAddr (size := 3) i rfl (T.ev 1 rfl) (T.ev 0 rfl) ⟨_, Tryd.underlying28, by kernel_rfl⟩ rfl (by omega) (SAPu5.at0 (by omega)))) ?_; clear T ac; intro ac T
   refine g_q (T := T) (i := 14) rfl (by kernel_rfl) (by kernel_rfl : (pbits 42 16383).setIfInBounds 14 true = pbits 42 32767) si_U (fun _ _ _ h => h) (wanted_yes rfl rfl (T.ev 3 rfl) (decide_eq_false h10)) rfl rfl rfl (fun _ _ _ _ _ => (rn_fieldAddr (off := 1) rfl (T.ev 0 rfl) (fun _ _ _ => by kernel_rfl))) ?_; clear T ac; intro ac T
   refine g_q (T := T) (i := 15) rfl (by kernel_rfl) (by kernel_rfl : (pbits 42 32767).setIfInBounds 15 true = pbits 42 65535) si_U (fun _ _ _ h => h) (wanted_yes rfl rfl (T.ev 4 rfl) (decide_eq_false h10)) rfl rfl rfl (fun B w' hD hl hS => (rn_cell (Sp.tcC1 SAPu5 (show Mem w noEx w' _ from hS) (.cons _ (List.sublist_append_right _ _)) hkq) rfl (T.ev 0 rfl))) ?_; clear T ac; intro ac T
   refine g_q (T := T) (i := 16) rfl (by kernel_rfl) (by kernel_rfl : (pbits 42 65535).setIfInBounds 16 true = pbits 42 131071) si_U (fun _ _ _ h => h) (wanted_yes rfl rfl (T.ev 5 rfl) (decide_eq_false h10)) rfl rfl rfl (fun _ _ _ _ _ => (rn_lss rfl (T.ev 0 rfl) evc)) ?_; clear T ac; intro ac T
   refine gq T 17 262143 rfl (fun _ _ _ _ _ => (rn_pick0 rfl (T.ev 6 rfl) (decide_eq_false h10) (T.ev 0 rfl))) ?_; clear T ac; intro ac T
   refine gq T 18 524287 rfl (fun _ _ _ _ _ => (rn_move rfl (T.ev 0 rfl))) ?_; clear T ac; intro ac T
   rcases Bool.eq_false_or_eq_true (decide (q.y < 0)) with h11 | h11
   ·replace h11 := of_decide_eq_true h11
    refine g_pass (T := T) (i := 19) rfl (by kernel_rfl) (by kernel_rfl : (pbits 42 524287).setIfInBounds 19 true = pbits 42 1048575) si_U (fun _ _ _ h => h) (wanted_no rfl rfl (T.ev 0 rfl) (decide_eq_true h11)) rfl rfl rfl ?_; clear T ac; intro ac T
    refine g_pass (T := T) (i := 20) rfl (by kernel_rfl) (by kernel_rfl : (pbits 42 1048575).setIfInBounds 20 true = pbits 42 2097151) si_U (fun _ _ _ h => h) (wanted_no rfl rfl (T.ev 1 rfl) (decide_eq_true h11)) rfl rfl rfl ?_; clear T ac; intro ac T
    refine g_pass (T := T) (i := 21) rfl (by kernel_rfl) (by kernel_rfl : (pbits 42 2097151).setIfInBounds 21 true = pbits 42 4194303) si_U (fun _ _ _ h => h) (wanted_no rfl rfl (T.ev 2 rfl) (decide_eq_true h11)) rfl rfl rfl ?_; clear T ac; intro ac T
    refine g_pass (T := T) (i := 22) rfl (by kernel_rfl) (by kernel_rfl : (pbits 42 4194303).setIfInBounds 22 true = pbits 42 8388607) si_U (fun _ _ _ h => h) (wanted_no rfl rfl (T.ev 3 rfl) (decide_eq_true h11)) rfl rfl rfl ?_; clear T ac; intro ac T
    refine g_pass (T := T) (i := 23) rfl (by kernel_rfl) (by kernel_rfl : (pbits 42 8388607).setIfInBounds 23 true = pbits 42 16777215) si_U (fun _ _ _ h => h) (wanted_no rfl rfl (T.ev 4 rfl) (decide_eq_true h11)) rfl rfl rfl ?_; clear T ac; intro ac T
    refine g_pass (T := T) (i := 24) rfl (by kernel_rfl) (by kernel_rfl : (pbits 42 16777215).setIfInBounds 24 true = pbits 42 33554431) si_U (fun _ _ _ h => h) (wanted_no rfl rfl (T.ev 5 rfl) (decide_eq_true h11)) rfl rfl rfl ?_; clear T ac; intro ac T
    refine g_pass (T := T) (i := 25) rfl (by kernel_rfl) (by kernel_rfl : (pbits 42 33554431).setIfInBounds 25 true = pbits 42 67108863) si_U (fun _ _ _ h => h) (wanted_no rfl rfl (T.ev 6 rfl) (decide_eq_true h11)) rfl rfl rfl ?_; clear T ac; intro ac T
    refine g_pass (T := T) (i := 26) rfl (by kernel_rfl) (by kernel_rfl : (pbits 42 67108863).setIfInBounds 26 true = pbits 42 134217727) si_U (fun _ _ _ h => h) (wanted_no rfl rfl (T.ev 7 rfl) (decide_eq_true h11)) rfl rfl rfl ?_; clear T ac; intro ac T
    refine g_pass (T := T) (i := 27) rfl (by kernel_rfl) (by kernel_rfl : (pbits 42 134217727).setIfInBounds 27 true = pbits 42 268435455) si_U (fun _ _ _ h => h) (wanted_no rfl rfl (T.ev 8 rfl) (decide_eq_true h11)) rfl rfl rfl ?_; clear T ac; intro ac T
    refine g_pass (T := T) (i := 28) rfl (by kernel_rfl) (by kernel_rfl : (pbits 42 268435455).setIfInBounds 28 true = pbits 42 536870911) si_U (fun _ _ _ h => h) (wanted_no rfl rfl (T.ev 9 rfl) (decide_eq_true h11)) rfl rfl rfl ?_; clear T ac; intro ac T
    refine gq T 29 1073741823 rfl (fun _ _ _ _ _ => (rn_pick1 rfl (T.ev 10 rfl) (decide_eq_true h11) evc)) ?_; clear T ac; intro ac T
    refine gq T 30 2147483647 rfl (fun _ _ _ _ _ => (rn_move rfl (T.ev 0 rfl))) ?_; clear T ac; intro ac T
    refine g_pass (T := T) (i := 31) rfl (by kernel_rfl) (by kernel_rfl : (pbits 42 2147483647).setIfInBounds 31 true = pbits 42 4294967295) si_U (fun _ _ _ h => h) (wanted_no rfl rfl (T.ev 0 rfl) rfl) rfl rfl rfl ?_; clear T ac; intro ac T
    refine g_pass (T := T) (i := 32) rfl (by kernel_rfl) (by kernel_rfl : (pbits 42 4294967295).setIfInBounds 32 true = pbits 42 8589934591) si_U (fun _ _ _ h => h) (wanted_no rfl rfl (T.ev 1 rfl) rfl) rfl rfl rfl ?_; clear T ac; intro ac T
    refine g_pass (T := T) (i := 33) rfl (by kernel_rfl) (by kernel_rfl : (pbits 42 8589934591).setIfInBounds 33 true = pbits 42 17179869183) si_U (fun _ _ _ h => h) (wanted_no rfl rfl (T.ev 2 rfl) rfl) rfl rfl rfl ?_; clear T ac; intro ac T
    refine g_pass (T := T) (i := 34) rfl (by kernel_rfl) (by kernel_rfl : (pbits 42 17179869183).setIfInBounds 34 true = pbits 42 34359738367) si_U (fun _ _ _ h => h) (wanted_no rfl rfl (T.ev 3 rfl) rfl) rfl rfl rfl ?_; clear T ac; intro ac T
    refine g_pass (T := T) (i := 35) rfl (by kernel_rfl) (by kernel_rfl : (pbits 42 34359738367).setIfInBounds 35 true = pbits 42 68719476735) si_U (fun _ _ _ h => h) (wanted_no rfl rfl (T.ev 4 rfl) rfl) rfl rfl rfl ?_; clear T ac; intro ac T
    refine g_pass (T := T) (i := 36) rfl (by kernel_rfl) (by kernel_rfl : (pbits 42 68719476735).setIfInBounds 36 true = pbits 42 137438953471) si_U (fun _ _ _ h => h) (wanted_no rfl rfl (T.ev 5 rfl) rfl) rfl rfl rfl ?_; clear T ac; intro ac T
    refine g_pass (T := T) (i := 37) rfl (by kernel_rfl) (by kernel_rfl : (pbits 42 137438953471).setIfInBounds 37 true = pbits 42 274877906943) si_U (fun _ _ _ h => h) (wanted_no rfl rfl (T.ev 6 rfl) rfl) rfl rfl rfl ?_; clear T ac; intro ac T
    refine g_pass (T := T) (i := 38) rfl (by kernel_rfl) (by kernel_rfl : (pbits 42 274877906943).setIfInBounds 38 true = pbits 42 549755813887) si_U (fun _ _ _ h => h) (wanted_no rfl rfl (T.ev 7 rfl) rfl) rfl rfl rfl ?_; clear T ac; intro ac T
    refine g_pass (T := T) (i := 39) rfl (by kernel_rfl) (by kernel_rfl : (pbits 42 549755813887).setIfInBounds 39 true = pbits 42 1099511627775) si_U (fun _ _ _ h => h) (wanted_no rfl rfl (T.ev 8 rfl) rfl) rfl rfl rfl ?_; clear T ac; intro ac T
    refine g_pass (T := T) (i := 40) rfl (by kernel_rfl) (by kernel_rfl : (pbits 42 1099511627775).setIfInBounds 40 true = pbits 42 2199023255551) si_U (fun _ _ _ h => h) (wanted_no rfl rfl (T.ev 9 rfl) rfl) rfl rfl rfl ?_; clear T ac; intro ac T
    refine gq T 41 4398046511103 rfl (fun _ _ _ _ _ => (rn_pick1 rfl (T.ev 10 rfl) rfl evc)) ?_; clear T ac; intro ac T
    refine g_done (by kernel_rfl) ?_
    replace T := T.pick [0, 1, 2, 3, 4, 5, 6, 7, 8, 9, 10, 13, 14, 15, 16, 17, 18, 19, 20, 21, 22, 25, 26, 27, 28, 29, 30, 33, 34, 35, 36, 37, 38, 43, 44, 45, 46, 47, 48, 49] rfl
    exact ⟨(T.pick (E' := [(4, .pointer (some ⟨g1, 0, none⟩)), (5, .slice AXu3 lxu3.length cXu3), (6, .bool bu4), (7, .slice APu5 ((planL s lxu3 bu4).length) cPu5), (13, .int .i64 (i : Int)), (14, .int .i64 (sizeL (cutA s bu4) (cutC s bu4) p q.t)), (15, .int .i64 (sizeW (cutA s bu4) (cutC s bu4) p q.t)), (133, .slice APu5 ((planL s lxu3 bu4).length) cPu5), (134, .int .i64 (i : Int)), (135, .pointer (some ⟨bAPu5, oAPu5 + i * 3, none⟩)), (136, .pointer (some ⟨bAPu5, oAPu5 + i * 3 + 0, none⟩)), (137, .int .i64 q.x), (138, .bool (decide (q.x < 0))), (171, .bool true)]) [35, 36, 37, 38, 39, 34, 33, 32, 31, 30, 29, 28, 27, 0] rfl).as (by (try rw [show (decide (q.x < 0)) = false from (decide_eq_false h10)]); (try rw [show (decide (q.y < 0)) = true from (decide_eq_true h11)]); (try rfl)), M.mask [true] rfl⟩
   replace h11 := of_decide_eq_false h11
   refine g_q (T := T) (i := 19) rfl (by kernel_rfl) (by kernel_rfl : (pbits 42 524287).setIfInBounds 19 true = pbits 42 1048575) si_U (fun _ _ _ h => h) (wanted_yes rfl rfl (T.ev 0 rfl) (decide_eq_false h11)) rfl rfl rfl (fun _ _ _ _ _ => (rn_move rfl (T.ev 25 rfl))) ?_; clear T ac; intro ac T
   refine g_q (T := T) (i := 20) rfl (by kernel_rfl) (by kernel_rfl : (pbits 42 1048575).setIfInBounds 20 true = pbits 42 2097151) si_U (fun _ _ _ h => h) (wanted_yes rfl rfl (T.ev 1 rfl) (decide_eq_false h11)) rfl rfl rfl (fun _ _ _ _ _ => (rn_move rfl (T.ev 27 rfl))) ?_; clear T ac; intro ac T
   refine g_q (T := T) (i := 21) rfl (by kernel_rfl) (by kernel_rfl : (pbits 42 2097151).setIfInBounds 21 true = pbits 42 4194303) si_U (fun _ _ _ h => h) (wanted_yes rfl rfl (T.ev 2 rfl) (decide_eq_false h11)) rfl rfl rfl (fun _ _ _ _ _ => (rn_indexAddr (size := 3) i rfl (T.ev 1 rfl) (T.ev 0 rfl) ⟨_, Tryd.underlying28, by kernel_rfl⟩ rfl (by omega) (SAPu5.at0 (by omega)))) ?_; clear T ac; intro ac T
   refine g_q (T := T) (i := 22) rfl (by kernel_rfl) (by kernel_rfl : (pbits 42 4194303).setIfInBounds 22 true = pbits 42 8388607) si_U (fun _ _ _ h => h) (wanted_yes rfl rfl (T.ev 3 rfl) (decide_eq_false h11)) rfl rfl rfl (fun _ _ _ _ _ => (rn_fieldAddr (off := 0) rfl (T.ev 0 rfl) (fun _ _ _ => by kernel_rfl))) ?_; clear T ac; intro ac T
   refine g_q (T := T) (i := 23) rfl (by kernel_rfl) (by kernel_rfl : (pbits 42 8388607).setIfInBounds 23 true = pbits 42 16777215) si_U (fun _ _ _ h => h) (wanted_yes rfl rfl (T.ev 4 rfl) (decide_eq_false h11)) rfl rfl rfl (fun B w' hD hl hS => (rn_cell (Sp.tcC0 SAPu5 (show Mem w noEx w' _ from hS) (.cons _ (List.sublist_append_right _ _)) hkq) rfl (T.ev 0 rfl))) ?_; clear T ac; intro ac T
   refine g_q (T := T) (i := 24) rfl (by kernel_rfl) (by kernel_rfl : (pbits 42 16777215).setIfInBounds 24 true = pbits 42 33554431) si_U (fun _ _ _ h => h) (wanted_yes rfl rfl (T.ev 5 rfl) (decide_eq_false h11)) rfl rfl rfl (fun _ _ _ _ _ => (rn_move rfl (T.ev 26 rfl))) ?_; clear T ac; intro ac T
   refine g_q (T := T) (i := 25) rfl (by kernel_rfl) (by kernel_rfl : (pbits 42 33554431).setIfInBounds 25 true = pbits 42 67108863) si_U (fun _ _ _ h => h) (wanted_yes rfl rfl (T.ev 6 rfl) (decide_eq_false h11)) rfl rfl rfl (fun _ _ _ _ _ => (rn_add rfl (T.ev 1 rfl) (T.ev 0 rfl) (by omega))) ?_; clear T ac; intro ac T
   refine g_q (v := (.pointer (some ⟨g1, 0, none⟩))) (T := T) (i := 26) rfl (by kernel_rfl) (by kernel_rfl : (pbits 42 67108863).setIfInBounds 26 true = pbits 42 134217727) si_U (fun _ _ _ h => h) (wanted_yes rfl rfl (T.ev 7 rfl) (decide_eq_false h11)) rfl rfl rfl (fun _ _ _ _ _ => (rn_fieldAddr (off := 0) rfl (T.ev 29 rfl) (fun _ _ _ => by kernel_rfl))) ?_; clear T ac; intro ac T
   refine g_q (T := T) (i := 27) rfl (by kernel_rfl) (by kernel_rfl : (pbits 42 134217727).setIfInBounds 27 true = pbits 42 268435455) si_U (fun _ _ _ h => h) (wanted_yes rfl rfl (T.ev 8 rfl) (decide_eq_false h11)) rfl rfl rfl (fun B w' hD hl hS => (rn_one (Mem.nth (show Mem w noEx w' _ from hS) 0 rfl) rfl (T.ev 0 rfl) rfl)) ?_; clear T ac; intro ac T
   refine g_q (T := T) (i := 28) rfl (by kernel_rfl) (by kernel_rfl : (pbits 42 268435455).setIfInBounds 28 true = pbits 42 536870911) si_U (fun _ _ _ h => h) (wanted_yes rfl rfl (T.ev 9 rfl) (decide_eq_false h11)) rfl rfl rfl (fun _ _ _ _ _ => (rn_gtr rfl (T.ev 2 rfl) (T.ev 0 rfl))) ?_; clear T ac; intro ac T
   refine gq T 29 1073741823 rfl (fun _ _ _ _ _ => (rn_pick0 rfl (T.ev 10 rfl) (decide_eq_false h11) (T.ev 0 rfl))) ?_; clear T ac; intro ac T
   refine gq T 30 2147483647 rfl (fun _ _ _ _ _ => (rn_move rfl (T.ev 0 rfl))) ?_; clear T ac; intro ac T
   rcases Bool.eq_false_or_eq_true (decide (s.lo < (q.x + (sizeL (cutA s bu4) (cutC s bu4) p q.t)))) with h12 | h12
   ·replace h12 := of_decide_eq_true h12
    refine g_pass (T := T) (i := 31) rfl (by kernel_rfl) (by kernel_rfl : (pbits 42 2147483647).setIfInBounds 31 true = pbits 42 4294967295) si_U (fun _ _ _ h => h) (wanted_no rfl rfl (T.ev 0 rfl) (decide_eq_true h12)) rfl rfl rfl ?_; clear T ac; intro ac T
    refine g_pass (T := T) (i := 32) rfl (by kernel_rfl) (by kernel_rfl : (pbits 42 4294967295).setIfInBounds 32 true = pbits 42 8589934591) si_U (fun _ _ _ h => h) (wanted_no rfl rfl (T.ev 1 rfl) (decide_eq_true h12)) rfl rfl rfl ?_; clear T ac; intro ac T
    refine g_pass (T := T) (i := 33) rfl (by kernel_rfl) (by kernel_rfl : (pbits 42 8589934591).setIfInBounds 33 true = pbits 42 17179869183) si_U (fun _ _ _ h => h) (wanted_no rfl rfl (T.ev 2 rfl) (decide_eq_true h12)) rfl rfl rfl ?_; clear T ac; intro ac T
    refine g_pass (T := T) (i := 34) rfl (by kernel_rfl) (by kernel_rfl : (pbits 42 17179869183).setIfInBounds 34 true = pbits 42 34359738367) si_U (fun _ _ _ h => h) (wanted_no rfl rfl (T.ev 3 rfl) (decide_eq_true h12)) rfl rfl rfl ?_; clear T ac; intro ac T
    refine g_pass (T := T) (i := 35) rfl (by kernel_rfl) (by kernel_rfl : (pbits 42 34359738367).setIfInBounds 35 true = pbits 42 68719476735) si_U (fun _ _ _ h => h) (wanted_no rfl rfl (T.ev 4 rfl) (decide_eq_true h12)) rfl rfl rfl ?_; clear T ac; intro ac T
    refine g_pass (T := T) (i := 36) rfl (by kernel_rfl) (by kernel_rfl : (pbits 42 68719476735).setIfInBounds 36 true = pbits 42 137438953471) si_U (fun _ _ _ h => h) (wanted_no rfl rfl (T.ev 5 rfl) (decide_eq_true h12)) rfl rfl rfl ?_; clear T ac; intro ac T
    refine g_pass (T := T) (i := 37) rfl (by kernel_rfl) (by kernel_rfl : (pbits 42 137438953471).setIfInBounds 37 true = pbits 42 274877906943) si_U (fun _ _ _ h => h) (wanted_no rfl rfl (T.ev 6 rfl) (decide_eq_true h12)) rfl rfl rfl ?_; clear T ac; intro ac T
    refine g_pass (T := T) (i := 38) rfl (by kernel_rfl) (by kernel_rfl : (pbits 42 274877906943).setIfInBounds 38 true = pbits 42 549755813887) si_U (fun _ _ _ h => h) (wanted_no rfl rfl (T.ev 7 rfl) (decide_eq_true h12)) rfl rfl rfl ?_; clear T ac; intro ac T
    refine g_pass (T := T) (i := 39) rfl (by kernel_rfl) (by kernel_rfl : (pbits 42 549755813887).setIfInBounds 39 true = pbits 42 1099511627775) si_U (fun _ _ _ h => h) (wanted_no rfl rfl (T.ev 8 rfl) (decide_eq_true h12)) rfl rfl rfl ?_; clear T ac; intro ac T
    refine g_pass (T := T) (i := 40) rfl (by kernel_rfl) (by kernel_rfl : (pbits 42 1099511627775).setIfInBounds 40 true = pbits 42 2199023255551) si_U (fun _ _ _ h => h) (wanted_no rfl rfl (T.ev 9 rfl) (decide_eq_true h12)) rfl rfl rfl ?_; clear T ac; intro ac T
    refine gq T 41 4398046511103 rfl (fun _ _ _ _ _ => (rn_pick1 rfl (T.ev 10 rfl) (decide_eq_true h12) evc)) ?_; clear T ac; intro ac T
    refine g_done (by kernel_rfl) ?_
    replace T := T.pick [0, 1, 2, 3, 4, 5, 6, 7, 8, 9, 10, 13, 14, 15, 16, 17, 18, 19, 20, 21, 22, 25, 26, 27, 28, 29, 30, 33, 34, 35, 36, 37, 38, 43, 44, 45, 46, 47, 48, 49] rfl
    exact ⟨(T.pick (E' := [(4, .pointer (some ⟨g1, 0, none⟩)), (5, .slice AXu3 lxu3.length cXu3), (6, .bool bu4), (7, .slice APu5 ((planL s lxu3 bu4).length) cPu5), (13, .int .i64 (i : Int)), (14, .int .i64 (sizeL (cutA s bu4) (cutC s bu4) p q.t)), (15, .int .i64 (sizeW (cutA s bu4) (cutC s bu4) p q.t)), (133, .slice APu5 ((planL s lxu3 bu4).length) cPu5), (134, .int .i64 (i : Int)), (135, .pointer (some ⟨bAPu5, oAPu5 + i * 3, none⟩)), (136, .pointer (some ⟨bAPu5, oAPu5 + i * 3 + 0, none⟩)), (137, .int .i64 q.x), (138, .bool (decide (q.x < 0))), (171, .bool true)]) [35, 36, 37, 38, 39, 34, 33, 32, 31, 30, 29, 28, 27, 0] rfl).as (by (try rw [show (decide (q.x < 0)) = false from (decide_eq_false h10)]); (try rw [show (decide (q.y < 0)) = false from (decide_eq_false h11)]); (try rw [show (decide (s.lo < (q.x + (sizeL (cutA s bu4) (cutC s bu4) p q.t)))) = true from (decide_eq_true h12)]); (try rfl)), M.mask [true] rfl⟩
   replace h12 := of_decide_eq_false h12
   refine g_q (T := T) (i := 31) rfl (by kernel_rfl) (by kernel_rfl : (pbits 42 2147483647).setIfInBounds 31 true = pbits 42 4294967295) si_U (fun _ _ _ h => h) (wanted_yes rfl rfl (T.ev 0 rfl) (decide_eq_false h12)) rfl rfl rfl (fun _ _ _ _ _ => (rn_move rfl (T.ev 37 rfl))) ?_; clear T ac; intro ac T
   refine g_q (T := T) (i := 32) rfl (by kernel_rfl) (by kernel_rfl : (pbits 42 4294967295).setIfInBounds 32 true = pbits 42 8589934591) si_U (fun _ _ _ h => h) (wanted_yes rfl rfl (T.ev 1 rfl) (decide_eq_false h12)) rfl rfl rfl (fun _ _ _ _ _ => (rn_move rfl (T.ev 39 rfl))) ?_; clear T ac; intro ac T
   refine g_q (T := T) (i := 33) rfl (by kernel_rfl) (by kernel_rfl : (pbits 42 8589934591).setIfInBounds 33 true = pbits 42 17179869183) si_U (fun _ _ _ h => h) (wanted_yes rfl rfl (T.ev 2 rfl) (decide_eq_false h12)) rfl rfl rfl (fun _ _ _ _ _ => (rn_indexAddr (size := 3) i rfl (T.ev 1 rfl) (T.ev 0 rfl) ⟨_, Tryd.underlying28, by kernel_rfl⟩ rfl (by omega) (SAPu5.at0 (by omega)))) ?_; clear T ac; intro ac T
   refine g_q (T := T) (i := 34) rfl (by kernel_rfl) (by kernel_rfl : (pbits 42 17179869183).setIfInBounds 34 true = pbits 42 34359738367) si_U (fun _ _ _ h => h) (wanted_yes rfl rfl (T.ev 3 rfl) (decide_eq_false h12)) rfl rfl rfl (fun _ _ _ _ _ => (rn_fieldAddr (off := 1) rfl (T.ev 0 rfl) (fun _ _ _ => by kernel_rfl))) ?_; clear T ac; intro ac T
   refine g_q (T := T) (i := 35) rfl (by kernel_rfl) (by kernel_rfl : (pbits 42 34359738367).setIfInBounds 35 true = pbits 42 68719476735) si_U (fun _ _ _ h => h) (wanted_yes rfl rfl (T.ev 4 rfl) (decide_eq_false h12)) rfl rfl rfl (fun B w' hD hl hS => (rn_cell (Sp.tcC1 SAPu5 (show Mem w noEx w' _ from hS) (.cons _ (List.sublist_append_right _ _)) hkq) rfl (T.ev 0 rfl))) ?_; clear T ac; intro ac T
   refine g_q (T := T) (i := 36) rfl (by kernel_rfl) (by kernel_rfl : (pbits 42 68719476735).setIfInBounds 36 true = pbits 42 137438953471) si_U (fun _ _ _ h => h) (wanted_yes rfl rfl (T.ev 5 rfl) (decide_eq_false h12)) rfl rfl rfl (fun _ _ _ _ _ => (rn_move rfl (T.ev 37 rfl))) ?_; clear T ac; intro ac T
   refine g_q (T := T) (i := 37) rfl (by kernel_rfl) (by kernel_rfl : (pbits 42 137438953471).setIfInBounds 37 true = pbits 42 274877906943) si_U (fun _ _ _ h => h) (wanted_yes rfl rfl (T.ev 6 rfl) (decide_eq_false h12)) rfl rfl rfl (fun _ _ _ _ _ => (rn_add rfl (T.ev 1 rfl) (T.ev 0 rfl) (by omega))) ?_; clear T ac; intro ac T
   refine g_q (v := (.pointer (some ⟨g1, 1, none⟩))) (T := T) (i := 38) rfl (by kernel_rfl) (by kernel_rfl : (pbits 42 274877906943).setIfInBounds 38 true = pbits 42 549755813887) si_U (fun _ _ _ h => h) (wanted_yes rfl rfl (T.ev 7 rfl) (decide_eq_false h12)) rfl rfl rfl (fun _ _ _ _ _ => (rn_fieldAddr (off := 1) rfl (T.ev 41 rfl) (fun _ _ _ => by kernel_rfl))) ?_; clear T ac; intro ac T
   refine g_q (T := T) (i := 39) rfl (by kernel_rfl) (by kernel_rfl : (pbits 42 549755813887).setIfInBounds 39 true = pbits 42 1099511627775) si_U (fun _ _ _ h => h) (wanted_yes rfl rfl (T.ev 8 rfl) (decide_eq_false h12)) rfl rfl rfl (fun B w' hD hl hS => (rn_one (Mem.nth (show Mem w noEx w' _ from hS) 0 rfl) rfl (T.ev 0 rfl) rfl)) ?_; clear T ac; intro ac T
   refine g_q (T := T) (i := 40) rfl (by kernel_rfl) (by kernel_rfl : (pbits 42 1099511627775).setIfInBounds 40 true = pbits 42 2199023255551) si_U (fun _ _ _ h => h) (wanted_yes rfl rfl (T.ev 9 rfl) (decide_eq_false h12)) rfl rfl rfl (fun _ _ _ _ _ => (rn_gtr rfl (T.ev 2 rfl) (T.ev 0 rfl))) ?_; clear T ac; intro ac T
   refine gq T 41 4398046511103 rfl (fun _ _ _ _ _ => (rn_pick0 rfl (T.ev 10 rfl) (decide_eq_false h12) (T.ev 0 rfl))) ?_; clear T ac; intro ac T
   refine g_done (by kernel_rfl) ?_
   replace T := T.pick [0, 1, 2, 3, 4, 5, 6, 7, 8, 9, 10, 13, 14, 15, 16, 17, 18, 19, 20, 21, 22, 25, 26, 27, 28, 29, 30, 33, 34, 35, 36, 37, 38, 43, 44, 45, 46, 47, 48, 49] rfl
   exact ⟨(T.pick (E' := [(4, .pointer (some ⟨g1, 0, none⟩)), (5, .slice AXu3 lxu3.length cXu3), (6, .bool bu4), (7, .slice APu5 ((planL s lxu3 bu4).length) cPu5), (13, .int .i64 (i : Int)), (14, .int .i64 (sizeL (cutA s bu4) (cutC s bu4) p q.t)), (15, .int .i64 (sizeW (cutA s bu4) (cutC s bu4) p q.t)), (133, .slice APu5 ((planL s lxu3 bu4).length) cPu5), (134, .int .i64 (i : Int)), (135, .pointer (some ⟨bAPu5, oAPu5 + i * 3, none⟩)), (136, .pointer (some ⟨bAPu5, oAPu5 + i * 3 + 0, none⟩)), (137, .int .i64 q.x), (138, .bool (decide (q.x < 0))), (171, .bool (decide (s.wi < (q.y + (sizeW (cutA s bu4) (cutC s bu4) p q.t)))))]) [35, 36, 37, 38, 39, 34, 33, 32, 31, 30, 29, 28, 27, 0] rfl).as (by (try rw [show (decide (q.x < 0)) = false from (decide_eq_false h10)]); (try rw [show (decide (q.y < 0)) = false from (decide_eq_false h11)]); (try rw [show (decide (s.lo < (q.x + (sizeL (cutA s bu4) (cutC s bu4) p q.t)))) = false from (decide_eq_false h12)]); (try rfl)), M.mask [true] rfl⟩
  clear T M
  rintro ac wc ⟨T, M⟩
  refine wp_cond_split (T.ev 13 rfl) ?_ ?_
  ·intro h13
   (try have h13' := h13; try simp only [Bool.and_eq_true, Bool.or_eq_true, Bool.not_eq_true', Bool.and_eq_false_imp, Bool.or_eq_false_iff, decide_eq_true_eq, decide_eq_false_iff_not] at h13')
   refine wp_seq ?_
   refine wp_region_lit ?_
   refine lq T (rn_assign rfl evc) ?_; clear T ac; intro ac T
   refine wpList_nil ?_
   replace T := T.pick [0] rfl
   replace M := M.mask [false] rfl
   replace M : Mem w noEx wc ((IKu2 ++ IXu3 ++ IPu5)) := M
   refine nm_then ?_
   refine wp_ret ?_
   refine rt_then ?_
   refine rt_blk ?_
   refine rt_then ?_
   refine rt_then ?_
   refine rt_blk ?_
   refine rt_then ?_
   refine rt_1 T rfl (T.ev 0 rfl) ?_
   exact ⟨ret_bool (by first | (exfalso; omega) | simp_all), M.below⟩
  intro h13
  (try have h13' := h13; try simp only [Bool.and_eq_true, Bool.or_eq_true, Bool.not_eq_true', Bool.and_eq_false_imp, Bool.or_eq_false_iff, decide_eq_true_eq, decide_eq_false_iff_not] at h13')
  refine wp_skip ?_
  refine nm_then ?_
  refine wp_seq ?_
  refine wp_region_lit ?_
  refine lq T (rn_assign rfl evc) ?_; clear T ac; intro ac T
  refine wpList_nil ?_
  replace T := T.pick [0, 1, 2, 3, 4, 5, 6, 7, 8, 9, 10, 11, 12, 13] rfl
  refine nm_then ?_
  refine wp_block ?_
  refine wp_loop_n (fun mz ac wc => ∃ (k : Nat), mz = i - k ∧ (k ≤ i) ∧ Tm ac 272 [(4, .pointer (some ⟨g1, 0, none⟩)), (5, .slice AXu3 lxu3.length cXu3), (6, .bool bu4), (7, .slice APu5 ((planL s lxu3 bu4).length) cPu5), (13, .int .i64 (i : Int)), (14, .int .i64 (sizeL (cutA s bu4) (cutC s bu4) p q.t)), (15, .int .i64 (sizeW (cutA s bu4) (cutC s bu4) p q.t)), (17, .int .i64 (k : Int)), (133, .slice APu5 ((planL s lxu3 bu4).length) cPu5), (134, .int .i64 (i : Int)), (135, .pointer (some ⟨bAPu5, oAPu5 + i * 3, none⟩)), (136, .pointer (some ⟨bAPu5, oAPu5 + i * 3 + 0, none⟩)), (137, .int .i64 q.x), (138, .bool (decide (q.x < 0)))] ∧ Mem w noEx wc ((g1, .cells [.int .i64 s.lo, .int .i64 s.wi, .int .i64 s.a0, .int .i64 s.a1, .int .i64 s.c0, .int .i64 s.c1, .slice AKu2 s.ps.length cKu2]) :: (IKu2 ++ IXu3 ++ IPu5))) ?_ ?_
  ·exact ⟨_, 0, rfl, (Nat.zero_le _), T.pick [1, 2, 3, 4, 5, 6, 7, 0, 8, 9, 10, 11, 12, 13] rfl, M.mask [true] rfl⟩
  clear T M
  rintro mz ac wc ⟨k, hmm2, hk, T, M⟩
  refine wp_seq ?_
  refine wp_seq ?_
  refine wp_region_lit ?_
  refine lq T (rn_move rfl (T.ev 7 rfl)) ?_; clear T ac; intro ac T
  refine lq T (rn_move rfl (T.ev 5 rfl)) ?_; clear T ac; intro ac T
  refine lq T (rn_lss rfl (T.ev 1 rfl) (T.ev 0 rfl)) ?_; clear T ac; intro ac T
  refine wpList_nil ?_
  replace T := T.pick [0, 3, 4, 5, 6, 7, 8, 9, 10, 11, 12, 13, 14, 15, 16] rfl
  refine nm_then ?_
  refine wp_if (T.ev 0 rfl) ?_ ?_
  ·intro h14
   obtain ⟨v8, hkv8, -⟩ := ic_next (l := lxu3) (k := k) (by omega)
   have hv8 := hixu3.1.1 v8 (List.mem_of_getElem? hkv8)
   obtain ⟨m8, hm8⟩ : ∃ m : Nat, v8 = (m : Int) := ⟨v8.toNat, by omega⟩
   obtain ⟨p2, hkp2, -⟩ := pc_next (l := s.ps) (k := m8) (by omega)
   obtain ⟨q2, hkq2⟩ : ∃ q, ((planL s lxu3 bu4))[k]? = some q := ⟨_, List.getElem?_eq_getElem (by omega)⟩
   have hgp8 := gP_at hkv8 hm8 hkp2
   have hbd8 := pc4 k p2 q2 hgp8 hkq2
   have hb80 : (q2.t && p2.gr) = false := by simp only [badP, Bool.or_eq_false_iff] at hbd8; exact hbd8.1.1
   obtain ⟨⟨hb81, hb82⟩, hb83, hb84⟩ := bad_not hbd8
   obtain ⟨hb85, hb86⟩ := size_pos (a := cutA s bu4) (c := cutC s bu4) hcb1.1 hcb2.1 (hsgs.ps p2 (List.mem_of_getElem? hkp2)) q2.t
   have hov := over_not (pc5 i k p p2 q q2 (by omega) hgp9 hkq hgp8 hkq2)
   refine wp_skip ?_
   refine nm_then ?_
   refine wp_seq ?_
   refine wp_block ?_
   refine wp_seq ?_
   refine g_start2 M (M.mask [true] rfl) 19 (by kernel_rfl) rfl (by kernel_rfl) ?_
   clear M; intro wc M
   refine gq T 0 1 rfl (fun B w' hD hl hS => (rn_rowO (Mem.nth (show Mem w noEx w' _ from hS) 0 rfl) rfl (T.ev 1 rfl) rfl)) ?_; clear T ac; intro ac T
   refine gq T 1 3 rfl (fun _ _ _ _ _ => (rn_move rfl (T.ev 3 rfl))) ?_; clear T ac; intro ac T
   refine gq T 2 7 rfl (fun _ _ _ _ _ => (rn_move rfl (T.ev 10 rfl))) ?_; clear T ac; intro ac T
   refine gq T 3 15 rfl (fun _ _ _ _ _ => (rn_indexAddr (size := 1) k rfl (T.ev 1 rfl) (T.ev 0 rfl) ⟨_, Tryd.underlying27, by kernel_rfl⟩ rfl (by omega) (SAXu3.at0 (by omega)))) ?_; clear T ac; intro ac T
   refine gq T 4 31 rfl (fun B w' hD hl hS => (rn_cell (Sp.ic0 SAXu3 (show Mem w noEx w' _ from hS) (.cons _ (subL (List.sublist_append_right _ _))) hkv8) rfl (T.ev 0 rfl))) ?_; clear T ac; intro ac T
   refine gq T 5 63 rfl (fun _ _ _ _ _ => (rn_move rfl (T.ev 9 rfl))) ?_; clear T ac; intro ac T
   refine gq T 6 127 rfl (fun _ _ _ _ _ => (rn_move rfl (T.ev 14 rfl))) ?_; clear T ac; intro ac T
   refine gq T 7 255 rfl (fun _ _ _ _ _ => (rn_indexAddr (size := 3) k rfl (T.ev 1 rfl) (T.ev 0 rfl) ⟨_, Tryd.underlying28, by kernel_rfl⟩ rfl (by omega) (SAPu5.at0 (by omega)))) ?_; clear T ac; intro ac T
   refine gq T 8 511 rfl (fun _ _ _ _ _ => (rn_fieldAddr (off := 2) rfl (T.ev 0 rfl) (fun _ _ _ => by kernel_rfl))) ?_; clear T ac; intro ac T
   refine gq T 9 1023 rfl (fun B w' hD hl hS => (rn_cell (Sp.tcC2 SAPu5 (show Mem w noEx w' _ from hS) (.cons _ (List.sublist_append_right _ _)) hkq2) rfl (T.ev 0 rfl))) ?_; clear T ac; intro ac T
   refine gq T 10 2047 rfl (fun _ _ _ _ _ => (rn_move rfl (T.ev 13 rfl))) ?_; clear T ac; intro ac T
   refine gw 11 4095 ?_; intro K hK
   refine ow_call (first := []) (cap := []) T rfl rfl rfl rfl evf (.cons (T.ev 10 rfl) (.cons (T.ev 6 rfl) (.cons (T.ev 1 rfl) (.cons (T.ev 0 rfl) .nil)))) Tryd.func56 rfl rfl ?_
   refine Calls.mono (Size_any s AKu2 cKu2 v8 q2.t bu4 _ (SAKu2.rd M (.cons _ (subL (subL (List.Sublist.refl _))))) (by omega)) ?_
   clear T
   rintro e wc ⟨rfl, hb⟩
   intro ac T
   obtain ⟨z1, z2⟩ := sz_law hsgs hkp2 q2.t bu4
   rw [← hm8] at z1 z2
   have z0 : (q2.t && p2.gr) = false := hb80
   obtain ⟨z2, z3⟩ := z2 z0
   rw [z0] at z1
   rw [z2, z3, show szE s v8 q2.t = 0 from z1] at T
   clear z0 z1 z2 z3
   replace M := M.call hb; clear hb
   refine sh_out hK _ _ (M.mask [true] rfl) ?_; clear hK K
   refine gq T 12 8191 rfl (fun _ _ _ _ _ => (rn_move rfl (T.ev 0 rfl))) ?_; clear T ac; intro ac T
   refine gq T 13 16383 rfl (fun _ _ _ _ _ => (rn_extract rfl (T.ev 0 rfl) rfl)) ?_; clear T ac; intro ac T
   refine gq T 14 32767 rfl (fun _ _ _ _ _ => (rn_extract rfl (T.ev 1 rfl) rfl)) ?_; clear T ac; intro ac T
   refine gq T 15 65535 rfl (fun _ _ _ _ _ => (rn_extract rfl (T.ev 2 rfl) rfl)) ?_; clear T ac; intro ac T
   refine gq T 16 131071 rfl (fun _ _ _ _ _ => (rn_assign rfl (T.ev 2 rfl))) ?_; clear T ac; intro ac T
   refine gq T 17 262143 rfl (fun _ _ _ _ _ => (rn_assign rfl (T.ev 2 rfl))) ?_; clear T ac; intro ac T
   refine gq T 18 524287 rfl (fun _ _ _ _ _ => (rn_assign rfl (T.ev 2 rfl))) ?_; clear T ac; intro ac T
   refine g_done (by kernel_rfl) ?_
   replace T := T.pick [0, 1, 2, 20, 21, 22, 23, 24, 25, 26, 27, 28, 29, 30, 31, 32, 33] rfl
   refine nm_then ?_
   refine cut_seq (fun ac wc => Tm ac 272 [(4, .pointer (some ⟨g1, 0, none⟩)), (5, .slice AXu3 lxu3.length cXu3), (6, .bool bu4), (7, .slice APu5 ((planL s lxu3 bu4).length) cPu5), (13, .int .i64 (i : Int)), (14, .int .i64 (sizeL (cutA s bu4) (cutC s bu4) p q.t)), (15, .int .i64 (sizeW (cutA s bu4) (cutC s bu4) p q.t)), (17, .int .i64 (k : Int)), (133, .slice APu5 ((planL s lxu3 bu4).length) cPu5), (134, .int .i64 (i : Int)), (135, .pointer (some ⟨bAPu5, oAPu5 + i * 3, none⟩)), (136, .pointer (some ⟨bAPu5, oAPu5 + i * 3 + 0, none⟩)), (137, .int .i64 q.x), (138, .bool (decide (q.x < 0))), (196, .slice APu5 ((planL s lxu3 bu4).length) cPu5), (197, .int .i64 (i : Int)), (198, .pointer (some ⟨bAPu5, oAPu5 + i * 3, none⟩)), (199, .pointer (some ⟨bAPu5, oAPu5 + i * 3 + 0, none⟩)), (200, .int .i64 q.x), (201, .slice APu5 ((planL s lxu3 bu4).length) cPu5), (202, .int .i64 (k : Int)), (203, .pointer (some ⟨bAPu5, oAPu5 + k * 3, none⟩)), (204, .pointer (some ⟨bAPu5, oAPu5 + k * 3 + 0, none⟩)), (205, .int .i64 q2.x), (206, .int .i64 (sizeL (cutA s bu4) (cutC s bu4) p2 q2.t)), (207, .int .i64 (q2.x + (sizeL (cutA s bu4) (cutC s bu4) p2 q2.t))), (208, .bool (decide (q.x < (q2.x + (sizeL (cutA s bu4) (cutC s bu4) p2 q2.t))))), (209, .bool (decide (q.x < (q2.x + (sizeL (cutA s bu4) (cutC s bu4) p2 q2.t))))), (223, .bool ((decide (q.x < (q2.x + (sizeL (cutA s bu4) (cutC s bu4) p2 q2.t)))) && (decide (q2.x < (q.x + (sizeL (cutA s bu4) (cutC s bu4) p q.t)))))), (224, .bool ((decide (q.x < (q2.x + (sizeL (cutA s bu4) (cutC s bu4) p2 q2.t)))) && (decide (q2.x < (q.x + (sizeL (cutA s bu4) (cutC s bu4) p q.t)))))), (238, .bool ((decide (q.x < (q2.x + (sizeL (cutA s bu4) (cutC s bu4) p2 q2.t)))) && ((decide (q2.x < (q.x + (sizeL (cutA s bu4) (cutC s bu4) p q.t)))) && (decide (q.y < (q2.y + (sizeW (cutA s bu4) (cutC s bu4) p2 q2.t))))))), (239, .bool ((decide (q.x < (q2.x + (sizeL (cutA s bu4) (cutC s bu4) p2 q2.t)))) && ((decide (q2.x < (q.x + (sizeL (cutA s bu4) (cutC s bu4) p q.t)))) && (decide (q.y < (q2.y + (sizeW (cutA s bu4) (cutC s bu4) p2 q2.t))))))), (253, .bool ((decide (q.x < (q2.x + (sizeL (cutA s bu4) (cutC s bu4) p2 q2.t)))) && ((decide (q2.x < (q.x + (sizeL (cutA s bu4) (cutC s bu4) p q.t)))) && ((decide (q.y < (q2.y + (sizeW (cutA s bu4) (cutC s bu4) p2 q2.t)))) && (decide (q2.y < (q.y + (sizeW (cutA s bu4) (cutC s bu4) p q.t)))))))), (254, .bool ((decide (q.x < (q2.x + (sizeL (cutA s bu4) (cutC s bu4) p2 q2.t)))) && ((decide (q2.x < (q.x + (sizeL (cutA s bu4) (cutC s bu4) p q.t)))) && ((decide (q.y < (q2.y + (sizeW (cutA s bu4) (cutC s bu4) p2 q2.t)))) && (decide (q2.y < (q.y + (sizeW (cutA s bu4) (cutC s bu4) p q.t))))))))] ∧ Mem w noEx wc ((g1, .cells [.int .i64 s.lo, .int .i64 s.wi, .int .i64 s.a0, .int .i64 s.a1, .int .i64 s.c0, .int .i64 s.c1, .slice AKu2 s.ps.length cKu2]) :: (IKu2 ++ IXu3 ++ IPu5))) ?_ ?_
   ·refine g_start2 M (M.mask [true] rfl) 62 (by kernel_rfl) rfl (by kernel_rfl) ?_
    clear M; intro wc M
    refine gq T 0 1 rfl (fun _ _ _ _ _ => (rn_move rfl (T.ev 0 rfl))) ?_; clear T ac; intro ac T
    refine gq (v := (.bool false)) T 1 3 rfl (fun _ _ _ _ _ => (rn_neqof (rn_neq rfl (T.ev 0 rfl) evc) (by simp))) ?_; clear T ac; intro ac T
    refine gq T 2 7 rfl (fun _ _ _ _ _ => (rn_move rfl (T.ev 0 rfl))) ?_; clear T ac; intro ac T
    refine g_q (T := T) (i := 3) rfl (by kernel_rfl) (by kernel_rfl : (pbits 62 7).setIfInBounds 3 true = pbits 62 15) si_U (fun _ _ _ h => h) (wanted_yes rfl rfl (T.ev 0 rfl) rfl) rfl rfl rfl (fun _ _ _ _ _ => (rn_move rfl (T.ev 9 rfl))) ?_; clear T ac; intro ac T
    refine g_q (T := T) (i := 4) rfl (by kernel_rfl) (by kernel_rfl : (pbits 62 15).setIfInBounds 4 true = pbits 62 31) si_U (fun _ _ _ h => h) (wanted_yes rfl rfl (T.ev 1 rfl) rfl) rfl rfl rfl (fun _ _ _ _ _ => (rn_move rfl (T.ev 11 rfl))) ?_; clear T ac; intro ac T
    refine g_q (T := T) (i := 5) rfl (by kernel_rfl) (by kernel_rfl : (pbits 62 31).setIfInBounds 5 true = pbits 62 63) si_U (fun _ _ _ h => h) (wanted_yes rfl rfl (T.ev 2 rfl) rfl) rfl rfl rfl (fun _ _ _ _ _ => (rn_indexAddr (size := 3) i rfl (T.ev 1 rfl) (T.ev 0 rfl) ⟨_, Tryd.underlying28, by kernel_rfl⟩ rfl (by omega) (SAPu5.at0 (by omega)))) ?_; clear T ac; intro ac T
    refine g_q (T := T) (i := 6) rfl (by kernel_rfl) (by kernel_rfl : (pbits 62 63).setIfInBounds 6 true = pbits 62 127) si_U (fun _ _ _ h => h) (wanted_yes rfl rfl (T.ev 3 rfl) rfl) rfl rfl rfl (fun _ _ _ _ _ => (rn_fieldAddr (off := 0) rfl (T.ev 0 rfl) (fun _ _ _ => by kernel_rfl))) ?_; clear T ac; intro ac T
    refine g_q (T := T) (i := 7) rfl (by kernel_rfl) (by kernel_rfl : (pbits 62 127).setIfInBounds 7 true = pbits 62 255) si_U (fun _ _ _ h => h) (wanted_yes rfl rfl (T.ev 4 rfl) rfl) rfl rfl rfl (fun B w' hD hl hS => (rn_cell (Sp.tcC0 SAPu5 (show Mem w noEx w' _ from hS) (.cons _ (List.sublist_append_right _ _)) hkq) rfl (T.ev 0 rfl))) ?_; clear T ac; intro ac T
    refine g_q (T := T) (i := 8) rfl (by kernel_rfl) (by kernel_rfl : (pbits 62 255).setIfInBounds 8 true = pbits 62 511) si_U (fun _ _ _ h => h) (wanted_yes rfl rfl (T.ev 5 rfl) rfl) rfl rfl rfl (fun _ _ _ _ _ => (rn_move rfl (T.ev 14 rfl))) ?_; clear T ac; intro ac T
    refine g_q (T := T) (i := 9) rfl (by kernel_rfl) (by kernel_rfl : (pbits 62 511).setIfInBounds 9 true = pbits 62 1023) si_U (fun _ _ _ h => h) (wanted_yes rfl rfl (T.ev 6 rfl) rfl) rfl rfl rfl (fun _ _ _ _ _ => (rn_move rfl (T.ev 19 rfl))) ?_; clear T ac; intro ac T
    refine g_q (T := T) (i := 10) rfl (by kernel_rfl) (by kernel_rfl : (pbits 62 1023).setIfInBounds 10 true = pbits 62 2047) si_U (fun _ _ _ h => h) (wanted_yes rfl rfl (T.ev 7 rfl) rfl) rfl rfl rfl (fun _ _ _ _ _ => (rn_indexAddr (size := 3) k rfl (T.ev 1 rfl) (T.ev 0 rfl) ⟨_, Tryd.underlying28, by kernel_rfl⟩ rfl (by omega) (SAPu5.at0 (by omega)))) ?_; clear T ac; intro ac T
    refine g_q (T := T) (i := 11) rfl (by kernel_rfl) (by kernel_rfl : (pbits 62 2047).setIfInBounds 11 true = pbits 62 4095) si_U (fun _ _ _ h => h) (wanted_yes rfl rfl (T.ev 8 rfl) rfl) rfl rfl rfl (fun _ _ _ _ _ => (rn_fieldAddr (off := 0) rfl (T.ev 0 rfl) (fun _ _ _ => by kernel_rfl))) ?_; clear T ac; intro ac T
    refine g_q (T := T) (i := 12) rfl (by kernel_rfl) (by kernel_rfl : (pbits 62 4095).setIfInBounds 12 true = pbits 62 8191) si_U (fun _ _ _ h => h) (wanted_yes rfl rfl (T.ev 9 rfl) rfl) rfl rfl rfl (fun B w' hD hl hS => (rn_cell (Sp.tcC0 SAPu5 (show Mem w noEx w' _ from hS) (.cons _ (List.sublist_append_right _ _)) hkq2) rfl (T.ev 0 rfl))) ?_; clear T ac; intro ac T
    refine g_q (T := T) (i := 13) rfl (by kernel_rfl) (by kernel_rfl : (pbits 62 8191).setIfInBounds 13 true = pbits 62 16383) si_U (fun _ _ _ h => h) (wanted_yes rfl rfl (T.ev 10 rfl) rfl) rfl rfl rfl (fun _ _ _ _ _ => (rn_move rfl (T.ev 15 rfl))) ?_; clear T ac; intro ac T
    refine g_q (T := T) (i := 14) rfl (by kernel_rfl) (by kernel_rfl : (pbits 62 16383).setIfInBounds 14 true = pbits 62 32767) si_U (fun _ _ _ h => h) (wanted_yes rfl rfl (T.ev 11 rfl) rfl) rfl rfl rfl (fun _ _ _ _ _ => (rn_add rfl (T.ev 1 rfl) (T.ev 0 rfl) (by omega))) ?_; clear T ac; intro ac T
    refine g_q (T := T) (i := 15) rfl (by kernel_rfl) (by kernel_rfl : (pbits 62 32767).setIfInBounds 15 true = pbits 62 65535) si_U (fun _ _ _ h => h) (wanted_yes rfl rfl (T.ev 12 rfl) rfl) rfl rfl rfl (fun _ _ _ _ _ => (rn_lss rfl (T.ev 7 rfl) (T.ev 0 rfl))) ?_; clear T ac; intro ac T
    refine g_q (T := T) (i := 16) rfl (by kernel_rfl) (by kernel_rfl : (pbits 62 65535).setIfInBounds 16 true = pbits 62 131071) si_U (fun _ _ _ h => h) (wanted_yes rfl rfl (T.ev 13 rfl) rfl) rfl rfl rfl (fun _ _ _ _ _ => (rn_move rfl (T.ev 0 rfl))) ?_; clear T ac; intro ac T
    rcases Bool.eq_false_or_eq_true (decide (q.x < (q2.x + (sizeL (cutA s bu4) (cutC s bu4) p2 q2.t)))) with h15 | h15
    ·replace h15 := of_decide_eq_true h15
     refine g_q (T := T) (i := 17) rfl (by kernel_rfl) (by kernel_rfl : (pbits 62 131071).setIfInBounds 17 true = pbits 62 262143) si_U (fun _ _ _ h => h) (wanted_yes rfl rfl (T.ev 0 rfl) (decide_eq_true h15)) rfl rfl rfl (fun _ _ _ _ _ => (rn_move rfl (T.ev 23 rfl))) ?_; clear T ac; intro ac T
     refine g_q (T := T) (i := 18) rfl (by kernel_rfl) (by kernel_rfl : (pbits 62 262143).setIfInBounds 18 true = pbits 62 524287) si_U (fun _ _ _ h => h) (wanted_yes rfl rfl (T.ev 1 rfl) (decide_eq_true h15)) rfl rfl rfl (fun _ _ _ _ _ => (rn_move rfl (T.ev 28 rfl))) ?_; clear T ac; intro ac T
     refine g_q (T := T) (i := 19) rfl (by kernel_rfl) (by kernel_rfl : (pbits 62 524287).setIfInBounds 19 true = pbits 62 1048575) si_U (fun _ _ _ h => h) (wanted_yes rfl rfl (T.ev 2 rfl) (decide_eq_true h15)) rfl rfl rfl (fun _ _ _ _ _ => (rn_indexAddr (size := 3) k rfl (T.ev 1 rfl) (T.ev 0 rfl) ⟨_, Tryd.underlying28, by kernel_rfl⟩ rfl (by omega) (SAPu5.at0 (by omega)))) ?_; clear T ac; intro ac T
     refine g_q (T := T) (i := 20) rfl (by kernel_rfl) (by kernel_rfl : (pbits 62 1048575).setIfInBounds 20 true = pbits 62 2097151) si_U (fun _ _ _ h => h) (wanted_yes rfl rfl (T.ev 3 rfl) (decide_eq_true h15)) rfl rfl rfl (fun _ _ _ _ _ => (rn_fieldAddr (off := 0) rfl (T.ev 0 rfl) (fun _ _ _ => by kernel_rfl))) ?_; clear T ac; intro ac T
     refine g_q (T := T) (i := 21) rfl (by kernel_rfl) (by kernel_rfl : (pbits 62 2097151).setIfInBounds 21 true = pbits 62 4194303) si_U (fun _ _ _ h => h) (wanted_yes rfl rfl (T.ev 4 rfl) (decide_eq_true h15)) rfl rfl rfl (fun B w' hD hl hS => (rn_cell (Sp.tcC0 SAPu5 (show Mem w noEx w' _ from hS) (.cons _ (List.sublist_append_right _ _)) hkq2) rfl (T.ev 0 rfl))) ?_; clear T ac; intro ac T
     refine g_q (T := T) (i := 22) rfl (by kernel_rfl) (by kernel_rfl : (pbits 62 4194303).setIfInBounds 22 true = pbits 62 8388607) si_U (fun _ _ _ h => h) (wanted_yes rfl rfl (T.ev 5 rfl) (decide_eq_true h15)) rfl rfl rfl (fun _ _ _ _ _ => (rn_move rfl (T.ev 28 rfl))) ?_; clear T ac; intro ac T
     refine g_q (T := T) (i := 23) rfl (by kernel_rfl) (by kernel_rfl : (pbits 62 8388607).setIfInBounds 23 true = pbits 62 16777215) si_U (fun _ _ _ h => h) (wanted_yes rfl rfl (T.ev 6 rfl) (decide_eq_true h15)) rfl rfl rfl (fun _ _ _ _ _ => (rn_move rfl (T.ev 30 rfl))) ?_; clear T ac; intro ac T
     refine g_q (T := T) (i := 24) rfl (by kernel_rfl) (by kernel_rfl : (pbits 62 16777215).setIfInBounds 24 true = pbits 62 33554431) si_U (fun _ _ _ h => h) (wanted_yes rfl rfl (T.ev 7 rfl) (decide_eq_true h15)) rfl rfl rfl (fun _ _ _ _ _ => (rn_indexAddr (size := 3) i rfl (T.ev 1 rfl) (T.ev 0 rfl) ⟨_, Tryd.underlying28, by kernel_rfl⟩ rfl (by omega) (SAPu5.at0 (by omega)))) ?_; clear T ac; intro ac T
     refine g_q (T := T) (i := 25) rfl (by kernel_rfl) (by kernel_rfl : (pbits 62 33554431).setIfInBounds 25 true = pbits 62 67108863) si_U (fun _ _ _ h => h) (wanted_yes rfl rfl (T.ev 8 rfl) (decide_eq_true h15)) rfl rfl rfl (fun _ _ _ _ _ => (rn_fieldAddr (off := 0) rfl (T.ev 0 rfl) (fun _ _ _ => by kernel_rfl))) ?_; clear T ac; intro ac T
     refine g_q (T := T) (i := 26) rfl (by kernel_rfl) (by kernel_rfl : (pbits 62 67108863).setIfInBounds 26 true = pbits 62 134217727) si_U (fun _ _ _ h => h) (wanted_yes rfl rfl (T.ev 9 rfl) (decide_eq_true h15)) rfl rfl rfl (fun B w' hD hl hS => (rn_cell (Sp.tcC0 SAPu5 (show Mem w noEx w' _ from hS) (.cons _ (List.sublist_append_right _ _)) hkq) rfl (T.ev 0 rfl))) ?_; clear T ac; intro ac T
     refine g_q (T := T) (i := 27) rfl (by kernel_rfl) (by kernel_rfl : (pbits 62 134217727).setIfInBounds 27 true = pbits 62 268435455) si_U (fun _ _ _ h => h) (wanted_yes rfl rfl (T.ev 10 rfl) (decide_eq_true h15)) rfl rfl rfl (fun _ _ _ _ _ => (rn_move rfl (T.ev 35 rfl))) ?_; clear T ac; intro ac T
     refine g_q (T := T) (i := 28) rfl (by kernel_rfl) (by kernel_rfl : (pbits 62 268435455).setIfInBounds 28 true = pbits 62 536870911) si_U (fun _ _ _ h => h) (wanted_yes rfl rfl (T.ev 11 rfl) (decide_eq_true h15)) rfl rfl rfl (fun _ _ _ _ _ => (rn_add rfl (T.ev 1 rfl) (T.ev 0 rfl) (by omega))) ?_; clear T ac; intro ac T
     refine g_q (T := T) (i := 29) rfl (by kernel_rfl) (by kernel_rfl : (pbits 62 536870911).setIfInBounds 29 true = pbits 62 1073741823) si_U (fun _ _ _ h => h) (wanted_yes rfl rfl (T.ev 12 rfl) (decide_eq_true h15)) rfl rfl rfl (fun _ _ _ _ _ => (rn_lss rfl (T.ev 7 rfl) (T.ev 0 rfl))) ?_; clear T ac; intro ac T
     refine g_q (T := T) (i := 30) rfl (by kernel_rfl) (by kernel_rfl : (pbits 62 1073741823).setIfInBounds 30 true = pbits 62 2147483647) si_U (fun _ _ _ h => h) (wanted_yes rfl rfl (T.ev 27 rfl) rfl) rfl rfl rfl (fun _ _ _ _ _ => (rn_pick1 rfl (T.ev 13 rfl) (decide_eq_true h15) (T.ev 0 rfl))) ?_; clear T ac; intro ac T
     refine g_q (T := T) (i := 31) rfl (by kernel_rfl) (by kernel_rfl : (pbits 62 2147483647).setIfInBounds 31 true = pbits 62 4294967295) si_U (fun _ _ _ h => h) (wanted_yes rfl rfl (T.ev 28 rfl) rfl) rfl rfl rfl (fun _ _ _ _ _ => (rn_move rfl (T.ev 0 rfl))) ?_; clear T ac; intro ac T
     rcases Bool.eq_false_or_eq_true (decide (q2.x < (q.x + (sizeL (cutA s bu4) (cutC s bu4) p q.t)))) with h16 | h16
     ·replace h16 := of_decide_eq_true h16
      refine g_q (T := T) (i := 32) rfl (by kernel_rfl) (by kernel_rfl : (pbits 62 4294967295).setIfInBounds 32 true = pbits 62 8589934591) si_U (fun _ _ _ h => h) (wanted_yes rfl rfl (T.ev 0 rfl) (decide_eq_true h16)) rfl rfl rfl (fun _ _ _ _ _ => (rn_move rfl (T.ev 38 rfl))) ?_; clear T ac; intro ac T
      refine g_q (T := T) (i := 33) rfl (by kernel_rfl) (by kernel_rfl : (pbits 62 8589934591).setIfInBounds 33 true = pbits 62 17179869183) si_U (fun _ _ _ h => h) (wanted_yes rfl rfl (T.ev 1 rfl) (decide_eq_true h16)) rfl rfl rfl (fun _ _ _ _ _ => (rn_move rfl (T.ev 40 rfl))) ?_; clear T ac; intro ac T
      refine g_q (T := T) (i := 34) rfl (by kernel_rfl) (by kernel_rfl : (pbits 62 17179869183).setIfInBounds 34 true = pbits 62 34359738367) si_U (fun _ _ _ h => h) (wanted_yes rfl rfl (T.ev 2 rfl) (decide_eq_true h16)) rfl rfl rfl (fun _ _ _ _ _ => (rn_indexAddr (size := 3) i rfl (T.ev 1 rfl) (T.ev 0 rfl) ⟨_, Tryd.underlying28, by kernel_rfl⟩ rfl (by omega) (SAPu5.at0 (by omega)))) ?_; clear T ac; intro ac T
      refine g_q (T := T) (i := 35) rfl (by kernel_rfl) (by kernel_rfl : (pbits 62 34359738367).setIfInBounds 35 true = pbits 62 68719476735) si_U (fun _ _ _ h => h) (wanted_yes rfl rfl (T.ev 3 rfl) (decide_eq_true h16)) rfl rfl rfl (fun _ _ _ _ _ => (rn_fieldAddr (off := 1) rfl (T.ev 0 rfl) (fun _ _ _ => by kernel_rfl))) ?_; clear T ac; intro ac T
      refine g_q (T := T) (i := 36) rfl (by kernel_rfl) (by kernel_rfl : (pbits 62 68719476735).setIfInBounds 36 true = pbits 62 137438953471) si_U (fun _ _ _ h => h) (wanted_yes rfl rfl (T.ev 4 rfl) (decide_eq_true h16)) rfl rfl rfl (fun B w' hD hl hS => (rn_cell (Sp.tcC1 SAPu5 (show Mem w noEx w' _ from hS) (.cons _ (List.sublist_append_right _ _)) hkq) rfl (T.ev 0 rfl))) ?_; clear T ac; intro ac T
      refine g_q (T := T) (i := 37) rfl (by kernel_rfl) (by kernel_rfl : (pbits 62 137438953471).setIfInBounds 37 true = pbits 62 274877906943) si_U (fun _ _ _ h => h) (wanted_yes rfl rfl (T.ev 5 rfl) (decide_eq_true h16)) rfl rfl rfl (fun _ _ _ _ _ => (rn_move rfl (T.ev 43 rfl))) ?_; clear T ac; intro ac T
      refine g_q (T := T) (i := 38) rfl (by kernel_rfl) (by kernel_rfl : (pbits 62 274877906943).setIfInBounds 38 true = pbits 62 549755813887) si_U (fun _ _ _ h => h) (wanted_yes rfl rfl (T.ev 6 rfl) (decide_eq_true h16)) rfl rfl rfl (fun _ _ _ _ _ => (rn_move rfl (T.ev 48 rfl))) ?_; clear T ac; intro ac T
      refine g_q (T := T) (i := 39) rfl (by kernel_rfl) (by kernel_rfl : (pbits 62 549755813887).setIfInBounds 39 true = pbits 62 1099511627775) si_U (fun _ _ _ h => h) (wanted_yes rfl rfl (T.ev 7 rfl) (decide_eq_true h16)) rfl rfl rfl (fun _ _ _ _ _ => (rn_indexAddr (size := 3) k rfl (T.ev 1 rfl) (T.ev 0 rfl) ⟨_, Tryd.underlying28, by kernel_rfl⟩ rfl (by omega) (SAPu5.at0 (by omega)))) ?_; clear T ac; intro ac T
      refine g_q (T := T) (i := 40) rfl (by kernel_rfl) (by kernel_rfl : (pbits 62 1099511627775).setIfInBounds 40 true = pbits 62 2199023255551) si_U (fun _ _ _ h => h) (wanted_yes rfl rfl (T.ev 8 rfl) (decide_eq_true h16)) rfl rfl rfl (fun _ _ _ _ _ => (rn_fieldAddr (off := 1) rfl (T.ev 0 rfl) (fun _ _ _ => by kernel_rfl))) ?_; clear T ac; intro ac T
      refine g_q (T := T) (i := 41) rfl (by kernel_rfl) (by kernel_rfl : (pbits 62 2199023255551).setIfInBounds 41 true = pbits 62 4398046511103) si_U (fun _ _ _ h => h) (wanted_yes rfl rfl (T.ev 9 rfl) (decide_eq_true h16)) rfl rfl rfl (fun B w' hD hl hS => (rn_cell (Sp.tcC1 SAPu5 (show Mem w noEx w' _ from hS) (.cons _ (List.sublist_append_right _ _)) hkq2) rfl (T.ev 0 rfl))) ?_; clear T ac; intro ac T
      refine g_q (T := T) (i := 42) rfl (by kernel_rfl) (by kernel_rfl : (pbits 62 4398046511103).setIfInBounds 42 true = pbits 62 8796093022207) si_U (fun _ _ _ h => h) (wanted_yes rfl rfl (T.ev 10 rfl) (decide_eq_true h16)) rfl rfl rfl (fun _ _ _ _ _ => (rn_move rfl (T.ev 43 rfl))) ?_; clear T ac; intro ac T
      refine g_q (T := T) (i := 43) rfl (by kernel_rfl) (by kernel_rfl : (pbits 62 8796093022207).setIfInBounds 43 true = pbits 62 17592186044415) si_U (fun _ _ _ h => h) (wanted_yes rfl rfl (T.ev 11 rfl) (decide_eq_true h16)) rfl rfl rfl (fun _ _ _ _ _ => (rn_add rfl (T.ev 1 rfl) (T.ev 0 rfl) (by omega))) ?_; clear T ac; intro ac T
      refine g_q (T := T) (i := 44) rfl (by kernel_rfl) (by kernel_rfl : (pbits 62 17592186044415).setIfInBounds 44 true = pbits 62 35184372088831) si_U (fun _ _ _ h => h) (wanted_yes rfl rfl (T.ev 12 rfl) (decide_eq_true h16)) rfl rfl rfl (fun _ _ _ _ _ => (rn_lss rfl (T.ev 7 rfl) (T.ev 0 rfl))) ?_; clear T ac; intro ac T
      refine g_q (T := T) (i := 45) rfl (by kernel_rfl) (by kernel_rfl : (pbits 62 35184372088831).setIfInBounds 45 true = pbits 62 70368744177663) si_U (fun _ _ _ h => h) (wanted_yes rfl rfl (T.ev 42 rfl) rfl) rfl rfl rfl (fun _ _ _ _ _ => (rn_pick1 rfl (T.ev 13 rfl) (decide_eq_true h16) (T.ev 0 rfl))) ?_; clear T ac; intro ac T
      refine g_q (T := T) (i := 46) rfl (by kernel_rfl) (by kernel_rfl : (pbits 62 70368744177663).setIfInBounds 46 true = pbits 62 140737488355327) si_U (fun _ _ _ h => h) (wanted_yes rfl rfl (T.ev 43 rfl) rfl) rfl rfl rfl (fun _ _ _ _ _ => (rn_move rfl (T.ev 0 rfl))) ?_; clear T ac; intro ac T
      rcases Bool.eq_false_or_eq_true (decide (q.y < (q2.y + (sizeW (cutA s bu4) (cutC s bu4) p2 q2.t)))) with h17 | h17
      ·replace h17 := of_decide_eq_true h17
       refine g_q (T := T) (i := 47) rfl (by kernel_rfl) (by kernel_rfl : (pbits 62 140737488355327).setIfInBounds 47 true = pbits 62 281474976710655) si_U (fun _ _ _ h => h) (wanted_yes rfl rfl (T.ev 0 rfl) (decide_eq_true h17)) rfl rfl rfl (fun _ _ _ _ _ => (rn_move rfl (T.ev 53 rfl))) ?_; clear T ac; intro ac T
       refine g_q (T := T) (i := 48) rfl (by kernel_rfl) (by kernel_rfl : (pbits 62 281474976710655).setIfInBounds 48 true = pbits 62 562949953421311) si_U (fun _ _ _ h => h) (wanted_yes rfl rfl (T.ev 1 rfl) (decide_eq_true h17)) rfl rfl rfl (fun _ _ _ _ _ => (rn_move rfl (T.ev 58 rfl))) ?_; clear T ac; intro ac T
       refine g_q (T := T) (i := 49) rfl (by kernel_rfl) (by kernel_rfl : (pbits 62 562949953421311).setIfInBounds 49 true = pbits 62 1125899906842623) si_U (fun _ _ _ h => h) (wanted_yes rfl rfl (T.ev 2 rfl) (decide_eq_true h17)) rfl rfl rfl (fun _ _ _ _ _ => (rn_indexAddr (size := 3) k rfl (T.ev 1 rfl) (T.ev 0 rfl) ⟨_, Tryd.underlying28, by kernel_rfl⟩ rfl (by omega) (SAPu5.at0 (by omega)))) ?_; clear T ac; intro ac T
       refine g_q (T := T) (i := 50) rfl (by kernel_rfl) (by kernel_rfl : (pbits 62 1125899906842623).setIfInBounds 50 true = pbits 62 2251799813685247) si_U (fun _ _ _ h => h) (wanted_yes rfl rfl (T.ev 3 rfl) (decide_eq_true h17)) rfl rfl rfl (fun _ _ _ _ _ => (rn_fieldAddr (off := 1) rfl (T.ev 0 rfl) (fun _ _ _ => by kernel_rfl))) ?_; clear T ac; intro ac T
       refine g_q (T := T) (i := 51) rfl (by kernel_rfl) (by kernel_rfl : (pbits 62 2251799813685247).setIfInBounds 51 true = pbits 62 4503599627370495) si_U (fun _ _ _ h => h) (wanted_yes rfl rfl (T.ev 4 rfl) (decide_eq_true h17)) rfl rfl rfl (fun B w' hD hl hS => (rn_cell (Sp.tcC1 SAPu5 (show Mem w noEx w' _ from hS) (.cons _ (List.sublist_append_right _ _)) hkq2) rfl (T.ev 0 rfl))) ?_; clear T ac; intro ac T
       refine g_q (T := T) (i := 52) rfl (by kernel_rfl) (by kernel_rfl : (pbits 62 4503599627370495).setIfInBounds 52 true = pbits 62 9007199254740991) si_U (fun _ _ _ h => h) (wanted_yes rfl rfl (T.ev 5 rfl) (decide_eq_true h17)) rfl rfl rfl (fun _ _ _ _ _ => (rn_move rfl (T.ev 58 rfl))) ?_; clear T ac; intro ac T
       refine g_q (T := T) (i := 53) rfl (by kernel_rfl) (by kernel_rfl : (pbits 62 9007199254740991).setIfInBounds 53 true = pbits 62 18014398509481983) si_U (fun _ _ _ h => h) (wanted_yes rfl rfl (T.ev 6 rfl) (decide_eq_true h17)) rfl rfl rfl (fun _ _ _ _ _ => (rn_move rfl (T.ev 60 rfl))) ?_; clear T ac; intro ac T
       refine g_q (T := T) (i := 54) rfl (by kernel_rfl) (by kernel_rfl : (pbits 62 18014398509481983).setIfInBounds 54 true = pbits 62 36028797018963967) si_U (fun _ _ _ h => h) (wanted_yes rfl rfl (T.ev 7 rfl) (decide_eq_true h17)) rfl rfl rfl (fun _ _ _ _ _ => (rn_indexAddr (size := 3) i rfl (T.ev 1 rfl) (T.ev 0 rfl) ⟨_, Tryd.underlying28, by kernel_rfl⟩ rfl (by omega) (SAPu5.at0 (by omega)))) ?_; clear T ac; intro ac T
       refine g_q (T := T) (i := 55) rfl (by kernel_rfl) (by kernel_rfl : (pbits 62 36028797018963967).setIfInBounds 55 true = pbits 62 72057594037927935) si_U (fun _ _ _ h => h) (wanted_yes rfl rfl (T.ev 8 rfl) (decide_eq_true h17)) rfl rfl rfl (fun _ _ _ _ _ => (rn_fieldAddr (off := 1) rfl (T.ev 0 rfl) (fun _ _ _ => by kernel_rfl))) ?_; clear T ac; intro ac T
       refine g_q (T := T) (i := 56) rfl (by kernel_rfl) (by kernel_rfl : (pbits 62 72057594037927935).setIfInBounds 56 true = pbits 62 144115188075855871) si_U (fun _ _ _ h => h) (wanted_yes rfl rfl (T.ev 9 rfl) (decide_eq_true h17)) rfl rfl rfl (fun B w' hD hl hS => (rn_cell (Sp.tcC1 SAPu5 (show Mem w noEx w' _ from hS) (.cons _ (List.sublist_append_right _ _)) hkq) rfl (T.ev 0 rfl))) ?_; clear T ac; intro ac T
       refine g_q (T := T) (i := 57) rfl (by kernel_rfl) (by kernel_rfl : (pbits 62 144115188075855871).setIfInBounds 57 true = pbits 62 288230376151711743) si_U (fun _ _ _ h => h) (wanted_yes rfl rfl (T.ev 10 rfl) (decide_eq_true h17)) rfl rfl rfl (fun _ _ _ _ _ => (rn_move rfl (T.ev 66 rfl))) ?_; clear T ac; intro ac T
       refine g_q (T := T) (i := 58) rfl (by kernel_rfl) (by kernel_rfl : (pbits 62 288230376151711743).setIfInBounds 58 true = pbits 62 576460752303423487) si_U (fun _ _ _ h => h) (wanted_yes rfl rfl (T.ev 11 rfl) (decide_eq_true h17)) rfl rfl rfl (fun _ _ _ _ _ => (rn_add rfl (T.ev 1 rfl) (T.ev 0 rfl) (by omega))) ?_; clear T ac; intro ac T
       refine g_q (T := T) (i := 59) rfl (by kernel_rfl) (by kernel_rfl : (pbits 62 576460752303423487).setIfInBounds 59 true = pbits 62 1152921504606846975) si_U (fun _ _ _ h => h) (wanted_yes rfl rfl (T.ev 12 rfl) (decide_eq_true h17)) rfl rfl rfl (fun _ _ _ _ _ => (rn_lss rfl (T.ev 7 rfl) (T.ev 0 rfl))) ?_; clear T ac; intro ac T
       refine g_q (T := T) (i := 60) rfl (by kernel_rfl) (by kernel_rfl : (pbits 62 1152921504606846975).setIfInBounds 60 true = pbits 62 2305843009213693951) si_U (fun _ _ _ h => h) (wanted_yes rfl rfl (T.ev 57 rfl) rfl) rfl rfl rfl (fun _ _ _ _ _ => (rn_pick1 rfl (T.ev 13 rfl) (decide_eq_true h17) (T.ev 0 rfl))) ?_; clear T ac; intro ac T
       refine gq T 61 4611686018427387903 rfl (fun _ _ _ _ _ => (rn_pick0 rfl (T.ev 58 rfl) rfl (T.ev 0 rfl))) ?_; clear T ac; intro ac T
       refine g_done (by kernel_rfl) ?_
       replace T := T.pick [0, 1, 2, 3, 4, 5, 6, 7, 8, 9, 10, 11, 12, 13, 14, 15, 16, 17, 18, 19, 20, 21, 22, 23, 24, 25, 26, 27, 28, 29, 30, 31, 32, 33, 34, 35, 36, 37, 38, 39, 40, 41, 42, 43, 44, 45, 46, 47, 48, 49, 50, 51, 52, 53, 54, 55, 56, 57, 58, 65, 66, 67, 68, 69, 70, 71, 72, 73, 74, 75, 76, 77, 78] rfl
       exact ⟨(T.pick (E' := [(4, .pointer (some ⟨g1, 0, none⟩)), (5, .slice AXu3 lxu3.length cXu3), (6, .bool bu4), (7, .slice APu5 ((planL s lxu3 bu4).length) cPu5), (13, .int .i64 (i : Int)), (14, .int .i64 (sizeL (cutA s bu4) (cutC s bu4) p q.t)), (15, .int .i64 (sizeW (cutA s bu4) (cutC s bu4) p q.t)), (17, .int .i64 (k : Int)), (133, .slice APu5 ((planL s lxu3 bu4).length) cPu5), (134, .int .i64 (i : Int)), (135, .pointer (some ⟨bAPu5, oAPu5 + i * 3, none⟩)), (136, .pointer (some ⟨bAPu5, oAPu5 + i * 3 + 0, none⟩)), (137, .int .i64 q.x), (138, .bool (decide (q.x < 0))), (196, .slice APu5 ((planL s lxu3 bu4).length) cPu5), (197, .int .i64 (i : Int)), (198, .pointer (some ⟨bAPu5, oAPu5 + i * 3, none⟩)), (199, .pointer (some ⟨bAPu5, oAPu5 + i * 3 + 0, none⟩)), (200, .int .i64 q.x), (201, .slice APu5 ((planL s lxu3 bu4).length) cPu5), (202, .int .i64 (k : Int)), (203, .pointer (some ⟨bAPu5, oAPu5 + k * 3, none⟩)), (204, .pointer (some ⟨bAPu5, oAPu5 + k * 3 + 0, none⟩)), (205, .int .i64 q2.x), (206, .int .i64 (sizeL (cutA s bu4) (cutC s bu4) p2 q2.t)), (207, .int .i64 (q2.x + (sizeL (cutA s bu4) (cutC s bu4) p2 q2.t))), (208, .bool (decide (q.x < (q2.x + (sizeL (cutA s bu4) (cutC s bu4) p2 q2.t))))), (209, .bool (decide (q.x < (q2.x + (sizeL (cutA s bu4) (cutC s bu4) p2 q2.t))))), (223, .bool (decide (q2.x < (q.x + (sizeL (cutA s bu4) (cutC s bu4) p q.t))))), (224, .bool (decide (q2.x < (q.x + (sizeL (cutA s bu4) (cutC s bu4) p q.t))))), (238, .bool (decide (q.y < (q2.y + (sizeW (cutA s bu4) (cutC s bu4) p2 q2.t))))), (239, .bool (decide (q.y < (q2.y + (sizeW (cutA s bu4) (cutC s bu4) p2 q2.t))))), (253, .bool (decide (q2.y < (q.y + (sizeW (cutA s bu4) (cutC s bu4) p q.t))))), (254, .bool (decide (q2.y < (q.y + (sizeW (cutA s bu4) (cutC s bu4) p q.t)))))]) [59, 60, 61, 62, 63, 64, 65, 66, 67, 68, 69, 70, 71, 72, 58, 57, 56, 55, 54, 53, 52, 51, 50, 49, 48, 47, 46, 45, 31, 30, 16, 15, 1, 0] rfl).as (by (try rw [show (decide (q.x < (q2.x + (sizeL (cutA s bu4) (cutC s bu4) p2 q2.t)))) = true from (decide_eq_true h15)]); (try rw [show (decide (q2.x < (q.x + (sizeL (cutA s bu4) (cutC s bu4) p q.t)))) = true from (decide_eq_true h16)]); (try rw [show (decide (q.y < (q2.y + (sizeW (cutA s bu4) (cutC s bu4) p2 q2.t)))) = true from (decide_eq_true h17)]); (try rfl)), M.mask [true] rfl⟩
      replace h17 := of_decide_eq_false h17
      refine g_pass (T := T) (i := 47) rfl (by kernel_rfl) (by kernel_rfl : (pbits 62 140737488355327).setIfInBounds 47 true = pbits 62 281474976710655) si_U (fun _ _ _ h => h) (wanted_no rfl rfl (T.ev 0 rfl) (decide_eq_false h17)) rfl rfl rfl ?_; clear T ac; intro ac T
      refine g_pass (T := T) (i := 48) rfl (by kernel_rfl) (by kernel_rfl : (pbits 62 281474976710655).setIfInBounds 48 true = pbits 62 562949953421311) si_U (fun _ _ _ h => h) (wanted_no rfl rfl (T.ev 1 rfl) (decide_eq_false h17)) rfl rfl rfl ?_; clear T ac; intro ac T
      refine g_pass (T := T) (i := 49) rfl (by kernel_rfl) (by kernel_rfl : (pbits 62 562949953421311).setIfInBounds 49 true = pbits 62 1125899906842623) si_U (fun _ _ _ h => h) (wanted_no rfl rfl (T.ev 2 rfl) (decide_eq_false h17)) rfl rfl rfl ?_; clear T ac; intro ac T
      refine g_pass (T := T) (i := 50) rfl (by kernel_rfl) (by kernel_rfl : (pbits 62 1125899906842623).setIfInBounds 50 true = pbits 62 2251799813685247) si_U (fun _ _ _ h => h) (wanted_no rfl rfl (T.ev 3 rfl) (decide_eq_false h17)) rfl rfl rfl ?_; clear T ac; intro ac T
      refine g_pass (T := T) (i := 51) rfl (by kernel_rfl) (by kernel_rfl : (pbits 62 2251799813685247).setIfInBounds 51 true = pbits 62 4503599627370495) si_U (fun _ _ _ h => h) (wanted_no rfl rfl (T.ev 4 rfl) (decide_eq_false h17)) rfl rfl rfl ?_; clear T ac; intro ac T
      refine g_pass (T := T) (i := 52) rfl (by kernel_rfl) (by kernel_rfl : (pbits 62 4503599627370495).setIfInBounds 52 true = pbits 62 9007199254740991) si_U (fun _ _ _ h => h) (wanted_no rfl rfl (T.ev 5 rfl) (decide_eq_false h17)) rfl rfl rfl ?_; clear T ac; intro ac T
      refine g_pass (T := T) (i := 53) rfl (by kernel_rfl) (by kernel_rfl : (pbits 62 9007199254740991).setIfInBounds 53 true = pbits 62 18014398509481983) si_U (fun _ _ _ h => h) (wanted_no rfl rfl (T.ev 6 rfl) (decide_eq_false h17)) rfl rfl rfl ?_; clear T ac; intro ac T
      refine g_pass (T := T) (i := 54) rfl (by kernel_rfl) (by kernel_rfl : (pbits 62 18014398509481983).setIfInBounds 54 true = pbits 62 36028797018963967) si_U (fun _ _ _ h => h) (wanted_no rfl rfl (T.ev 7 rfl) (decide_eq_false h17)) rfl rfl rfl ?_; clear T ac; intro ac T
      refine g_pass (T := T) (i := 55) rfl (by kernel_rfl) (by kernel_rfl : (pbits 62 36028797018963967).setIfInBounds 55 true = pbits 62 72057594037927935) si_U (fun _ _ _ h => h) (wanted_no rfl rfl (T.ev 8 rfl) (decide_eq_false h17)) rfl rfl rfl ?_; clear T ac; intro ac T
      refine g_pass (T := T) (i := 56) rfl (by kernel_rfl) (by kernel_rfl : (pbits 62 72057594037927935).setIfInBounds 56 true = pbits 62 144115188075855871) si_U (fun _ _ _ h => h) (wanted_no rfl rfl (T.ev 9 rfl) (decide_eq_false h17)) rfl rfl rfl ?_; clear T ac; intro ac T
      refine g_pass (T := T) (i := 57) rfl (by kernel_rfl) (by kernel_rfl : (pbits 62 144115188075855871).setIfInBounds 57 true = pbits 62 288230376151711743) si_U (fun _ _ _ h => h) (wanted_no rfl rfl (T.ev 10 rfl) (decide_eq_false h17)) rfl rfl rfl ?_; clear T ac; intro ac T
      refine g_pass (T := T) (i := 58) rfl (by kernel_rfl) (by kernel_rfl : (pbits 62 288230376151711743).setIfInBounds 58 true = pbits 62 576460752303423487) si_U (fun _ _ _ h => h) (wanted_no rfl rfl (T.ev 11 rfl) (decide_eq_false h17)) rfl rfl rfl ?_; clear T ac; intro ac T
      refine g_pass (T := T) (i := 59) rfl (by kernel_rfl) (by kernel_rfl : (pbits 62 576460752303423487).setIfInBounds 59 true = pbits 62 1152921504606846975) si_U (fun _ _ _ h => h) (wanted_no rfl rfl (T.ev 12 rfl) (decide_eq_false h17)) rfl rfl rfl ?_; clear T ac; intro ac T
      refine g_q (T := T) (i := 60) rfl (by kernel_rfl) (by kernel_rfl : (pbits 62 1152921504606846975).setIfInBounds 60 true = pbits 62 2305843009213693951) si_U (fun _ _ _ h => h) (wanted_yes rfl rfl (T.ev 57 rfl) rfl) rfl rfl rfl (fun _ _ _ _ _ => (rn_pick0 rfl (T.ev 13 rfl) (decide_eq_false h17) evc)) ?_; clear T ac; intro ac T
      refine gq T 61 4611686018427387903 rfl (fun _ _ _ _ _ => (rn_pick0 rfl (T.ev 58 rfl) rfl (T.ev 0 rfl))) ?_; clear T ac; intro ac T
      refine g_done (by kernel_rfl) ?_
      replace T := T.pick [0, 1, 2, 3, 4, 5, 6, 7, 8, 9, 10, 11, 12, 13, 14, 15, 16, 17, 18, 19, 20, 21, 22, 23, 24, 25, 26, 27, 28, 29, 30, 31, 32, 33, 34, 35, 36, 37, 38, 39, 40, 41, 42, 43, 44, 45, 46, 47, 48, 49, 50, 51, 52, 53, 54, 55, 56, 57, 58, 65, 66, 67, 68, 69, 70, 71, 72, 73, 74, 75, 76, 77, 78] rfl
      exact ⟨(T.pick (E' := [(4, .pointer (some ⟨g1, 0, none⟩)), (5, .slice AXu3 lxu3.length cXu3), (6, .bool bu4), (7, .slice APu5 ((planL s lxu3 bu4).length) cPu5), (13, .int .i64 (i : Int)), (14, .int .i64 (sizeL (cutA s bu4) (cutC s bu4) p q.t)), (15, .int .i64 (sizeW (cutA s bu4) (cutC s bu4) p q.t)), (17, .int .i64 (k : Int)), (133, .slice APu5 ((planL s lxu3 bu4).length) cPu5), (134, .int .i64 (i : Int)), (135, .pointer (some ⟨bAPu5, oAPu5 + i * 3, none⟩)), (136, .pointer (some ⟨bAPu5, oAPu5 + i * 3 + 0, none⟩)), (137, .int .i64 q.x), (138, .bool (decide (q.x < 0))), (196, .slice APu5 ((planL s lxu3 bu4).length) cPu5), (197, .int .i64 (i : Int)), (198, .pointer (some ⟨bAPu5, oAPu5 + i * 3, none⟩)), (199, .pointer (some ⟨bAPu5, oAPu5 + i * 3 + 0, none⟩)), (200, .int .i64 q.x), (201, .slice APu5 ((planL s lxu3 bu4).length) cPu5), (202, .int .i64 (k : Int)), (203, .pointer (some ⟨bAPu5, oAPu5 + k * 3, none⟩)), (204, .pointer (some ⟨bAPu5, oAPu5 + k * 3 + 0, none⟩)), (205, .int .i64 q2.x), (206, .int .i64 (sizeL (cutA s bu4) (cutC s bu4) p2 q2.t)), (207, .int .i64 (q2.x + (sizeL (cutA s bu4) (cutC s bu4) p2 q2.t))), (208, .bool (decide (q.x < (q2.x + (sizeL (cutA s bu4) (cutC s bu4) p2 q2.t))))), (209, .bool (decide (q.x < (q2.x + (sizeL (cutA s bu4) (cutC s bu4) p2 q2.t))))), (223, .bool (decide (q2.x < (q.x + (sizeL (cutA s bu4) (cutC s bu4) p q.t))))), (224, .bool (decide (q2.x < (q.x + (sizeL (cutA s bu4) (cutC s bu4) p q.t))))), (238, .bool (decide (q.y < (q2.y + (sizeW (cutA s bu4) (cutC s bu4) p2 q2.t))))), (239, .bool (decide (q.y < (q2.y + (sizeW (cutA s bu4) (cutC s bu4) p2 q2.t))))), (253, .bool false), (254, .bool false)]) [59, 60, 61, 62, 63, 64, 65, 66, 67, 68, 69, 70, 71, 72, 58, 57, 56, 55, 54, 53, 52, 51, 50, 49, 48, 47, 46, 45, 31, 30, 16, 15, 1, 0] rfl).as (by (try rw [show (decide (q.x < (q2.x + (sizeL (cutA s bu4) (cutC s bu4) p2 q2.t)))) = true from (decide_eq_true h15)]); (try rw [show (decide (q2.x < (q.x + (sizeL (cutA s bu4) (cutC s bu4) p q.t)))) = true from (decide_eq_true h16)]); (try rw [show (decide (q.y < (q2.y + (sizeW (cutA s bu4) (cutC s bu4) p2 q2.t)))) = false from (decide_eq_false h17)]); (try rfl)), M.mask [true] rfl⟩
     replace h16 := of_decide_eq_false h16
     refine g_pass (T := T) (i := 32) rfl (by kernel_rfl) (by kernel_rfl : (pbits 62 4294967295).setIfInBounds 32 true = pbits 62 8589934591) si_U (fun _ _ _ h => h) (wanted_no rfl rfl (T.ev 0 rfl) (decide_eq_false h16)) rfl rfl rfl ?_; clear T ac; intro ac T
     refine g_pass (T := T) (i := 33) rfl (by kernel_rfl) (by kernel_rfl : (pbits 62 8589934591).setIfInBounds 33 true = pbits 62 17179869183) si_U (fun _ _ _ h => h) (wanted_no rfl rfl (T.ev 1 rfl) (decide_eq_false h16)) rfl rfl rfl ?_; clear T ac; intro ac T
     refine g_pass (T := T) (i := 34) rfl (by kernel_rfl) (by kernel_rfl : (pbits 62 17179869183).setIfInBounds 34 true = pbits 62 34359738367) si_U (fun _ _ _ h => h) (wanted_no rfl rfl (T.ev 2 rfl) (decide_eq_false h16)) rfl rfl rfl ?_; clear T ac; intro ac T
     refine g_pass (T := T) (i := 35) rfl (by kernel_rfl) (by kernel_rfl : (pbits 62 34359738367).setIfInBounds 35 true = pbits 62 68719476735) si_U (fun _ _ _ h => h) (wanted_no rfl rfl (T.ev 3 rfl) (decide_eq_false h16)) rfl rfl rfl ?_; clear T ac; intro ac T
     refine g_pass (T := T) (i := 36) rfl (by kernel_rfl) (by kernel_rfl : (pbits 62 68719476735).setIfInBounds 36 true = pbits 62 137438953471) si_U (fun _ _ _ h => h) (wanted_no rfl rfl (T.ev 4 rfl) (decide_eq_false h16)) rfl rfl rfl ?_; clear T ac; intro ac T
     refine g_pass (T := T) (i := 37) rfl (by kernel_rfl) (by kernel_rfl : (pbits 62 137438953471).setIfInBounds 37 true = pbits 62 274877906943) si_U (fun _ _ _ h => h) (wanted_no rfl rfl (T.ev 5 rfl) (decide_eq_false h16)) rfl rfl rfl ?_; clear T ac; intro ac T
     refine g_pass (T := T) (i := 38) rfl (by kernel_rfl) (by kernel_rfl : (pbits 62 274877906943).setIfInBounds 38 true = pbits 62 549755813887) si_U (fun _ _ _ h => h) (wanted_no rfl rfl (T.ev 6 rfl) (decide_eq_false h16)) rfl rfl rfl ?_; clear T ac; intro ac T
     refine g_pass (T := T) (i := 39) rfl (by kernel_rfl) (by kernel_rfl : (pbits 62 549755813887).setIfInBounds 39 true = pbits 62 1099511627775) si_U (fun _ _ _ h => h) (wanted_no rfl rfl (T.ev 7 rfl) (decide_eq_false h16)) rfl rfl rfl ?_; clear T ac; intro ac T
     refine g_pass (T := T) (i := 40) rfl (by kernel_rfl) (by kernel_rfl : (pbits 62 1099511627775).setIfInBounds 40 true = pbits 62 2199023255551) si_U (fun _ _ _ h => h) (wanted_no rfl rfl (T.ev 8 rfl) (decide_eq_false h16)) rfl rfl rfl ?_; clear T ac; intro ac T
     refine g_pass (T := T) (i := 41) rfl (by kernel_rfl) (by kernel_rfl : (pbits 62 2199023255551).setIfInBounds 41 true = pbits 62 4398046511103) si_U (fun _ _ _ h => h) (wanted_no rfl rfl (T.ev 9 rfl) (decide_eq_false h16)) rfl rfl rfl ?_; clear T ac; intro ac T
     refine g_pass (T := T) (i := 42) rfl (by kernel_rfl) (by kernel_rfl : (pbits 62 4398046511103).setIfInBounds 42 true = pbits 62 8796093022207) si_U (fun _ _ _ h => h) (wanted_no rfl rfl (T.ev 10 rfl) (decide_eq_false h16)) rfl rfl rfl ?_; clear T ac; intro ac T
     refine g_pass (T := T) (i := 43) rfl (by kernel_rfl) (by kernel_rfl : (pbits 62 8796093022207).setIfInBounds 43 true = pbits 62 17592186044415) si_U (fun _ _ _ h => h) (wanted_no rfl rfl (T.ev 11 rfl) (decide_eq_false h16)) rfl rfl rfl ?_; clear T ac; intro ac T
     refine g_pass (T := T) (i := 44) rfl (by kernel_rfl) (by kernel_rfl : (pbits 62 17592186044415).setIfInBounds 44 true = pbits 62 35184372088831) si_U (fun _ _ _ h => h) (wanted_no rfl rfl (T.ev 12 rfl) (decide_eq_false h16)) rfl rfl rfl ?_; clear T ac; intro ac T
     refine g_q (T := T) (i := 45) rfl (by kernel_rfl) (by kernel_rfl : (pbits 62 35184372088831).setIfInBounds 45 true = pbits 62 70368744177663) si_U (fun _ _ _ h => h) (wanted_yes rfl rfl (T.ev 42 rfl) rfl) rfl rfl rfl (fun _ _ _ _ _ => (rn_pick0 rfl (T.ev 13 rfl) (decide_eq_false h16) evc)) ?_; clear T ac; intro ac T
     refine g_q (T := T) (i := 46) rfl (by kernel_rfl) (by kernel_rfl : (pbits 62 70368744177663).setIfInBounds 46 true = pbits 62 140737488355327) si_U (fun _ _ _ h => h) (wanted_yes rfl rfl (T.ev 43 rfl) rfl) rfl rfl rfl (fun _ _ _ _ _ => (rn_move rfl (T.ev 0 rfl))) ?_; clear T ac; intro ac T
     refine g_pass (T := T) (i := 47) rfl (by kernel_rfl) (by kernel_rfl : (pbits 62 140737488355327).setIfInBounds 47 true = pbits 62 281474976710655) si_U (fun _ _ _ h => h) (wanted_no rfl rfl (T.ev 0 rfl) rfl) rfl rfl rfl ?_; clear T ac; intro ac T
     refine g_pass (T := T) (i := 48) rfl (by kernel_rfl) (by kernel_rfl : (pbits 62 281474976710655).setIfInBounds 48 true = pbits 62 562949953421311) si_U (fun _ _ _ h => h) (wanted_no rfl rfl (T.ev 1 rfl) rfl) rfl rfl rfl ?_; clear T ac; intro ac T
     refine g_pass (T := T) (i := 49) rfl (by kernel_rfl) (by kernel_rfl : (pbits 62 562949953421311).setIfInBounds 49 true = pbits 62 1125899906842623) si_U (fun _ _ _ h => h) (wanted_no rfl rfl (T.ev 2 rfl) rfl) rfl rfl rfl ?_; clear T ac; intro ac T
     refine g_pass (T := T) (i := 50) rfl (by kernel_rfl) (by kernel_rfl : (pbits 62 1125899906842623).setIfInBounds 50 true = pbits 62 2251799813685247) si_U (fun _ _ _ h => h) (wanted_no rfl rfl (T.ev 3 rfl) rfl) rfl rfl rfl ?_; clear T ac; intro ac T
     refine g_pass (T := T) (i := 51) rfl (by kernel_rfl) (by kernel_rfl : (pbits 62 2251799813685247).setIfInBounds 51 true = pbits 62 4503599627370495) si_U (fun _ _ _ h => h) (wanted_no rfl rfl (T.ev 4 rfl) rfl) rfl rfl rfl ?_; clear T ac; intro ac T
     refine g_pass (T := T) (i := 52) rfl (by kernel_rfl) (by kernel_rfl : (pbits 62 4503599627370495).setIfInBounds 52 true = pbits 62 9007199254740991) si_U (fun _ _ _ h => h) (wanted_no rfl rfl (T.ev 5 rfl) rfl) rfl rfl rfl ?_; clear T ac; intro ac T
     refine g_pass (T := T) (i := 53) rfl (by kernel_rfl) (by kernel_rfl : (pbits 62 9007199254740991).setIfInBounds 53 true = pbits 62 18014398509481983) si_U (fun _ _ _ h => h) (wanted_no rfl rfl (T.ev 6 rfl) rfl) rfl rfl rfl ?_; clear T ac; intro ac T
     refine g_pass (T := T) (i := 54) rfl (by kernel_rfl) (by kernel_rfl : (pbits 62 18014398509481983).setIfInBounds 54 true = pbits 62 36028797018963967) si_U (fun _ _ _ h => h) (wanted_no rfl rfl (T.ev 7 rfl) rfl) rfl rfl rfl ?_; clear T ac; intro ac T
     refine g_pass (T := T) (i := 55) rfl (by kernel_rfl) (by kernel_rfl : (pbits 62 36028797018963967).setIfInBounds 55 true = pbits 62 72057594037927935) si_U (fun _ _ _ h => h) (wanted_no rfl rfl (T.ev 8 rfl) rfl) rfl rfl rfl ?_; clear T ac; intro ac T
     refine g_pass (T := T) (i := 56) rfl (by kernel_rfl) (by kernel_rfl : (pbits 62 72057594037927935).setIfInBounds 56 true = pbits 62 144115188075855871) si_U (fun _ _ _ h => h) (wanted_no rfl rfl (T.ev 9 rfl) rfl) rfl rfl rfl ?_; clear T ac; intro ac T
     refine g_pass (T := T) (i := 57) rfl (by kernel_rfl) (by kernel_rfl : (pbits 62 144115188075855871).setIfInBounds 57 true = pbits 62 288230376151711743) si_U (fun _ _ _ h => h) (wanted_no rfl rfl (T.ev 10 rfl) rfl) rfl rfl rfl ?_; clear T ac; intro ac T
     refine g_pass (T := T) (i := 58) rfl (by kernel_rfl) (by kernel_rfl : (pbits 62 288230376151711743).setIfInBounds 58 true = pbits 62 576460752303423487) si_U (fun _ _ _ h => h) (wanted_no rfl rfl (T.ev 11 rfl) rfl) rfl rfl rfl ?_; clear T ac; intro ac T
     refine g_pass (T := T) (i := 59) rfl (by kernel_rfl) (by kernel_rfl : (pbits 62 576460752303423487).setIfInBounds 59 true = pbits 62 1152921504606846975) si_U (fun _ _ _ h => h) (wanted_no rfl rfl (T.ev 12 rfl) rfl) rfl rfl rfl ?_; clear T ac; intro ac T
     refine g_q (T := T) (i := 60) rfl (by kernel_rfl) (by kernel_rfl : (pbits 62 1152921504606846975).setIfInBounds 60 true = pbits 62 2305843009213693951) si_U (fun _ _ _ h => h) (wanted_yes rfl rfl (T.ev 57 rfl) rfl) rfl rfl rfl (fun _ _ _ _ _ => (rn_pick0 rfl (T.ev 13 rfl) rfl evc)) ?_; clear T ac; intro ac T
     refine gq T 61 4611686018427387903 rfl (fun _ _ _ _ _ => (rn_pick0 rfl (T.ev 58 rfl) rfl (T.ev 0 rfl))) ?_; clear T ac; intro ac T
     refine g_done (by kernel_rfl) ?_
     replace T := T.pick [0, 1, 2, 3, 4, 5, 6, 7, 8, 9, 10, 11, 12, 13, 14, 15, 16, 17, 18, 19, 20, 21, 22, 23, 24, 25, 26, 27, 28, 29, 30, 31, 32, 33, 34, 35, 36, 37, 38, 39, 40, 41, 42, 43, 44, 45, 46, 47, 48, 49, 50, 51, 52, 53, 54, 55, 56, 57, 58, 65, 66, 67, 68, 69, 70, 71, 72, 73, 74, 75, 76, 77, 78] rfl
     exact ⟨(T.pick (E' := [(4, .pointer (some ⟨g1, 0, none⟩)), (5, .slice AXu3 lxu3.length cXu3), (6, .bool bu4), (7, .slice APu5 ((planL s lxu3 bu4).length) cPu5), (13, .int .i64 (i : Int)), (14, .int .i64 (sizeL (cutA s bu4) (cutC s bu4) p q.t)), (15, .int .i64 (sizeW (cutA s bu4) (cutC s bu4) p q.t)), (17, .int .i64 (k : Int)), (133, .slice APu5 ((planL s lxu3 bu4).length) cPu5), (134, .int .i64 (i : Int)), (135, .pointer (some ⟨bAPu5, oAPu5 + i * 3, none⟩)), (136, .pointer (some ⟨bAPu5, oAPu5 + i * 3 + 0, none⟩)), (137, .int .i64 q.x), (138, .bool (decide (q.x < 0))), (196, .slice APu5 ((planL s lxu3 bu4).length) cPu5), (197, .int .i64 (i : Int)), (198, .pointer (some ⟨bAPu5, oAPu5 + i * 3, none⟩)), (199, .pointer (some ⟨bAPu5, oAPu5 + i * 3 + 0, none⟩)), (200, .int .i64 q.x), (201, .slice APu5 ((planL s lxu3 bu4).length) cPu5), (202, .int .i64 (k : Int)), (203, .pointer (some ⟨bAPu5, oAPu5 + k * 3, none⟩)), (204, .pointer (some ⟨bAPu5, oAPu5 + k * 3 + 0, none⟩)), (205, .int .i64 q2.x), (206, .int .i64 (sizeL (cutA s bu4) (cutC s bu4) p2 q2.t)), (207, .int .i64 (q2.x + (sizeL (cutA s bu4) (cutC s bu4) p2 q2.t))), (208, .bool (decide (q.x < (q2.x + (sizeL (cutA s bu4) (cutC s bu4) p2 q2.t))))), (209, .bool (decide (q.x < (q2.x + (sizeL (cutA s bu4) (cutC s bu4) p2 q2.t))))), (223, .bool (decide (q2.x < (q.x + (sizeL (cutA s bu4) (cutC s bu4) p q.t))))), (224, .bool (decide (q2.x < (q.x + (sizeL (cutA s bu4) (cutC s bu4) p q.t))))), (238, .bool false), (239, .bool false), (253, .bool false), (254, .bool false)]) [59, 60, 61, 62, 63, 64, 65, 66, 67, 68, 69, 70, 71, 72, 58, 57, 56, 55, 54, 53, 52, 51, 50, 49, 48, 47, 46, 45, 31, 30, 16, 15, 1, 0] rfl).as (by (try rw [show (decide (q.x < (q2.x + (sizeL (cutA s bu4) (cutC s bu4) p2 q2.t)))) = true from (decide_eq_true h15)]); (try rw [show (decide (q2.x < (q.x + (sizeL (cutA s bu4) (cutC s bu4) p q.t)))) = false from (decide_eq_false h16)]); (try rfl)), M.mask [true] rfl⟩
    replace h15 := of_decide_eq_false h15
    refine g_pass (T := T) (i := 17) rfl (by kernel_rfl) (by kernel_rfl : (pbits 62 131071).setIfInBounds 17 true = pbits 62 262143) si_U (fun _ _ _ h => h) (wanted_no rfl rfl (T.ev 0 rfl) (decide_eq_false h15)) rfl rfl rfl ?_; clear T ac; intro ac T
    refine g_pass (T := T) (i := 18) rfl (by kernel_rfl) (by kernel_rfl : (pbits 62 262143).setIfInBounds 18 true = pbits 62 524287) si_U (fun _ _ _ h => h) (wanted_no rfl rfl (T.ev 1 rfl) (decide_eq_false h15)) rfl rfl rfl ?_; clear T ac; intro ac T
    refine g_pass (T := T) (i := 19) rfl (by kernel_rfl) (by kernel_rfl : (pbits 62 524287).setIfInBounds 19 true = pbits 62 1048575) si_U (fun _ _ _ h => h) (wanted_no rfl rfl (T.ev 2 rfl) (decide_eq_false h15)) rfl rfl rfl ?_; clear T ac; intro ac T
    refine g_pass (T := T) (i := 20) rfl (by kernel_rfl) (by kernel_rfl : (pbits 62 1048575).setIfInBounds 20 true = pbits 62 2097151) si_U (fun _ _ _ h => h) (wanted_no rfl rfl (T.ev 3 rfl) (decide_eq_false h15)) rfl rfl rfl ?_; clear T ac; intro ac T
    refine g_pass (T := T) (i := 21) rfl (by kernel_rfl) (by kernel_rfl : (pbits 62 2097151).setIfInBounds 21 true = pbits 62 4194303) si_U (fun _ _ _ h => h) (wanted_no rfl rfl (T.ev 4 rfl) (decide_eq_false h15)) rfl rfl rfl ?_; clear T ac; intro ac T
    refine g_pass (T := T) (i := 22) rfl (by kernel_rfl) (by kernel_rfl : (pbits 62 4194303).setIfInBounds 22 true = pbits 62 8388607) si_U (fun _ _ _ h => h) (wanted_no rfl rfl (T.ev 5 rfl) (decide_eq_false h15)) rfl rfl rfl ?_; clear T ac; intro ac T
    refine g_pass (T := T) (i := 23) rfl (by kernel_rfl) (by kernel_rfl : (pbits 62 8388607).setIfInBounds 23 true = pbits 62 16777215) si_U (fun _ _ _ h => h) (wanted_no rfl rfl (T.ev 6 rfl) (decide_eq_false h15)) rfl rfl rfl ?_; clear T ac; intro ac T
    refine g_pass (T := T) (i := 24) rfl (by kernel_rfl) (by kernel_rfl : (pbits 62 16777215).setIfInBounds 24 true = pbits 62 33554431) si_U (fun _ _ _ h => h) (wanted_no rfl rfl (T.ev 7 rfl) (decide_eq_false h15)) rfl rfl rfl ?_; clear T ac; intro ac T
    refine g_pass (T := T) (i := 25) rfl (by kernel_rfl) (by kernel_rfl : (pbits 62 33554431).setIfInBounds 25 true = pbits 62 67108863) si_U (fun _ _ _ h => h) (wanted_no rfl rfl (T.ev 8 rfl) (decide_eq_false h15)) rfl rfl rfl ?_; clear T ac; intro ac T
    refine g_pass (T := T) (i := 26) rfl (by kernel_rfl) (by kernel_rfl : (pbits 62 67108863).setIfInBounds 26 true = pbits 62 134217727) si_U (fun _ _ _ h => h) (wanted_no rfl rfl (T.ev 9 rfl) (decide_eq_false h15)) rfl rfl rfl ?_; clear T ac; intro ac T
    refine g_pass (T := T) (i := 27) rfl (by kernel_rfl) (by kernel_rfl : (pbits 62 134217727).setIfInBounds 27 true = pbits 62 268435455) si_U (fun _ _ _ h => h) (wanted_no rfl rfl (T.ev 10 rfl) (decide_eq_false h15)) rfl rfl rfl ?_; clear T ac; intro ac T
    refine g_pass (T := T) (i := 28) rfl (by kernel_rfl) (by kernel_rfl : (pbits 62 268435455).setIfInBounds 28 true = pbits 62 536870911) si_U (fun _ _ _ h => h) (wanted_no rfl rfl (T.ev 11 rfl) (decide_eq_false h15)) rfl rfl rfl ?_; clear T ac; intro ac T
    refine g_pass (T := T) (i := 29) rfl (by kernel_rfl) (by kernel_rfl : (pbits 62 536870911).setIfInBounds 29 true = pbits 62 1073741823) si_U (fun _ _ _ h => h) (wanted_no rfl rfl (T.ev 12 rfl) (decide_eq_false h15)) rfl rfl rfl ?_; clear T ac; intro ac T
    refine g_q (T := T) (i := 30) rfl (by kernel_rfl) (by kernel_rfl : (pbits 62 1073741823).setIfInBounds 30 true = pbits 62 2147483647) si_U (fun _ _ _ h => h) (wanted_yes rfl rfl (T.ev 27 rfl) rfl) rfl rfl rfl (fun _ _ _ _ _ => (rn_pick0 rfl (T.ev 13 rfl) (decide_eq_false h15) evc)) ?_; clear T ac; intro ac T
    refine g_q (T := T) (i := 31) rfl (by kernel_rfl) (by kernel_rfl : (pbits 62 2147483647).setIfInBounds 31 true = pbits 62 4294967295) si_U (fun _ _ _ h => h) (wanted_yes rfl rfl (T.ev 28 rfl) rfl) rfl rfl rfl (fun _ _ _ _ _ => (rn_move rfl (T.ev 0 rfl))) ?_; clear T ac; intro ac T
    refine g_pass (T := T) (i := 32) rfl (by kernel_rfl) (by kernel_rfl : (pbits 62 4294967295).setIfInBounds 32 true = pbits 62 8589934591) si_U (fun _ _ _ h => h) (wanted_no rfl rfl (T.ev 0 rfl) rfl) rfl rfl rfl ?_; clear T ac; intro ac T
    refine g_pass (T := T) (i := 33) rfl (by kernel_rfl) (by kernel_rfl : (pbits 62 8589934591).setIfInBounds 33 true = pbits 62 17179869183) si_U (fun _ _ _ h => h) (wanted_no rfl rfl (T.ev 1 rfl) rfl) rfl rfl rfl ?_; clear T ac; intro ac T
    refine g_pass (T := T) (i := 34) rfl (by kernel_rfl) (by kernel_rfl : (pbits 62 17179869183).setIfInBounds 34 true = pbits 62 34359738367) si_U (fun _ _ _ h => h) (wanted_no rfl rfl (T.ev 2 rfl) rfl) rfl rfl rfl ?_; clear T ac; intro ac T
    refine g_pass (T := T) (i := 35) rfl (by kernel_rfl) (by kernel_rfl : (pbits 62 34359738367).setIfInBounds 35 true = pbits 62 68719476735) si_U (fun _ _ _ h => h) (wanted_no rfl rfl (T.ev 3 rfl) rfl) rfl rfl rfl ?_; clear T ac; intro ac T
    refine g_pass (T := T) (i := 36) rfl (by kernel_rfl) (by kernel_rfl : (pbits 62 68719476735).setIfInBounds 36 true = pbits 62 137438953471) si_U (fun _ _ _ h => h) (wanted_no rfl rfl (T.ev 4 rfl) rfl) rfl rfl rfl ?_; clear T ac; intro ac T
    refine g_pass (T := T) (i := 37) rfl (by kernel_rfl) (by kernel_rfl : (pbits 62 137438953471).setIfInBounds 37 true = pbits 62 274877906943) si_U (fun _ _ _ h => h) (wanted_no rfl rfl (T.ev 5 rfl) rfl) rfl rfl rfl ?_; clear T ac; intro ac T
    refine g_pass (T := T) (i := 38) rfl (by kernel_rfl) (by kernel_rfl : (pbits 62 274877906943).setIfInBounds 38 true = pbits 62 549755813887) si_U (fun _ _ _ h => h) (wanted_no rfl rfl (T.ev 6 rfl) rfl) rfl rfl rfl ?_; clear T ac; intro ac T
    refine g_pass (T := T) (i := 39) rfl (by kernel_rfl) (by kernel_rfl : (pbits 62 549755813887).setIfInBounds 39 true = pbits 62 1099511627775) si_U (fun _ _ _ h => h) (wanted_no rfl rfl (T.ev 7 rfl) rfl) rfl rfl rfl ?_; clear T ac; intro ac T
    refine g_pass (T := T) (i := 40) rfl (by kernel_rfl) (by kernel_rfl : (pbits 62 1099511627775).setIfInBounds 40 true = pbits 62 2199023255551) si_U (fun _ _ _ h => h) (wanted_no rfl rfl (T.ev 8 rfl) rfl) rfl rfl rfl ?_; clear T ac; intro ac T
    refine g_pass (T := T) (i := 41) rfl (by kernel_rfl) (by kernel_rfl : (pbits 62 2199023255551).setIfInBounds 41 true = pbits 62 4398046511103) si_U (fun _ _ _ h => h) (wanted_no rfl rfl (T.ev 9 rfl) rfl) rfl rfl rfl ?_; clear T ac; intro ac T
    refine g_pass (T := T) (i := 42) rfl (by kernel_rfl) (by kernel_rfl : (pbits 62 4398046511103).setIfInBounds 42 true = pbits 62 8796093022207) si_U (fun _ _ _ h => h) (wanted_no rfl rfl (T.ev 10 rfl) rfl) rfl rfl rfl ?_; clear T ac; intro ac T
    refine g_pass (T := T) (i := 43) rfl (by kernel_rfl) (by kernel_rfl : (pbits 62 8796093022207).setIfInBounds 43 true = pbits 62 17592186044415) si_U (fun _ _ _ h => h) (wanted_no rfl rfl (T.ev 11 rfl) rfl) rfl rfl rfl ?_; clear T ac; intro ac T
    refine g_pass (T := T) (i := 44) rfl (by kernel_rfl) (by kernel_rfl : (pbits 62 17592186044415).setIfInBounds 44 true = pbits 62 35184372088831) si_U (fun _ _ _ h => h) (wanted_no rfl rfl (T.ev 12 rfl) rfl) rfl rfl rfl ?_; clear T ac; intro ac T
    refine g_q (T := T) (i := 45) rfl (by kernel_rfl) (by kernel_rfl : (pbits 62 35184372088831).setIfInBounds 45 true = pbits 62 70368744177663) si_U (fun _ _ _ h => h) (wanted_yes rfl rfl (T.ev 42 rfl) rfl) rfl rfl rfl (fun _ _ _ _ _ => (rn_pick0 rfl (T.ev 13 rfl) rfl evc)) ?_; clear T ac; intro ac T
    refine g_q (T := T) (i := 46) rfl (by kernel_rfl) (by kernel_rfl : (pbits 62 70368744177663).setIfInBounds 46 true = pbits 62 140737488355327) si_U (fun _ _ _ h => h) (wanted_yes rfl rfl (T.ev 43 rfl) rfl) rfl rfl rfl (fun _ _ _ _ _ => (rn_move rfl (T.ev 0 rfl))) ?_; clear T ac; intro ac T
    refine g_pass (T := T) (i := 47) rfl (by kernel_rfl) (by kernel_rfl : (pbits 62 140737488355327).setIfInBounds 47 true = pbits 62 281474976710655) si_U (fun _ _ _ h => h) (wanted_no rfl rfl (T.ev 0 rfl) rfl) rfl rfl rfl ?_; clear T ac; intro ac T
    refine g_pass (T := T) (i := 48) rfl (by kernel_rfl) (by kernel_rfl : (pbits 62 281474976710655).setIfInBounds 48 true = pbits 62 562949953421311) si_U (fun _ _ _ h => h) (wanted_no rfl rfl (T.ev 1 rfl) rfl) rfl rfl rfl ?_; clear T ac; intro ac T
    refine g_pass (T := T) (i := 49) rfl (by kernel_rfl) (by kernel_rfl : (pbits 62 562949953421311).setIfInBounds 49 true = pbits 62 1125899906842623) si_U (fun _ _ _ h => h) (wanted_no rfl rfl (T.ev 2 rfl) rfl) rfl rfl rfl ?_; clear T ac; intro ac T
    refine g_pass (T := T) (i := 50) rfl (by kernel_rfl) (by kernel_rfl : (pbits 62 1125899906842623).setIfInBounds 50 true = pbits 62 2251799813685247) si_U (fun _ _ _ h => h) (wanted_no rfl rfl (T.ev 3 rfl) rfl) rfl rfl rfl ?_; clear T ac; intro ac T
    refine g_pass (T := T) (i := 51) rfl (by kernel_rfl) (by kernel_rfl : (pbits 62 2251799813685247).setIfInBounds 51 true = pbits 62 4503599627370495) si_U (fun _ _ _ h => h) (wanted_no rfl rfl (T.ev 4 rfl) rfl) rfl rfl rfl ?_; clear T ac; intro ac T
    refine g_pass (T := T) (i := 52) rfl (by kernel_rfl) (by kernel_rfl : (pbits 62 4503599627370495).setIfInBounds 52 true = pbits 62 9007199254740991) si_U (fun _ _ _ h => h) (wanted_no rfl rfl (T.ev 5 rfl) rfl) rfl rfl rfl ?_; clear T ac; intro ac T
    refine g_pass (T := T) (i := 53) rfl (by kernel_rfl) (by kernel_rfl : (pbits 62 9007199254740991).setIfInBounds 53 true = pbits 62 18014398509481983) si_U (fun _ _ _ h => h) (wanted_no rfl rfl (T.ev 6 rfl) rfl) rfl rfl rfl ?_; clear T ac; intro ac T
    refine g_pass (T := T) (i := 54) rfl (by kernel_rfl) (by kernel_rfl : (pbits 62 18014398509481983).setIfInBounds 54 true = pbits 62 36028797018963967) si_U (fun _ _ _ h => h) (wanted_no rfl rfl (T.ev 7 rfl) rfl) rfl rfl rfl ?_; clear T ac; intro ac T
    refine g_pass (T := T) (i := 55) rfl (by kernel_rfl) (by kernel_rfl : (pbits 62 36028797018963967).setIfInBounds 55 true = pbits 62 72057594037927935) si_U (fun _ _ _ h => h) (wanted_no rfl rfl (T.ev 8 rfl) rfl) rfl rfl rfl ?_; clear T ac; intro ac T
    refine g_pass (T := T) (i := 56) rfl (by kernel_rfl) (by kernel_rfl : (pbits 62 72057594037927935).setIfInBounds 56 true = pbits 62 144115188075855871) si_U (fun _ _ _ h => h) (wanted_no rfl rfl (T.ev 9 rfl) rfl) rfl rfl rfl ?_; clear T ac; intro ac T
    refine g_pass (T := T) (i := 57) rfl (by kernel_rfl) (by kernel_rfl : (pbits 62 144115188075855871).setIfInBounds 57 true = pbits 62 288230376151711743) si_U (fun _ _ _ h => h) (wanted_no rfl rfl (T.ev 10 rfl) rfl) rfl rfl rfl ?_; clear T ac; intro ac T
    refine g_pass (T := T) (i := 58) rfl (by kernel_rfl) (by kernel_rfl : (pbits 62 288230376151711743).setIfInBounds 58 true = pbits 62 576460752303423487) si_U (fun _ _ _ h => h) (wanted_no rfl rfl (T.ev 11 rfl) rfl) rfl rfl rfl ?_; clear T ac; intro ac T
    refine g_pass (T := T) (i := 59) rfl (by kernel_rfl) (by kernel_rfl : (pbits 62 576460752303423487).setIfInBounds 59 true = pbits 62 1152921504606846975) si_U (fun _ _ _ h => h) (wanted_no rfl rfl (T.ev 12 rfl) rfl) rfl rfl rfl ?_; clear T ac; intro ac T
    refine g_q (T := T) (i := 60) rfl (by kernel_rfl) (by kernel_rfl : (pbits 62 1152921504606846975).setIfInBounds 60 true = pbits 62 2305843009213693951) si_U (fun _ _ _ h => h) (wanted_yes rfl rfl (T.ev 57 rfl) rfl) rfl rfl rfl (fun _ _ _ _ _ => (rn_pick0 rfl (T.ev 13 rfl) rfl evc)) ?_; clear T ac; intro ac T
    refine gq T 61 4611686018427387903 rfl (fun _ _ _ _ _ => (rn_pick0 rfl (T.ev 58 rfl) rfl (T.ev 0 rfl))) ?_; clear T ac; intro ac T
    refine g_done (by kernel_rfl) ?_
    replace T := T.pick [0, 1, 2, 3, 4, 5, 6, 7, 8, 9, 10, 11, 12, 13, 14, 15, 16, 17, 18, 19, 20, 21, 22, 23, 24, 25, 26, 27, 28, 29, 30, 31, 32, 33, 34, 35, 36, 37, 38, 39, 40, 41, 42, 43, 44, 45, 46, 47, 48, 49, 50, 51, 52, 53, 54, 55, 56, 57, 58, 65, 66, 67, 68, 69, 70, 71, 72, 73, 74, 75, 76, 77, 78] rfl
    exact ⟨(T.pick (E' := [(4, .pointer (some ⟨g1, 0, none⟩)), (5, .slice AXu3 lxu3.length cXu3), (6, .bool bu4), (7, .slice APu5 ((planL s lxu3 bu4).length) cPu5), (13, .int .i64 (i : Int)), (14, .int .i64 (sizeL (cutA s bu4) (cutC s bu4) p q.t)), (15, .int .i64 (sizeW (cutA s bu4) (cutC s bu4) p q.t)), (17, .int .i64 (k : Int)), (133, .slice APu5 ((planL s lxu3 bu4).length) cPu5), (134, .int .i64 (i : Int)), (135, .pointer (some ⟨bAPu5, oAPu5 + i * 3, none⟩)), (136, .pointer (some ⟨bAPu5, oAPu5 + i * 3 + 0, none⟩)), (137, .int .i64 q.x), (138, .bool (decide (q.x < 0))), (196, .slice APu5 ((planL s lxu3 bu4).length) cPu5), (197, .int .i64 (i : Int)), (198, .pointer (some ⟨bAPu5, oAPu5 + i * 3, none⟩)), (199, .pointer (some ⟨bAPu5, oAPu5 + i * 3 + 0, none⟩)), (200, .int .i64 q.x), (201, .slice APu5 ((planL s lxu3 bu4).length) cPu5), (202, .int .i64 (k : Int)), (203, .pointer (some ⟨bAPu5, oAPu5 + k * 3, none⟩)), (204, .pointer (some ⟨bAPu5, oAPu5 + k * 3 + 0, none⟩)), (205, .int .i64 q2.x), (206, .int .i64 (sizeL (cutA s bu4) (cutC s bu4) p2 q2.t)), (207, .int .i64 (q2.x + (sizeL (cutA s bu4) (cutC s bu4) p2 q2.t))), (208, .bool (decide (q.x < (q2.x + (sizeL (cutA s bu4) (cutC s bu4) p2 q2.t))))), (209, .bool (decide (q.x < (q2.x + (sizeL (cutA s bu4) (cutC s bu4) p2 q2.t))))), (223, .bool false), (224, .bool false), (238, .bool false), (239, .bool false), (253, .bool false), (254, .bool false)]) [59, 60, 61, 62, 63, 64, 65, 66, 67, 68, 69, 70, 71, 72, 58, 57, 56, 55, 54, 53, 52, 51, 50, 49, 48, 47, 46, 45, 31, 30, 16, 15, 1, 0] rfl).as (by (try rw [show (decide (q.x < (q2.x + (sizeL (cutA s bu4) (cutC s bu4) p2 q2.t)))) = false from (decide_eq_false h15)]); (try rfl)), M.mask [true] rfl⟩
   clear T M
   rintro ac wc ⟨T, M⟩
   refine wp_cond_split (T.ev 33 rfl) ?_ ?_
   ·intro h18
    (try have h18' := h18; try simp only [Bool.and_eq_true, Bool.or_eq_true, Bool.not_eq_true', Bool.and_eq_false_imp, Bool.or_eq_false_iff, decide_eq_true_eq, decide_eq_false_iff_not] at h18')
    refine wp_seq ?_
    refine wp_region_lit ?_
    refine lq T (rn_assign rfl evc) ?_; clear T ac; intro ac T
    refine wpList_nil ?_
    replace T := T.pick [0] rfl
    replace M := M.mask [false] rfl
    replace M : Mem w noEx wc ((IKu2 ++ IXu3 ++ IPu5)) := M
    refine nm_then ?_
    refine wp_ret ?_
    refine rt_blk ?_
    refine rt_then ?_
    refine rt_then ?_
    refine rt_blk ?_
    refine rt_blk ?_
    refine rt_then ?_
    refine rt_then ?_
    refine rt_blk ?_
    refine rt_then ?_
    refine rt_1 T rfl (T.ev 0 rfl) ?_
    exact ⟨ret_bool (by first | (exfalso; omega) | simp_all), M.below⟩
   intro h18
   (try have h18' := h18; try simp only [Bool.and_eq_true, Bool.or_eq_true, Bool.not_eq_true', Bool.and_eq_false_imp, Bool.or_eq_false_iff, decide_eq_true_eq, decide_eq_false_iff_not] at h18')
   refine wp_skip ?_
   refine nm_blk ?_
   refine nm_then ?_
   refine wp_region_lit ?_
   refine lq T (rn_move rfl (T.ev 7 rfl)) ?_; clear T ac; intro ac T
   refine lq T (rn_add rfl (T.ev 0 rfl) evc (by omega)) ?_; clear T ac; intro ac T
   refine l_q (v := (.int .i64 ((k : Int) + 1))) (T.pick [0, 1, 2, 3, 4, 5, 6, 7, 8, 10, 11, 12, 13, 14, 15, 16, 17, 18, 19, 20, 21, 22, 23, 24, 25, 26, 27, 28, 29, 30, 31, 32, 33, 34, 35] rfl) rfl rfl rfl rfl (rn_assign rfl (T.ev 0 rfl)) ?_; clear T ac; intro ac T
   refine wpList_nil ?_
   replace T := T.pick [0, 3, 4, 5, 6, 7, 8, 9, 10, 11, 12, 13, 14, 15, 16, 17, 18, 19, 20, 21, 22, 23, 24, 25, 26, 27, 28, 29, 30, 31, 32, 33, 34] rfl
   refine nm_then ?_
   exact ⟨_, by omega, k + 1, rfl, (by omega), T.pick [1, 2, 3, 4, 5, 6, 7, 0, 8, 9, 10, 11, 12, 13] rfl, M.mask [true] rfl⟩
  intro h14
  refine wp_exit ?_
  refine ex_then ?_
  refine ex_then ?_
  refine ex_hit ?_
  refine nm_blk ?_
  refine nm_then ?_
  refine wp_region_lit ?_
  refine lq T (rn_move rfl (T.ev 5 rfl)) ?_; clear T ac; intro ac T
  refine lq T (rn_add rfl (T.ev 0 rfl) evc (by omega)) ?_; clear T ac; intro ac T
  refine l_q (v := (.int .i64 ((i : Int) + 1))) (T.pick [0, 1, 2, 3, 4, 5, 6, 8, 9, 10, 11, 12, 13, 14, 15, 16] rfl) rfl rfl rfl rfl (rn_assign rfl (T.ev 0 rfl)) ?_; clear T ac; intro ac T
  refine wpList_nil ?_
  replace T := T.pick [0, 4, 5, 6, 7, 11, 12, 13, 14, 15, 16] rfl
  refine nm_then ?_
  exact ⟨_, by omega, i + 1, rfl, (by omega), T.pick [1, 2, 3, 4, 0] rfl, M.mask [true] rfl⟩
 intro h9
 obtain ⟨nn9, hnn9⟩ : ∃ k : Nat, k = lxu3.length - 1 := ⟨_, rfl⟩
 refine wp_exit ?_
 refine ex_then ?_
 refine ex_then ?_
 refine ex_hit ?_
 refine nm_then ?_
 refine wp_seq ?_
 refine wp_seq ?_
 refine wp_region_lit ?_
 refine lq T (rn_move rfl (T.ev 2 rfl)) ?_; clear T ac; intro ac T
 refine lq T (rn_lenS rfl Tryd.underlying27 (T.ev 0 rfl)) ?_; clear T ac; intro ac T
 refine lq T (rn_assign rfl (T.ev 0 rfl)) ?_; clear T ac; intro ac T
 refine wpList_nil ?_
 replace T := T.pick [0, 4, 5, 6] rfl
 refine nm_then ?_
 refine wp_seq ?_
 refine wp_region_lit ?_
 refine lq T (rn_move rfl (T.ev 0 rfl)) ?_; clear T ac; intro ac T
 refine lq T (rn_gtr rfl (T.ev 0 rfl) evc) ?_; clear T ac; intro ac T
 refine wpList_nil ?_
 replace T := T.pick [0, 2, 3, 4, 5] rfl
 refine nm_then ?_
 refine wp_if (T.ev 0 rfl) ?_ ?_
 ·intro h19
  refine wp_seq ?_
  refine g_start2 M (M.mask [true] rfl) 12 (by kernel_rfl) rfl (by kernel_rfl) ?_
  clear M; intro wc M
  refine gq T 0 1 rfl (fun B w' hD hl hS => (rn_rowO (Mem.nth (show Mem w noEx w' _ from hS) 0 rfl) rfl (T.ev 2 rfl) rfl)) ?_; clear T ac; intro ac T
  refine gq T 1 3 rfl (fun _ _ _ _ _ => (rn_move rfl (T.ev 4 rfl))) ?_; clear T ac; intro ac T
  refine gq T 2 7 rfl (fun _ _ _ _ _ => (rn_move rfl (T.ev 3 rfl))) ?_; clear T ac; intro ac T
  refine gq T 3 15 rfl (fun _ _ _ _ _ => (rn_sub rfl (T.ev 0 rfl) evc (by omega))) ?_; clear T ac; intro ac T
  refine gq T 4 31 rfl (fun _ _ _ _ _ => (rn_slice (size := 1) (l := 0) (h := nn9) rfl Tryd.underlying27 (by kernel_rfl) (T.ev 2 rfl) rfl ((T.ev 0 rfl).trans (congrArg (Value.int .i64) (by omega))) (by omega) (by omega))) ?_; clear T ac; intro ac T
  obtain ⟨Aq1, hAq1⟩ : ∃ q : Option Addr, q = (if cXu3 = 0 then AXu3 else Option.map (fun x : Addr => x.add (0 * 1)) AXu3) := ⟨_, rfl⟩
  rw [← hAq1] at T
  obtain ⟨lq1, hlq1⟩ : ∃ q, q = (lxu3.drop 0).take (nn9 - 0) := ⟨_, rfl⟩
  have nlq1 : lq1.length = nn9 - 0 := by rw [hlq1, List.length_take, List.length_drop]; (try simp only [List.length_cons, List.length_append, List.length_nil]); omega
  rw [← nlq1] at T
  have SAq1 : Sp w noEx IXu3 Aq1 lq1.length 1 bAXu3 (oAXu3 + 0 * 1) (ic lq1) := by rw [nlq1, hAq1, hlq1, ← ic_part]; exact SAXu3.sub (by omega) (by omega) (by omega)
  refine gq T 5 63 rfl (fun _ _ _ _ _ => (rn_move rfl (T.ev 9 rfl))) ?_; clear T ac; intro ac T
  refine gw 6 127 ?_; intro K hK
  have hgt9 : lq1 = lxu3.take nn9 := by rw [hlq1, List.drop_zero, Nat.sub_zero]
  have hgl8 : lq1.length ≤ 5 := by rw [hgt9, List.length_take]; omega
  refine ow_call (first := []) (cap := []) T rfl rfl rfl rfl evf (.cons (T.ev 5 rfl) (.cons (T.ev 1 rfl) (.cons (T.ev 0 rfl) .nil))) Tryd.func33 rfl rfl ?_
  refine Calls.mono (Plan_any s AKu2 cKu2 Aq1 (cXu3 - 0) lq1 bu4 _ (SAKu2.rd M (.cons _ (subL (subL (List.Sublist.refl _))))) (SAq1.rd M (.cons _ (subL (List.sublist_append_right _ _)))) (by omega) (by omega) (by omega) (hT.mem M (fun h => h))) ?_
  clear T
  rintro e wc ⟨APu11, cPu11, IPu11, rfl, hcpPu11, SVPu11, N⟩
  intro ac T
  have hpl9 := plan_less (su := bu4) (k := nn9) hsgs hixu3.1.1 hixu3.1.2 (by omega) hE0
  rw [← hgt9] at hpl9
  rw [hpl9] at T
  obtain ⟨bAPu11, oAPu11, SVPu11⟩ := SVPu11
  have SAPu11 := SVPu11 w noEx
  replace M := (M.join N).swapI
  clear N
  replace M : Mem w noEx wc ((g1, .cells [.int .i64 s.lo, .int .i64 s.wi, .int .i64 s.a0, .int .i64 s.a1, .int .i64 s.c0, .int .i64 s.c1, .slice AKu2 s.ps.length cKu2]) :: (IKu2 ++ IXu3 ++ IPu5 ++ IPu11)) := M
  refine sh_out hK _ _ ((M.mask [true] rfl).sub (List.Sublist.cons_cons _ (List.sublist_append_left _ _))) ?_; clear hK K
  refine gq T 7 255 rfl (fun _ _ _ _ _ => (rn_move rfl (T.ev 0 rfl))) ?_; clear T ac; intro ac T
  refine gq T 8 511 rfl (fun _ _ _ _ _ => (rn_extract rfl (T.ev 0 rfl) rfl)) ?_; clear T ac; intro ac T
  refine gq T 9 1023 rfl (fun _ _ _ _ _ => (rn_extract rfl (T.ev 1 rfl) rfl)) ?_; clear T ac; intro ac T
  refine gq T 10 2047 rfl (fun _ _ _ _ _ => (rn_assign rfl (T.ev 1 rfl))) ?_; clear T ac; intro ac T
  refine gq T 11 4095 rfl (fun _ _ _ _ _ => (rn_assign rfl (T.ev 1 rfl))) ?_; clear T ac; intro ac T
  refine g_done (by kernel_rfl) ?_
  replace T := T.pick [0] rfl
  replace M := M.mask [false] rfl
  replace M : Mem w noEx wc ((IKu2 ++ IXu3 ++ IPu5 ++ IPu11)) := M
  refine nm_then ?_
  refine wp_seq ?_
  refine wp_region_lit ?_
  refine lq T (rn_move rfl (T.ev 0 rfl)) ?_; clear T ac; intro ac T
  refine lq (v := (.bool false)) T (rn_neqof (rn_neq rfl (T.ev 0 rfl) evc) (by simp)) ?_; clear T ac; intro ac T
  refine wpList_nil ?_
  replace T := T.pick [0] rfl
  refine nm_then ?_
  refine wp_cond_false (T.ev 0 rfl) ?_
  refine wp_skip ?_
  refine nm_then ?_
  refine wp_seq ?_
  refine wp_region_lit ?_
  refine l_w rfl ?_; intro K hK
  refine ow_call (first := []) (cap := []) T rfl rfl rfl rfl evf .nil Tryd.func17 rfl rfl ?_
  refine Calls.mono (sawn8_any _ (hT.mem M (fun h => h))) ?_
  clear T
  rintro e wc ⟨rfl, hb⟩
  intro ac T
  replace M := M.call hb; clear hb
  refine sh_out hK _ _ ?_; clear hK K
  refine lq T (rn_assign rfl (T.ev 0 rfl)) ?_; clear T ac; intro ac T
  refine wpList_nil ?_
  replace T := T.pick [0] rfl
  refine nm_then ?_
  refine wp_ret ?_
  refine rt_1 T rfl (T.ev 0 rfl) ?_
  exact ⟨ret_bool (by first | (exfalso; omega) | simp_all), M.below⟩
 intro h19
 refine wp_skip ?_
 refine nm_then ?_
 refine wp_seq ?_
 refine wp_region_lit ?_
 refine l_w rfl ?_; intro K hK
 refine ow_call (first := []) (cap := []) T rfl rfl rfl rfl evf .nil Tryd.func17 rfl rfl ?_
 refine Calls.mono (sawn8_any _ (hT.mem M (fun h => h))) ?_
 clear T
 rintro e wc ⟨rfl, hb⟩
 intro ac T
 replace M := M.call hb; clear hb
 refine sh_out hK _ _ ?_; clear hK K
 refine lq T (rn_assign rfl (T.ev 0 rfl)) ?_; clear T ac; intro ac T
 refine wpList_nil ?_
 replace T := T.pick [0] rfl
 replace M := M.mask [false] rfl
 replace M : Mem w noEx wc ((IKu2 ++ IXu3 ++ IPu5)) := M
 refine nm_then ?_
 refine wp_ret ?_
 refine rt_1 T rfl (T.ev 0 rfl) ?_
 exact ⟨ret_bool (by first | (exfalso; omega) | simp_all), M.below⟩
end Go.Proofs.YtehpcclfgjccbaaDoor
end

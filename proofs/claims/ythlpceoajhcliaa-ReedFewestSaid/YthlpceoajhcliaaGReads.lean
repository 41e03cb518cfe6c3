/-
  reed: a tuner who is to read the meter.
-/
import Derived.Test.YthlpceoajhcliaaGIter
import Derived.Test.YthlpceoajhcliaaGMoved
import Derived.Test.YthlpceoajhcliaaMemIn
import Derived.Scope
import Derived.WalkMore
namespace Go.Proofs.Ythlpceoajhcliaa
set_option linter.unusedSimpArgs false
set_option linter.unusedVariables false
open Go.RowKit Go.Shelf
attribute [local go_sem] Oper.semAt_some

/-- Whether a tuner who has read the meter can be sure to stop with so many strokes. -/
def stopsP (j : Jb) (s0 s1 : Int) : Nat → Int → Int → Int → Int → Bool
  | 0, p0, p1, _, _ => hasB s0 s1 p0 p1
  | n + 1, p0, p1, t, r => hasB s0 s1 p0 p1 || ((okT j (t + 1) r && (rdgs (p0 + j.u0) (p1 + j.u1) j.me).all fun x => stopsP j s0 s1 n x.1 x.2 (t + 1) r) || (okT j t (r + 1) && (rdgs (p0 - j.d1) (p1 - j.d0) j.me).all fun x => stopsP j s0 s1 n x.1 x.2 t (r + 1)))
def readsP (j : Jb) (s0 s1 : Int) (n : Nat) (p0 p1 t r : Int) : Bool := (rdgs p0 p1 j.me).all fun x => stopsP j s0 s1 n x.1 x.2 t r
def strokeP (j : Jb) (s0 s1 : Int) : Nat → Int → Int → Int → Int → Int
  | 0, _, _, _, _ => 0
  | n + 1, p0, p1, t, r => if (okT j (t + 1) r && readsP j s0 s1 n (p0 + j.u0) (p1 + j.u1) (t + 1) r) = true then 1 else if (okT j t (r + 1) && readsP j s0 s1 n (p0 - j.d1) (p1 - j.d0) t (r + 1)) = true then 2 else 0
theorem stopsP_eq (j : Jb) (s0 s1 : Int) (n : Nat) (p0 p1 t r : Int) : stopsP j s0 s1 n p0 p1 t r = (hasB s0 s1 p0 p1 || decide (0 < strokeP j s0 s1 n p0 p1 t r)) := by
  cases n with
  | zero => simp [stopsP, strokeP]
  | succ n =>
    show (hasB s0 s1 p0 p1 || ((okT j (t + 1) r && readsP j s0 s1 n (p0 + j.u0) (p1 + j.u1) (t + 1) r) || (okT j t (r + 1) && readsP j s0 s1 n (p0 - j.d1) (p1 - j.d0) t (r + 1)))) = (hasB s0 s1 p0 p1 || decide (0 < (if (okT j (t + 1) r && readsP j s0 s1 n (p0 + j.u0) (p1 + j.u1) (t + 1) r) = true then (1 : Int) else if (okT j t (r + 1) && readsP j s0 s1 n (p0 - j.d1) (p1 - j.d0) t (r + 1)) = true then 2 else 0)))
    generalize (okT j (t + 1) r && readsP j s0 s1 n (p0 + j.u0) (p1 + j.u1) (t + 1) r) = x
    generalize (okT j t (r + 1) && readsP j s0 s1 n (p0 - j.d1) (p1 - j.d0) t (r + 1)) = y
    cases x <;> cases y <;> rfl

/-- What is remembered is right. -/
def okG (j : Jb) (s0 s1 : Int) (key v : Value) : Prop := ∀ (p0 p1 t r : Int) (n : Nat), key = kn5 p0 p1 t r n → v = .bool (stopsP j s0 s1 n p0 p1 t r)
def memG (j : Jb) (s0 s1 : Int) : BA := .any (memoQ Try.prog 103 (okG j s0 s1))
structure Bnd (n : Nat) (p0 p1 t r : Int) : Prop where
  lv : n ≤ 10
  p0 : -(100000 - 100 * (n : Int)) ≤ p0 ∧ p0 ≤ 100000 - 100 * (n : Int)
  p1 : -(100000 - 100 * (n : Int)) ≤ p1 ∧ p1 ≤ 100000 - 100 * (n : Int)
  t : 0 ≤ t ∧ t ≤ 900 - (n : Int)
  r : 0 ≤ r ∧ r ≤ 900 - (n : Int)
/-- A game in memory: what its blocks are. -/
structure Gm (j : Jb) (A : Option Addr) (c : Nat) (s0 s1 : Int) (bg bx bm : Nat) (w : World) : Prop where
  g : Bk w bg (gmA j A c s0 s1 bg bx).toArray
  x : Bk w bx #[.map (some bm)]
  m : (memG j s0 s1).holds w bm
  ng : bg ≠ bm
  nx : bx ≠ bm
def GPost (j : Jb) (s0 s1 : Int) (bm : Nat) (v : Value) (w : World) (e : Ending) (w' : World) : Prop := e = .returned v ∧ w.grownBy w' (some bm) ∧ (memG j s0 s1).holds w' bm
def StopsC (j : Jb) (A : Option Addr) (c : Nat) (s0 s1 : Int) (bg bx bm : Nat) (n : Nat) : Prop :=
  ∀ (p0 p1 t r : Int) (w : World), Bnd n p0 p1 t r → Gm j A c s0 s1 bg bx bm w →
    Calls Try.prog 105 #[kn5 p0 p1 t r n, .pointer (some ⟨bg, 0, none⟩), .pointer (some ⟨bx, 0, none⟩)] w (GPost j s0 s1 bm (.bool (stopsP j s0 s1 n p0 p1 t r)) w)

section
variable {j : Jb} {A : Option Addr} {c : Nat} {s0 s1 : Int} {bg bx bm : Nat} {w w' : World}
theorem Gm.kept (h : Gm j A c s0 s1 bg bx bm w) (hg : w.grownBy w' (some bm)) (hm : (memG j s0 s1).holds w' bm) : Gm j A c s0 s1 bg bx bm w' :=
  ⟨h.g.grown hg (fun e => h.ng (by injection e)), h.x.grown hg (fun e => h.nx (by injection e)), hm, h.ng, h.nx⟩
theorem Gm.same (h : Gm j A c s0 s1 bg bx bm w) (hs : w.heap.size ≤ w'.heap.size) (hb : ∀ b, b < w.heap.size → w'.heap[b]? = w.heap[b]?) : Gm j A c s0 s1 bg bx bm w' :=
  ⟨BA.same (p := .cells (gmA j A c s0 s1 bg bx)) h.g hs (hb _ h.g.lt), BA.same (p := .cells [.map (some bm)]) h.x hs (hb _ h.x.lt), BA.same h.m hs (hb _ (BA.lt h.m)), h.ng, h.nx⟩
theorem Gm.mem {ex : Nat → Prop} {L : List (Nat × BA)} (h : Gm j A c s0 s1 bg bx bm w) (M : Mem w (fun b => b = bm) w' L) (hm : (bm, memG j s0 s1) ∈ L) : Gm j A c s0 s1 bg bx bm w' := h.kept M.grown (M.at hm)
end

def allS (j : Jb) (s0 s1 : Int) (n : Nat) (t r : Int) {B : Int} (pre : List (Rg B)) : Bool := (pre.map Subtype.val).all fun x => stopsP j s0 s1 n x.1 x.2 t r
theorem allS_snoc (j : Jb) (s0 s1 : Int) (n : Nat) (t r : Int) {B : Int} (pre : List (Rg B)) (x : Rg B) : allS j s0 s1 n t r (pre ++ [x]) = (allS j s0 s1 n t r pre && stopsP j s0 s1 n x.1.1 x.1.2 t r) := by simp [allS]

set_option maxRecDepth 100000 in
set_option maxHeartbeats 1000000 in
theorem reads_any (j : Jb) (A : Option Addr) (c : Nat) (s0 s1 : Int) (bg bx bm : Nat) (n : Nat) (hj : j.good) (hS : StopsC j A c s0 s1 bg bx bm n) (p0 p1 t r : Int) (w : World) (hb : Bnd n p0 p1 t r) (hg : Gm j A c s0 s1 bg bx bm w) :
    Calls Try.prog 75 #[.agg (gmA j A c s0 s1 bg bx).toArray, kn5 p0 p1 t r n] w (GPost j s0 s1 bm (.bool (readsP j s0 s1 n p0 p1 t r)) w) := by
  have HS := Lib.hid hS
  have HG := Lib.hid hg
  have HB := Lib.hid hb
  have M := Mem.initEx hg.m
  clear hS hg hb
  refine (callsIn_wide (n := 8)).1 (callsIn_of_wp_marks Try.func75 rfl trivial (wpIn_wide.2 ?_) rfl)
  simp only [Try.ntmps75, List.size_toArray, List.length_cons, List.length_nil, Nat.reduceAdd, Nat.reduceSub, Array.replicate_succ, Array.replicate_zero, List.push_toArray, List.append_toArray, List.nil_append, List.cons_append]
  refine m_start M ?_
  clear M
  intro wc M
  go_wp2_with (first | (refine m_ld1 M rfl rfl rfl (by (repeat' (first | exact List.mem_cons_self | refine List.mem_cons_of_mem _ ?_))) (by rfl) ?_) | (refine m_ldr M rfl rfl rfl (by (repeat' (first | exact List.mem_cons_self | refine List.mem_cons_of_mem _ ?_))) (by (try simp only [List.take_succ_cons, List.take_zero, List.take_nil, List.drop_succ_cons, List.drop_zero, List.drop_nil, List.cons_append, List.nil_append, List.append_nil, List.length_cons, List.length_nil, Nat.reduceAdd, Nat.zero_add, Nat.add_zero]); rfl) (by rfl) ?_) | (refine m_st M rfl rfl rfl (by first | exact (rfl : _ = Value.agg _) | exact (rfl : _ = Value.int _ _) | exact (rfl : _ = Value.bool _) | exact (rfl : _ = Value.slice _ _ _) | exact (rfl : _ = Value.pointer _) | exact (rfl : _ = Value.map _) | exact (rfl : _ = Value.func _ _ _) | exact (rfl : _ = Value.string _)) (by rfl) (by (repeat (first | exact Upd.head | apply Upd.tail))) (by (try simp only [List.take_succ_cons, List.take_zero, List.take_nil, List.drop_succ_cons, List.drop_zero, List.drop_nil, List.cons_append, List.nil_append, List.append_nil, List.length_cons, List.length_nil, Nat.reduceAdd, Nat.zero_add, Nat.add_zero]); rfl) (by simp) (by simp [Value.oneCell']) (by kernel_rfl) ?_; clear M; (try clear wc); intro wc M) | (refine m_al M rfl rfl ?_; clear M; (try clear wc); intro g wc M) | (refine m_bx M rfl rfl (by first | exact (rfl : _ = Value.agg _) | exact (rfl : _ = Value.int _ _) | exact (rfl : _ = Value.bool _) | exact (rfl : _ = Value.slice _ _ _) | exact (rfl : _ = Value.pointer _) | exact (rfl : _ = Value.map _) | exact (rfl : _ = Value.func _ _ _) | exact (rfl : _ = Value.string _)) (by rfl) ?_; clear M; (try clear wc); intro g wc M))
  apply wp_scope_straight
  go_wp2_with (first | (refine m_ld1 M rfl rfl rfl (by (repeat' (first | exact List.mem_cons_self | refine List.mem_cons_of_mem _ ?_))) (by rfl) ?_) | (refine m_ldr M rfl rfl rfl (by (repeat' (first | exact List.mem_cons_self | refine List.mem_cons_of_mem _ ?_))) (by (try simp only [List.take_succ_cons, List.take_zero, List.take_nil, List.drop_succ_cons, List.drop_zero, List.drop_nil, List.cons_append, List.nil_append, List.append_nil, List.length_cons, List.length_nil, Nat.reduceAdd, Nat.zero_add, Nat.add_zero]); rfl) (by rfl) ?_) | (refine m_st M rfl rfl rfl (by first | exact (rfl : _ = Value.agg _) | exact (rfl : _ = Value.int _ _) | exact (rfl : _ = Value.bool _) | exact (rfl : _ = Value.slice _ _ _) | exact (rfl : _ = Value.pointer _) | exact (rfl : _ = Value.map _) | exact (rfl : _ = Value.func _ _ _) | exact (rfl : _ = Value.string _)) (by rfl) (by (repeat (first | exact Upd.head | apply Upd.tail))) (by (try simp only [List.take_succ_cons, List.take_zero, List.take_nil, List.drop_succ_cons, List.drop_zero, List.drop_nil, List.cons_append, List.nil_append, List.append_nil, List.length_cons, List.length_nil, Nat.reduceAdd, Nat.zero_add, Nat.add_zero]); rfl) (by simp) (by simp [Value.oneCell']) (by kernel_rfl) ?_; clear M; (try clear wc); intro wc M) | (refine m_al M rfl rfl ?_; clear M; (try clear wc); intro g wc M) | (refine m_bx M rfl rfl (by first | exact (rfl : _ = Value.agg _) | exact (rfl : _ = Value.int _ _) | exact (rfl : _ = Value.bool _) | exact (rfl : _ = Value.slice _ _ _) | exact (rfl : _ = Value.pointer _) | exact (rfl : _ = Value.map _) | exact (rfl : _ = Value.func _ _ _) | exact (rfl : _ = Value.string _)) (by rfl) ?_; clear M; (try clear wc); intro g wc M))
  apply wp_label
  go_wp2_with (first | (refine m_ld1 M rfl rfl rfl (by (repeat' (first | exact List.mem_cons_self | refine List.mem_cons_of_mem _ ?_))) (by rfl) ?_) | (refine m_ldr M rfl rfl rfl (by (repeat' (first | exact List.mem_cons_self | refine List.mem_cons_of_mem _ ?_))) (by (try simp only [List.take_succ_cons, List.take_zero, List.take_nil, List.drop_succ_cons, List.drop_zero, List.drop_nil, List.cons_append, List.nil_append, List.append_nil, List.length_cons, List.length_nil, Nat.reduceAdd, Nat.zero_add, Nat.add_zero]); rfl) (by rfl) ?_) | (refine m_st M rfl rfl rfl (by first | exact (rfl : _ = Value.agg _) | exact (rfl : _ = Value.int _ _) | exact (rfl : _ = Value.bool _) | exact (rfl : _ = Value.slice _ _ _) | exact (rfl : _ = Value.pointer _) | exact (rfl : _ = Value.map _) | exact (rfl : _ = Value.func _ _ _) | exact (rfl : _ = Value.string _)) (by rfl) (by (repeat (first | exact Upd.head | apply Upd.tail))) (by (try simp only [List.take_succ_cons, List.take_zero, List.take_nil, List.drop_succ_cons, List.drop_zero, List.drop_nil, List.cons_append, List.nil_append, List.append_nil, List.length_cons, List.length_nil, Nat.reduceAdd, Nat.zero_add, Nat.add_zero]); rfl) (by simp) (by simp [Value.oneCell']) (by kernel_rfl) ?_; clear M; (try clear wc); intro wc M) | (refine m_al M rfl rfl ?_; clear M; (try clear wc); intro g wc M) | (refine m_bx M rfl rfl (by first | exact (rfl : _ = Value.agg _) | exact (rfl : _ = Value.int _ _) | exact (rfl : _ = Value.bool _) | exact (rfl : _ = Value.slice _ _ _) | exact (rfl : _ = Value.pointer _) | exact (rfl : _ = Value.map _) | exact (rfl : _ = Value.func _ _ _) | exact (rfl : _ = Value.string _)) (by rfl) ?_; clear M; (try clear wc); intro g wc M) | (go_at_call 107; refine (readings_any _ _ _ _).mono ?_; rintro e wc ⟨b1, b2, rfl, N⟩; replace M := M.join N; clear N; simp only [List.cons_append, List.nil_append] at M))
  rename_i gG gK wq K0 hK0
  have hnd := M.nd
  simp only [List.map_cons, List.map_nil, List.nodup_cons, List.mem_cons, not_or, List.not_mem_nil, not_false_eq_true, List.nodup_nil, and_true] at hnd
  obtain ⟨⟨-, -, -, -, nx2⟩, ⟨-, -, -, nx1⟩, ⟨-, -, nxA⟩, -⟩ := hnd
  have hz0 := M.size
  have q1 := M.get (g := b1) (by (repeat' (first | exact List.mem_cons_self | refine List.mem_cons_of_mem _ ?_)))
  have q2 := M.get (g := b2) (by (repeat' (first | exact List.mem_cons_self | refine List.mem_cons_of_mem _ ?_)))
  replace M := M.forget.forget
  have hL : ∀ p ∈ [(g, BA.cells [.bool true]), (gK, .cells [.int .i64 p0, .int .i64 p1, .int .i64 t, .int .i64 r, .int .i64 n]), (gG, .cells (gmA j A c s0 s1 bg bx)), (bm, memG j s0 s1)], p.1 < wc.heap.size := fun p hp => BA.lt (M.blk p hp).2
  have hL' : ∀ p ∈ [(g, BA.cells [.bool false]), (gK, .cells [.int .i64 p0, .int .i64 p1, .int .i64 t, .int .i64 r, .int .i64 n]), (gG, .cells (gmA j A c s0 s1 bg bx)), (bm, memG j s0 s1)], p.1 < wc.heap.size := by
    intro p hp
    rcases List.mem_cons.1 hp with rfl | hp
    · exact hL (g, BA.cells [.bool true]) List.mem_cons_self
    · exact hL p (List.mem_cons_of_mem _ hp)
  have hlm : bm < wc.heap.size := hL (bm, memG j s0 s1) (by (repeat' (first | exact List.mem_cons_self | refine List.mem_cons_of_mem _ ?_)))
  have hlg : g < wc.heap.size := hL (g, BA.cells [.bool true]) (by (repeat' (first | exact List.mem_cons_self | refine List.mem_cons_of_mem _ ?_)))
  obtain ⟨hlv, hb0, hb1, hbt, hbr⟩ := HB.out
  have hme := hj.me
  refine (wpIn_wide (n := 8)).1 (wpIn_rangeFunc_ownH (α := Rg (100000 - 100 * (n : Int))) rfl (by omega) (gf := 113) (lb := #[.pointer (some ⟨b1, 0, none⟩), .pointer (some ⟨b2, 0, none⟩)]) rfl trivial (enters_of Try.func113 (by kernel_rfl) rfl)
    (readings_stops 7 (by omega) b1 b2 wc.heap.size bm p0 p1 j.me _ (by omega) (by omega) hb0 hb1 (by omega) (by omega) q1.lt q2.lt nx1 nx2 wc q1 q2)
    (fun h k => Kp.t h k) (fun W l o o' hl h _ _ => ⟨by simp, fun b hb _ => World.putObj_heap_other (by omega)⟩) (Below.refl _ _) (fun _ => rfl)
    (fun pre W => Mem w (fun b => b = bm) W [(g, BA.cells [.bool true]), (gK, .cells [.int .i64 p0, .int .i64 p1, .int .i64 t, .int .i64 r, .int .i64 n]), (gG, .cells (gmA j A c s0 s1 bg bx)), (bm, memG j s0 s1)] ∧ Hid (allS j s0 s1 n t r pre = true) ∧ wc.heap.size ≤ W.heap.size)
    (fun cd pre W => cd = .exit 0 ∧ Mem w (fun b => b = bm) W [(g, BA.cells [.bool false]), (gK, .cells [.int .i64 p0, .int .i64 p1, .int .i64 t, .int .i64 r, .int .i64 n]), (gG, .cells (gmA j A c s0 s1 bg bx)), (bm, memG j s0 s1)] ∧ Hid (allS j s0 s1 n t r pre = false) ∧ wc.heap.size ≤ W.heap.size)
    (fun s W W' row hs hg hr => ⟨hs.1.far hg (fun r e => (hr r e).1) hz0 hL, hs.2.1, Nat.le_trans hs.2.2 hg.size⟩)
    (fun cd s W W' row hs hg hr => ⟨hs.1, hs.2.1.far hg (fun r e => (hr r e).1) hz0 hL', hs.2.2.1, Nat.le_trans hs.2.2.2 hg.size⟩)
    ⟨M, rfl, Nat.le_refl _⟩
    (fun x a' W => ∃ gx, Bk W gx #[.int .i64 x.1.1, .int .i64 x.1.2] ∧ a' = { tmps := #[.agg (gmA j A c s0 s1 bg bx).toArray, kn5 p0 p1 t r n, .pointer (some ⟨gG, 0, none⟩), .pointer (some ⟨gK, 0, none⟩), .bool false, .pointer (some ⟨g, 0, none⟩), .pointer (some ⟨gx, 0, none⟩), .pointer (some ⟨gK, 0, none⟩), R2 p0 p1, .pointer (some ⟨gG, 0, none⟩), .pointer (some ⟨gG, 17, none⟩), .int .i64 j.me, .func (.func 113) #[] #[.pointer (some ⟨b1, 0, none⟩), .pointer (some ⟨b2, 0, none⟩)], R2 x.1.1 x.1.2, undef, undef, undef, undef, undef, undef, undef, undef, undef, undef, undef, undef, undef], defers := [] })
    (fun x a' _ W W' row hs hg hr => by
      obtain ⟨gx, bX, rfl⟩ := hs
      refine ⟨gx, bX.grown hg (fun e => ?_), rfl⟩
      obtain ⟨_, o, ho, hc⟩ := hr gx e.symm
      have h1 := bX.cell 0
      simp only [World.cell?, ho] at h1
      cases o <;> simp [Obj.isCells] at hc h1)
    ?assign ?body ?done ?stop)
  case assign =>
    rintro l pre x W K ⟨M1, hp, hz⟩ hK
    gi_wp2
    exact hK _ _ ((KeepsOthers.alloc _ _).from _) ⟨by simp, fun b hb _ => (MapKept.heap_alloc W _).2 b (by omega)⟩ ⟨M1.alloc _, hp, by simp; omega⟩ ⟨W.heap.size, Bk.new W _ _, rfl⟩
  case body =>
    rintro l pre x a' W hl - ⟨M, hp, hz⟩ ⟨gx, bX, rfl⟩ hlt
    have C := HS.out x.1.1 x.1.2 t r W ⟨hlv, x.2.1, x.2.2, hbt, hbr⟩ (HG.out.kept M.grown (M.at (q := (bm, memG j s0 s1)) (by (repeat' (first | exact List.mem_cons_self | refine List.mem_cons_of_mem _ ?_)))))
    have HP : Hid (allS j s0 s1 n t r (pre ++ [x]) = stopsP j s0 s1 n x.1.1 x.1.2 t r) := by (show _ = _; rw [allS_snoc, hp.out]; simp)
    cases hv : stopsP j s0 s1 n x.1.1 x.1.2 t r with
    | true =>
      rw [hv] at C HP
      clear hv
      gi_wp2_with (first | (refine i_ld1 M rfl rfl rfl (by (repeat' (first | exact List.mem_cons_self | refine List.mem_cons_of_mem _ ?_))) (by rfl) ?_) | (refine i_ldr M rfl rfl rfl (by (repeat' (first | exact List.mem_cons_self | refine List.mem_cons_of_mem _ ?_))) (by (try simp only [List.take_succ_cons, List.take_zero, List.take_nil, List.drop_succ_cons, List.drop_zero, List.drop_nil, List.cons_append, List.nil_append, List.append_nil, List.length_cons, List.length_nil, Nat.reduceAdd, Nat.zero_add, Nat.add_zero]); rfl) (by rfl) ?_) | (refine i_al M rfl rfl ?_; clear M; (try clear wc); intro g wc M) | (refine i_bx M rfl rfl (by first | exact (rfl : _ = Value.agg _) | exact (rfl : _ = Value.int _ _) | exact (rfl : _ = Value.bool _) | exact (rfl : _ = Value.slice _ _ _) | exact (rfl : _ = Value.pointer _) | exact (rfl : _ = Value.map _) | exact (rfl : _ = Value.func _ _ _) | exact (rfl : _ = Value.string _)) (by rfl) ?_; clear M; (try clear wc); intro g wc M) | (refine i_st M rfl rfl rfl (by first | exact (rfl : _ = Value.agg _) | exact (rfl : _ = Value.int _ _) | exact (rfl : _ = Value.bool _) | exact (rfl : _ = Value.slice _ _ _) | exact (rfl : _ = Value.pointer _) | exact (rfl : _ = Value.map _) | exact (rfl : _ = Value.func _ _ _) | exact (rfl : _ = Value.string _)) (by rfl) (by (repeat (first | exact Upd.head | apply Upd.tail))) (by (try simp only [List.take_succ_cons, List.take_zero, List.take_nil, List.drop_succ_cons, List.drop_zero, List.drop_nil, List.cons_append, List.nil_append, List.append_nil, List.length_cons, List.length_nil, Nat.reduceAdd, Nat.zero_add, Nat.add_zero]); rfl) (by simp) (by simp [Value.oneCell']) (by kernel_rfl) ?_; clear M; (try clear wc); intro wc M oth; clear oth) | (refine i_lor bX rfl rfl rfl (by (try simp only [List.take_succ_cons, List.take_zero, List.take_nil, List.drop_succ_cons, List.drop_zero, List.drop_nil, List.cons_append, List.nil_append, List.append_nil, List.length_cons, List.length_nil, Nat.reduceAdd, Nat.zero_add, Nat.add_zero]); rfl) (by rfl) ?_) | (refine ⟨trivial, ?_⟩; gi_at_call 105; refine (CallsIn.inRound l (callsIn_wide.2 C)).mono ?_; rintro e W2 ⟨rfl, hgr, hm⟩; replace M := M.callW (L' := [(g, BA.cells [.bool true]), (gK, .cells [.int .i64 p0, .int .i64 p1, .int .i64 t, .int .i64 r, .int .i64 n]), (gG, .cells (gmA j A c s0 s1 bg bx)), (bm, memG j s0 s1)]) (by (repeat (first | exact Upd.head | apply Upd.tail))) hgr hm))
      exact ⟨KeepsFrom.of_grownBy hgr (fun i e => by cases e; exact hlm), ⟨hgr.size, fun b hb hx => hgr.block b (by omega) (fun e => hx (by injection e))⟩, M, HP, Nat.le_trans hz hgr.size⟩
    | false =>
      rw [hv] at C HP
      clear hv
      gi_wp2_with (first | (refine i_st M rfl rfl rfl (by first | exact (rfl : _ = Value.agg _) | exact (rfl : _ = Value.int _ _) | exact (rfl : _ = Value.bool _) | exact (rfl : _ = Value.slice _ _ _) | exact (rfl : _ = Value.pointer _) | exact (rfl : _ = Value.map _) | exact (rfl : _ = Value.func _ _ _) | exact (rfl : _ = Value.string _)) (by rfl) (by (repeat (first | exact Upd.head | apply Upd.tail))) (by (try simp only [List.take_succ_cons, List.take_zero, List.take_nil, List.drop_succ_cons, List.drop_zero, List.drop_nil, List.cons_append, List.nil_append, List.append_nil, List.length_cons, List.length_nil, Nat.reduceAdd, Nat.zero_add, Nat.add_zero]); rfl) (by simp) (by simp [Value.oneCell']) (by kernel_rfl) ?_; clear M; intro W3 M oth) | (refine i_ld1 M rfl rfl rfl (by (repeat' (first | exact List.mem_cons_self | refine List.mem_cons_of_mem _ ?_))) (by rfl) ?_) | (refine i_ldr M rfl rfl rfl (by (repeat' (first | exact List.mem_cons_self | refine List.mem_cons_of_mem _ ?_))) (by (try simp only [List.take_succ_cons, List.take_zero, List.take_nil, List.drop_succ_cons, List.drop_zero, List.drop_nil, List.cons_append, List.nil_append, List.append_nil, List.length_cons, List.length_nil, Nat.reduceAdd, Nat.zero_add, Nat.add_zero]); rfl) (by rfl) ?_) | (refine i_al M rfl rfl ?_; clear M; (try clear wc); intro g wc M) | (refine i_bx M rfl rfl (by first | exact (rfl : _ = Value.agg _) | exact (rfl : _ = Value.int _ _) | exact (rfl : _ = Value.bool _) | exact (rfl : _ = Value.slice _ _ _) | exact (rfl : _ = Value.pointer _) | exact (rfl : _ = Value.map _) | exact (rfl : _ = Value.func _ _ _) | exact (rfl : _ = Value.string _)) (by rfl) ?_; clear M; (try clear wc); intro g wc M) | (refine i_st M rfl rfl rfl (by first | exact (rfl : _ = Value.agg _) | exact (rfl : _ = Value.int _ _) | exact (rfl : _ = Value.bool _) | exact (rfl : _ = Value.slice _ _ _) | exact (rfl : _ = Value.pointer _) | exact (rfl : _ = Value.map _) | exact (rfl : _ = Value.func _ _ _) | exact (rfl : _ = Value.string _)) (by rfl) (by (repeat (first | exact Upd.head | apply Upd.tail))) (by (try simp only [List.take_succ_cons, List.take_zero, List.take_nil, List.drop_succ_cons, List.drop_zero, List.drop_nil, List.cons_append, List.nil_append, List.append_nil, List.length_cons, List.length_nil, Nat.reduceAdd, Nat.zero_add, Nat.add_zero]); rfl) (by simp) (by simp [Value.oneCell']) (by kernel_rfl) ?_; clear M; (try clear wc); intro wc M oth; clear oth) | (refine i_lor bX rfl rfl rfl (by (try simp only [List.take_succ_cons, List.take_zero, List.take_nil, List.drop_succ_cons, List.drop_zero, List.drop_nil, List.cons_append, List.nil_append, List.append_nil, List.length_cons, List.length_nil, Nat.reduceAdd, Nat.zero_add, Nat.add_zero]); rfl) (by rfl) ?_) | (refine ⟨trivial, ?_⟩; gi_at_call 105; refine (CallsIn.inRound l (callsIn_wide.2 C)).mono ?_; rintro e W2 ⟨rfl, hgr, hm⟩; replace M := M.callW (L' := [(g, BA.cells [.bool true]), (gK, .cells [.int .i64 p0, .int .i64 p1, .int .i64 t, .int .i64 r, .int .i64 n]), (gG, .cells (gmA j A c s0 s1 bg bx)), (bm, memG j s0 s1)]) (by (repeat (first | exact Upd.head | apply Upd.tail))) hgr hm))
      have hk3 : KeepsFrom wc.heap.size W2 W3 := ⟨by rw [oth.size]; exact Nat.le_refl _, fun k o hk h _ => (oth.block k (by omega)).trans h⟩
      exact ⟨(KeepsFrom.of_grownBy hgr (fun i e => by cases e; exact hlm)).trans hk3, rfl, M, HP, by rw [oth.size]; exact Nat.le_trans hz hgr.size⟩
  case done =>
    rintro D ys W hD hS ⟨M, hp, -⟩ hK
    go_wp2_with (first | (refine m_ld1 M rfl rfl rfl (by (repeat' (first | exact List.mem_cons_self | refine List.mem_cons_of_mem _ ?_))) (by rfl) ?_) | (refine m_ldr M rfl rfl rfl (by (repeat' (first | exact List.mem_cons_self | refine List.mem_cons_of_mem _ ?_))) (by (try simp only [List.take_succ_cons, List.take_zero, List.take_nil, List.drop_succ_cons, List.drop_zero, List.drop_nil, List.cons_append, List.nil_append, List.append_nil, List.length_cons, List.length_nil, Nat.reduceAdd, Nat.zero_add, Nat.add_zero]); rfl) (by rfl) ?_) | (refine m_st M rfl rfl rfl (by first | exact (rfl : _ = Value.agg _) | exact (rfl : _ = Value.int _ _) | exact (rfl : _ = Value.bool _) | exact (rfl : _ = Value.slice _ _ _) | exact (rfl : _ = Value.pointer _) | exact (rfl : _ = Value.map _) | exact (rfl : _ = Value.func _ _ _) | exact (rfl : _ = Value.string _)) (by rfl) (by (repeat (first | exact Upd.head | apply Upd.tail))) (by (try simp only [List.take_succ_cons, List.take_zero, List.take_nil, List.drop_succ_cons, List.drop_zero, List.drop_nil, List.cons_append, List.nil_append, List.append_nil, List.length_cons, List.length_nil, Nat.reduceAdd, Nat.zero_add, Nat.add_zero]); rfl) (by simp) (by simp [Value.oneCell']) (by kernel_rfl) ?_; clear M; (try clear wc); intro wc M) | (refine m_al M rfl rfl ?_; clear M; (try clear wc); intro g wc M) | (refine m_bx M rfl rfl (by first | exact (rfl : _ = Value.agg _) | exact (rfl : _ = Value.int _ _) | exact (rfl : _ = Value.bool _) | exact (rfl : _ = Value.slice _ _ _) | exact (rfl : _ = Value.pointer _) | exact (rfl : _ = Value.map _) | exact (rfl : _ = Value.func _ _ _) | exact (rfl : _ = Value.string _)) (by rfl) ?_; clear M; (try clear wc); intro g wc M))
    rw [Exit.noGoto_ret]
    have M2 := M.far (grownBy_putObj' W D (.deferred none)) (n0 := wc.heap.size) (fun r e => by cases e; exact hD) hz0 hL
    have hv : readsP j s0 s1 n p0 p1 t r = true := by rw [← hp.out]; unfold readsP allS; rw [← hS]
    refine ⟨by simp, .inl ⟨_, _, rfl, run_takeDeferred hK, _, results_tmp rfl _ _ _, ?_⟩⟩
    rw [hv]
    exact ⟨rfl, M2.grown, M2.at (q := (bm, memG j s0 s1)) (by (repeat' (first | exact List.mem_cons_self | refine List.mem_cons_of_mem _ ?_)))⟩
  case stop =>
    rintro D cd pre W hD hSp ⟨rfl, M, hp, -⟩ hK
    refine wpIn_wide.2 ?_
    go_wp2_with (first | (refine m_ld1 M rfl rfl rfl (by (repeat' (first | exact List.mem_cons_self | refine List.mem_cons_of_mem _ ?_))) (by rfl) ?_) | (refine m_ldr M rfl rfl rfl (by (repeat' (first | exact List.mem_cons_self | refine List.mem_cons_of_mem _ ?_))) (by (try simp only [List.take_succ_cons, List.take_zero, List.take_nil, List.drop_succ_cons, List.drop_zero, List.drop_nil, List.cons_append, List.nil_append, List.append_nil, List.length_cons, List.length_nil, Nat.reduceAdd, Nat.zero_add, Nat.add_zero]); rfl) (by rfl) ?_) | (refine m_st M rfl rfl rfl (by first | exact (rfl : _ = Value.agg _) | exact (rfl : _ = Value.int _ _) | exact (rfl : _ = Value.bool _) | exact (rfl : _ = Value.slice _ _ _) | exact (rfl : _ = Value.pointer _) | exact (rfl : _ = Value.map _) | exact (rfl : _ = Value.func _ _ _) | exact (rfl : _ = Value.string _)) (by rfl) (by (repeat (first | exact Upd.head | apply Upd.tail))) (by (try simp only [List.take_succ_cons, List.take_zero, List.take_nil, List.drop_succ_cons, List.drop_zero, List.drop_nil, List.cons_append, List.nil_append, List.append_nil, List.length_cons, List.length_nil, Nat.reduceAdd, Nat.zero_add, Nat.add_zero]); rfl) (by simp) (by simp [Value.oneCell']) (by kernel_rfl) ?_; clear M; (try clear wc); intro wc M) | (refine m_al M rfl rfl ?_; clear M; (try clear wc); intro g wc M) | (refine m_bx M rfl rfl (by first | exact (rfl : _ = Value.agg _) | exact (rfl : _ = Value.int _ _) | exact (rfl : _ = Value.bool _) | exact (rfl : _ = Value.slice _ _ _) | exact (rfl : _ = Value.pointer _) | exact (rfl : _ = Value.map _) | exact (rfl : _ = Value.func _ _ _) | exact (rfl : _ = Value.string _)) (by rfl) ?_; clear M; (try clear wc); intro g wc M))
    rw [Exit.noGoto_ret]
    have M2 := M.far (grownBy_putObj' W D (.deferred none)) (n0 := wc.heap.size) (fun r e => by cases e; exact hD) hz0 hL'
    have hv : readsP j s0 s1 n p0 p1 t r = false := by
      obtain ⟨s, hs⟩ := hSp
      have h2 := hp.out
      unfold allS at h2
      unfold readsP
      rw [← hs, List.all_append]
      rw [show (pre.map (fun x => x.1)) = pre.map Subtype.val from rfl, h2]
      rfl
    refine ⟨by simp, .inl ⟨_, _, rfl, run_takeDeferred hK, _, results_tmp rfl _ _ _, ?_⟩⟩
    rw [hv]
    exact ⟨rfl, M2.grown, M2.at (q := (bm, memG j s0 s1)) (by (repeat' (first | exact List.mem_cons_self | refine List.mem_cons_of_mem _ ?_)))⟩

end Go.Proofs.Ythlpceoajhcliaa

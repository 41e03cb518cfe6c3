/-
  kit: a job made of numbers.
-/
import Derived.Test.YthlpceoajhcliaaKPot
import Derived.Test.YthlpceoajhcliaaKApp
import Derived.Test.YthlpceoajhcliaaRGood
namespace Go.Proofs.Ythlpceoajhcliaa
set_option linter.unusedSimpArgs false
set_option linter.unusedVariables false
open Go.RowKit

/-- What is so of every job that is made of numbers. -/
structure Jb.made (j : Jb) (wd ls : Int) : Prop where
  p : -60 ≤ j.p0 ∧ -16 - wd ≤ j.p0 ∧ j.p0 ≤ j.p1 ∧ j.p1 ≤ 16 + wd ∧ j.p1 ≤ 60 ∧ j.p1 - j.p0 ≤ 2 * wd
  t : 18 ≤ j.t0 ∧ j.t0 ≤ j.t1 ∧ j.t1 ≤ 42
  r : 18 ≤ j.r0 ∧ j.r0 ≤ j.r1 ∧ j.r1 ≤ 42
  u : 0 ≤ j.u0 ∧ j.u0 ≤ j.u1 ∧ j.u1 ≤ 12 ∧ j.u1 ≤ 6 + ls ∧ j.u1 - j.u0 ≤ 2 * ls
  d : 0 ≤ j.d0 ∧ j.d0 ≤ j.d1 ∧ j.d1 ≤ 12 ∧ j.d1 ≤ 6 + ls ∧ j.d1 - j.d0 ≤ 2 * ls
  a : 0 ≤ j.a0 ∧ j.a0 ≤ j.a1 ∧ j.a1 ≤ 5
  b : 0 ≤ j.b0 ∧ j.b0 ≤ j.b1 ∧ j.b1 ≤ 5
  le : 10 ≤ j.le ∧ j.le ≤ 30
  few : j.sh.length ≤ 3
  sh : ∀ q ∈ j.sh, -5 ≤ q.1 ∧ q.1 ≤ q.2 ∧ q.2 ≤ 5
  wi : 1 ≤ j.wi ∧ j.wi ≤ 6
  me : 0 ≤ j.me ∧ j.me ≤ 3
theorem Jb.made.good {j : Jb} {wd ls : Int} (h : j.made wd ls) : j.good := by
  obtain ⟨h1, h2, h3, h4, h5, h6, h7, h8, h9, h10, h11, h12⟩ := h
  exact ⟨by omega, by omega, by omega, by omega, by omega, by omega, by omega, by omega, by omega, fun p hp => by have := h10 p hp; omega, by omega, by omega⟩

def JobOfPost (bp : Nat) (wd ls : Int) (w : World) (e : Ending) (w' : World) : Prop :=
  ∃ (j : Jb) (A : Option Addr) (c : Nat) (s : Int) (I : List (Nat × BA)), e = .returned (jobV j A c) ∧ j.made wd ls ∧ u64ok s ∧ Sl 23 2 (.slice A j.sh.length c) j.sh.length (rc j.sh) I ∧ Mem w (fun b => b = bp) w' (I ++ [(bp, .cells [.int .u64 s])])

set_option maxRecDepth 100000 in
set_option maxHeartbeats 4000000 in
theorem jobOf_any (s : Int) (bp : Nat) (wd ls : Int) (w : World) (hw0 : 0 ≤ wd) (hw1 : wd ≤ 40) (hl0 : 0 ≤ ls) (hl1 : ls ≤ 40) (hp : Bk w bp #[.int .u64 s]) (hs : u64ok s) :
    Calls Try.prog 17 #[.pointer (some ⟨bp, 0, none⟩), .int .i64 wd, .int .i64 ls] w (JobOfPost bp wd ls w) := by
  have M := Mem.initEx (p := .cells [.int .u64 s]) hp
  have HS := Lib.hid hs
  clear hp hs
  go_enter Try.func17, Try.ntmps17
  refine m_start M ?_
  clear M
  intro wc M
  go_wp2_with (first | (refine m_al M rfl rfl ?_; clear M; (try clear wc); intro g wc M))
  obtain ⟨gr, rfl⟩ : ∃ x : Nat, x = g := ⟨_, rfl⟩
  go_wp2_with (first | (refine m_ld1 M rfl rfl rfl (by (repeat' (first | exact List.mem_cons_self | refine List.mem_cons_of_mem _ ?_))) (by rfl) ?_) | (refine m_ldr M rfl rfl rfl (by (repeat' (first | exact List.mem_cons_self | refine List.mem_cons_of_mem _ ?_))) (by (try simp only [List.take_succ_cons, List.take_zero, List.take_nil, List.drop_succ_cons, List.drop_zero, List.drop_nil, List.cons_append, List.nil_append, List.append_nil, List.length_cons, List.length_nil, Nat.reduceAdd, Nat.zero_add, Nat.add_zero]); rfl) (by rfl) ?_) | (refine m_st M rfl rfl rfl (by first | exact (rfl : _ = Value.agg _) | exact (rfl : _ = Value.int _ _) | exact (rfl : _ = Value.bool _) | exact (rfl : _ = Value.slice _ _ _) | exact (rfl : _ = Value.pointer _) | exact (rfl : _ = Value.map _) | exact (rfl : _ = Value.func _ _ _) | exact (rfl : _ = Value.string _)) (by rfl) (by (repeat (first | exact Upd.head | apply Upd.tail))) (by (try simp only [List.take_succ_cons, List.take_zero, List.take_nil, List.drop_succ_cons, List.drop_zero, List.drop_nil, List.cons_append, List.nil_append, List.append_nil, List.length_cons, List.length_nil, Nat.reduceAdd, Nat.zero_add, Nat.add_zero]); rfl) (by simp) (by simp [Value.oneCell']) (by kernel_rfl) ?_; clear M; (try clear wc); intro wc M) | (refine m_al M rfl rfl ?_; clear M; (try clear wc); intro g wc M) | (refine m_bx M rfl rfl (by first | exact (rfl : _ = Value.agg _) | exact (rfl : _ = Value.int _ _) | exact (rfl : _ = Value.bool _) | exact (rfl : _ = Value.slice _ _ _) | exact (rfl : _ = Value.pointer _) | exact (rfl : _ = Value.map _) | exact (rfl : _ = Value.func _ _ _) | exact (rfl : _ = Value.string _)) (by rfl) ?_; clear M; (try clear wc); intro g wc M) | (refine absorb M ?_; intro M'; clear M; (obtain ⟨M, -⟩ : _ ∧ True := ⟨M', trivial⟩); clear M'; revert M; generalize World.alloc _ _ = wn; generalize wc.heap.size = g; (try clear wc); intro M; (obtain ⟨wc, rfl⟩ : ∃ x : World, x = wn := ⟨_, rfl⟩)) | (go_at_call 28; refine (upto_any _ bp _ _ (by omega) (by omega) (M.get (by (repeat' (first | exact List.mem_cons_self | refine List.mem_cons_of_mem _ ?_)))) HS.out).mono ?_; rintro e wc ⟨v, s, hv, hs, rfl, hgr, hb⟩; have HS := Lib.hid hs; clear hs; replace M := M.callC (cs' := [.int .u64 s]) (by (repeat (first | exact Upd.head | apply Upd.tail))) hgr hb; clear hgr hb; skip) | (go_at_call 38; refine (within_pot _ bp _ _ _ (by omega) (by omega) (by omega) (M.get (by (repeat' (first | exact List.mem_cons_self | refine List.mem_cons_of_mem _ ?_)))) HS.out).mono ?_; rintro e wc ⟨v, s, hv, hs, rfl, hgr, hb⟩; have HS := Lib.hid hs; clear hs; replace M := M.callC (cs' := [.int .u64 s]) (by (repeat (first | exact Upd.head | apply Upd.tail))) hgr hb; clear hgr hb; skip) | (go_at_call 60; refine (of_pot _ bp _ _ _ _ _ (by have hnd := M.nd; simp only [List.map_cons, List.map_nil, List.nodup_cons, List.mem_cons, not_or] at hnd; omega) (M.get (by (repeat' (first | exact List.mem_cons_self | refine List.mem_cons_of_mem _ ?_)))) (M.get (by (repeat' (first | exact List.mem_cons_self | refine List.mem_cons_of_mem _ ?_)))) HS.out).mono ?_; rintro e wc ⟨v, s, hv, hs, rfl, hgr, hb⟩; have HS := Lib.hid hs; clear hs; replace M := M.callC (cs' := [.int .u64 s]) (by (repeat (first | exact Upd.head | apply Upd.tail))) hgr hb; clear hgr hb; skip) | (go_at_call 66; refine (near_pot _ bp _ _ _ _ _ (by omega) (by omega) (by omega) (by omega) (by omega) (by omega) (M.get (by (repeat' (first | exact List.mem_cons_self | refine List.mem_cons_of_mem _ ?_)))) HS.out).mono ?_; rintro e wc ⟨x, y, s, hv, hs, rfl, hgr, hb⟩; have HS := Lib.hid hs; clear hs; replace M := M.callC (cs' := [.int .u64 s]) (by (repeat (first | exact Upd.head | apply Upd.tail))) hgr hb; clear hgr hb))
  obtain ⟨j, M, hsh, hj⟩ : ∃ j : Jb, Mem w (fun b => b = bp) wc [(g, .cells [.int .i64 j.p0, .int .i64 j.p1, .int .i64 j.t0, .int .i64 j.t1, .int .i64 j.r0, .int .i64 j.r1, .int .i64 j.u0, .int .i64 j.u1, .int .i64 j.d0, .int .i64 j.d1, .int .i64 j.a0, .int .i64 j.a1, .int .i64 j.b0, .int .i64 j.b1, .int .i64 j.le, .slice none 0 0, .int .i64 j.wi, .int .i64 j.me]), (gr, .cells [.int .i64 0, .int .i64 0, .int .i64 0, .int .i64 0, .int .i64 0, .int .i64 0, .int .i64 0, .int .i64 0, .int .i64 0, .int .i64 0, .int .i64 0, .int .i64 0, .int .i64 0, .int .i64 0, .int .i64 0, .slice none 0 0, .int .i64 0, .int .i64 0]), (bp, .cells [.int .u64 s])] ∧ j.sh = [] ∧ j.made wd ls :=
    ⟨⟨_, _, _, _, _, _, _, _, _, _, _, _, _, _, _, [], _, _⟩, M.sub (by (repeat (first | exact List.Sublist.slnil | apply List.Sublist.cons_cons | apply List.Sublist.cons))), rfl, ⟨by dsimp only; omega, by dsimp only; omega, by dsimp only; omega, by dsimp only; omega, by dsimp only; omega, by dsimp only; omega, by dsimp only; omega, by dsimp only; omega, by simp, by simp, by dsimp only; omega, by dsimp only; omega⟩⟩
  have HJ := Lib.hid hj
  have HSH := Lib.hid hsh
  clear hj hsh
  go_loopw [9] (fun z wr => ∃ (i : Int) (sh : List (Int × Int)) (sv : Value) (s : Int) (I : List (Nat × BA)), z = .int .i64 i ∧ 0 ≤ i ∧ (sh.length : Int) + i ≤ 3 ∧ Hid (∀ q ∈ sh, -5 ≤ q.1 ∧ q.1 ≤ q.2 ∧ q.2 ≤ 5) ∧ Hid (u64ok s) ∧ Hid (Sl 23 2 sv sh.length (rc sh) I) ∧ Mem w (fun b => b = bp) wr (I ++ [(g, .cells [.int .i64 j.p0, .int .i64 j.p1, .int .i64 j.t0, .int .i64 j.t1, .int .i64 j.r0, .int .i64 j.r1, .int .i64 j.u0, .int .i64 j.u1, .int .i64 j.d0, .int .i64 j.d1, .int .i64 j.a0, .int .i64 j.a1, .int .i64 j.b0, .int .i64 j.b1, .int .i64 j.le, sv, .int .i64 j.wi, .int .i64 j.me]), (gr, .cells [.int .i64 0, .int .i64 0, .int .i64 0, .int .i64 0, .int .i64 0, .int .i64 0, .int .i64 0, .int .i64 0, .int .i64 0, .int .i64 0, .int .i64 0, .int .i64 0, .int .i64 0, .int .i64 0, .int .i64 0, .slice none 0 0, .int .i64 0, .int .i64 0]), (bp, .cells [.int .u64 s])])) (fun z _ => (intOf z).toNat)
  case atStart => exact ⟨_, [], _, s, [], rfl, by omega, by simp; omega, fun q hq => (by cases hq), HS, Sl.nil _ _, M⟩
  case round =>
    clear M HS
    obtain ⟨i, sh, sv, s, I, rfl, hi0, hi3, hq, HS, hsl, M⟩ := hrel
    obtain ⟨wc, rfl⟩ : ∃ x : World, x = wr := ⟨_, rfl⟩
    by_cases hlt : 0 < i
    · rcases hsl.out with ⟨rfl, hn0, hx0, rfl⟩ | ⟨g', cap, rfl, rfl⟩
      · have hsh0 : sh = [] := List.eq_nil_of_length_eq_zero hn0
        clear hsl hn0 hx0
        subst hsh0
        simp only [List.nil_append] at M
        go_wp2
        refine wp_region_G (fun L W => (L.getD 4 true = false → Mem w (fun b => b = bp) W [(g, .cells [.int .i64 j.p0, .int .i64 j.p1, .int .i64 j.t0, .int .i64 j.t1, .int .i64 j.r0, .int .i64 j.r1, .int .i64 j.u0, .int .i64 j.u1, .int .i64 j.d0, .int .i64 j.d1, .int .i64 j.a0, .int .i64 j.a1, .int .i64 j.b0, .int .i64 j.b1, .int .i64 j.le, .slice none 0 0, .int .i64 j.wi, .int .i64 j.me]), (gr, .cells [.int .i64 0, .int .i64 0, .int .i64 0, .int .i64 0, .int .i64 0, .int .i64 0, .int .i64 0, .int .i64 0, .int .i64 0, .int .i64 0, .int .i64 0, .int .i64 0, .int .i64 0, .int .i64 0, .int .i64 0, .slice none 0 0, .int .i64 0, .int .i64 0]), (bp, .cells [.int .u64 s])]) ∧ (L.getD 9 true = false → Bk W g #[.int .i64 j.p0, .int .i64 j.p1, .int .i64 j.t0, .int .i64 j.t1, .int .i64 j.r0, .int .i64 j.r1, .int .i64 j.u0, .int .i64 j.u1, .int .i64 j.d0, .int .i64 j.d1, .int .i64 j.a0, .int .i64 j.a1, .int .i64 j.b0, .int .i64 j.b1, .int .i64 j.le, .slice none 0 0, .int .i64 j.wi, .int .i64 j.me])) 10 (by kernel_rfl) (by kernel_rfl) ?s0a ?r0a
        case s0a => (exact ⟨fun _ => M.drew, fun _ => M.drew.get (by (repeat' (first | exact List.mem_cons_self | refine List.mem_cons_of_mem _ ?_)))⟩)
        intro W0
        refine wpG_take (i := 0) (v := ?v1a) rfl (by kernel_rfl) (by intro L w; simp only [getD_set_ne true (show (0 : Nat) ≠ 4 from by decide), getD_set_ne true (show (0 : Nat) ≠ 9 from by decide)]) (fun _ _ _ h => h) (Or.inl ⟨by rfl, ?y1a⟩) ?r1a
        case y1a => (intro w' hy; obtain ⟨L, hD, hl, hS⟩ := hy; clear hD hl hS; go_simp; (try with_reducible rfl))
        (try simp only [Act.put, List.getElem_toArray, List.getElem_cons_succ, List.getElem_cons_zero, List.setIfInBounds_toArray, List.set_cons_zero, List.set_cons_succ])
        refine wpG_take (i := 1) (v := ?v2a) rfl (by kernel_rfl) (by intro L w; simp only [getD_set_ne true (show (1 : Nat) ≠ 4 from by decide), getD_set_ne true (show (1 : Nat) ≠ 9 from by decide)]) (fun _ _ _ h => h) (Or.inl ⟨by rfl, ?y2a⟩) ?r2a
        case y2a => (intro w' hy; obtain ⟨L, hD, hl, hS⟩ := hy; have B0 := hS.2 (hD.wait (by kernel_rfl) hl); clear hS; (refine Eq.trans (rn_one (cs := [.int .i64 j.p0, .int .i64 j.p1, .int .i64 j.t0, .int .i64 j.t1, .int .i64 j.r0, .int .i64 j.r1, .int .i64 j.u0, .int .i64 j.u1, .int .i64 j.d0, .int .i64 j.d1, .int .i64 j.a0, .int .i64 j.a1, .int .i64 j.b0, .int .i64 j.b1, .int .i64 j.le, .slice none 0 0, .int .i64 j.wi, .int .i64 j.me]) B0 rfl rfl (by rfl)) ?_; with_reducible rfl); (try with_reducible rfl))
        (try simp only [Act.put, List.getElem_toArray, List.getElem_cons_succ, List.getElem_cons_zero, List.setIfInBounds_toArray, List.set_cons_zero, List.set_cons_succ])
        refine wpG_take (i := 2) (v := ?v3a) rfl (by kernel_rfl) (by intro L w; simp only [getD_set_ne true (show (2 : Nat) ≠ 4 from by decide), getD_set_ne true (show (2 : Nat) ≠ 9 from by decide)]) (fun _ _ _ h => h) (Or.inl ⟨by rfl, ?y3a⟩) ?r3a
        case y3a => (intro w' hy; obtain ⟨L, hD, hl, hS⟩ := hy; clear hD hl hS; go_simp; (try with_reducible rfl))
        (try simp only [Act.put, List.getElem_toArray, List.getElem_cons_succ, List.getElem_cons_zero, List.setIfInBounds_toArray, List.set_cons_zero, List.set_cons_succ])
        refine wpG_take (i := 3) (v := ?v4a) rfl (by kernel_rfl) (by intro L w; simp only [getD_set_ne true (show (3 : Nat) ≠ 4 from by decide), getD_set_ne true (show (3 : Nat) ≠ 9 from by decide)]) (fun _ _ _ h => h) (Or.inl ⟨by rfl, ?y4a⟩) ?r4a
        case y4a => (intro w' hy; obtain ⟨L, hD, hl, hS⟩ := hy; clear hD hl hS; go_simp; (try with_reducible rfl))
        (try simp only [Act.put, List.getElem_toArray, List.getElem_cons_succ, List.getElem_cons_zero, List.setIfInBounds_toArray, List.set_cons_zero, List.set_cons_succ])
        refine wpG_one (i := 4) (by kernel_rfl) rfl (by rfl) ?r5a
        intro hS K hK
        (have M1 := hS.1 (by kernel_rfl); clear hS M; go_simp; refine (within_pot _ bp _ _ _ (by omega) (by omega) (by omega) (M1.get (by (repeat' (first | exact List.mem_cons_self | refine List.mem_cons_of_mem _ ?_)))) HS.out).mono ?_; rintro e V1 ⟨v, s, hv, hs, rfl, hgr, hb⟩; have HS1 := Lib.hid hs; clear hs; replace M1 := M1.callC (cs' := [.int .u64 s]) (by (repeat (first | exact Upd.head | apply Upd.tail))) hgr hb; refine hK.out _ _ ⟨fun h => (no_of (by kernel_rfl) h).elim, fun _ => M1.get (by (repeat' (first | exact List.mem_cons_self | refine List.mem_cons_of_mem _ ?_)))⟩ ?_; clear hgr hb hK K)
        (try simp only [Act.put, List.getElem_toArray, List.getElem_cons_succ, List.getElem_cons_zero, List.setIfInBounds_toArray, List.set_cons_zero, List.set_cons_succ])
        refine wpG_one (i := 5) (by kernel_rfl) rfl (by rfl) ?r6a
        intro hS K hK
        (clear hS; go_simp; refine (near_pot _ bp _ _ _ _ _ (by omega) (by omega) (by omega) (by omega) (by omega) (by omega) (M1.get (by (repeat' (first | exact List.mem_cons_self | refine List.mem_cons_of_mem _ ?_)))) HS1.out).mono ?_; rintro e V2 ⟨x, y, s, hv2, hs, rfl, hgr, hb⟩; have HS2 := Lib.hid hs; clear hs; replace M1 := M1.callC (cs' := [.int .u64 s]) (by (repeat (first | exact Upd.head | apply Upd.tail))) hgr hb; refine hK.out _ _ ⟨fun h => (no_of (by kernel_rfl) h).elim, fun _ => M1.get (by (repeat' (first | exact List.mem_cons_self | refine List.mem_cons_of_mem _ ?_)))⟩ ?_; clear hgr hb hK K)
        (try simp only [Act.put, List.getElem_toArray, List.getElem_cons_succ, List.getElem_cons_zero, List.setIfInBounds_toArray, List.set_cons_zero, List.set_cons_succ])
        refine wpG_one (i := 6) (by kernel_rfl) rfl (by rfl) ?r7a
        intro hS K hK
        (clear hS; go_simp; have M2 := M1.new [.int .i64 x, .int .i64 y] 23; refine hK.out _ _ ⟨fun h => (no_of (by kernel_rfl) h).elim, fun _ => M2.get (by (repeat' (first | exact List.mem_cons_self | refine List.mem_cons_of_mem _ ?_)))⟩ ?_; clear hK K)
        (try simp only [Act.put, List.getElem_toArray, List.getElem_cons_succ, List.getElem_cons_zero, List.setIfInBounds_toArray, List.set_cons_zero, List.set_cons_succ])
        refine wpG_one (i := 7) (by kernel_rfl) rfl (by rfl) ?r8a
        intro hS K hK
        (clear hS; refine app_wp (I := []) Try.underlying28 Try.infoRange rfl (by omega) (by omega) M2 (Sl.nil _ _) (by omega) rfl rfl rfl (by (repeat' (first | exact List.mem_cons_self | refine List.mem_cons_of_mem _ ?_))) rfl (by simp [Value.oneCell']) ?_; intro g2 cap2 V3 M3; refine hK.out _ _ ⟨fun h => (no_of (by kernel_rfl) h).elim, fun _ => M3.get (by (repeat' (first | exact List.mem_cons_self | refine List.mem_cons_of_mem _ ?_)))⟩ ?_; clear hK K M2)
        (try simp only [Act.put, List.getElem_toArray, List.getElem_cons_succ, List.getElem_cons_zero, List.setIfInBounds_toArray, List.set_cons_zero, List.set_cons_succ])
        refine wpG_take (i := 8) (v := ?v9a) rfl (by kernel_rfl) (by intro L w; simp only [getD_set_ne true (show (8 : Nat) ≠ 4 from by decide), getD_set_ne true (show (8 : Nat) ≠ 9 from by decide)]) (fun _ _ _ h => h) (Or.inl ⟨by rfl, ?y9a⟩) ?r9a
        case y9a => (intro w' hy; obtain ⟨L, hD, hl, hS⟩ := hy; clear hD hl hS; go_simp; (try with_reducible rfl))
        (try simp only [Act.put, List.getElem_toArray, List.getElem_cons_succ, List.getElem_cons_zero, List.setIfInBounds_toArray, List.set_cons_zero, List.set_cons_succ])
        refine wpG_one (i := 9) (by kernel_rfl) rfl (by rfl) ?r10a
        intro hS K hK
        (clear hS; refine m_stw M3 rfl rfl (by first | exact (rfl : _ = Value.agg _) | exact (rfl : _ = Value.int _ _) | exact (rfl : _ = Value.bool _) | exact (rfl : _ = Value.slice _ _ _) | exact (rfl : _ = Value.pointer _) | exact (rfl : _ = Value.map _) | exact (rfl : _ = Value.func _ _ _) | exact (rfl : _ = Value.string _)) (by rfl) (by (repeat (first | exact Upd.head | apply Upd.tail))) (by (try simp only [List.take_succ_cons, List.take_zero, List.take_nil, List.drop_succ_cons, List.drop_zero, List.drop_nil, List.cons_append, List.nil_append, List.append_nil, List.length_cons, List.length_nil, Nat.reduceAdd, Nat.zero_add, Nat.add_zero]); rfl) (by simp) (by simp [Value.oneCell']) (by kernel_rfl) ?_; intro V4 M4; refine hK.out _ _ ⟨fun h => (no_of (by kernel_rfl) h).elim, fun h => (no_of (by kernel_rfl) h).elim⟩ ?_; clear hK K)
        
        (try simp only [Act.put, List.getElem_toArray, List.getElem_cons_succ, List.getElem_cons_zero, List.setIfInBounds_toArray, List.set_cons_zero, List.set_cons_succ])
        refine wpG_done (by kernel_rfl) ?_
        intro hS
        go_wp2
        have e1 : (([] : List (Int × Int)) ++ [(x, y)]).length = ([] : List (Int × Int)).length + 1 := by simp
        have e2 : rc (([] : List (Int × Int)) ++ [(x, y)]) = rc ([] : List (Int × Int)) ++ [.int .i64 x, .int .i64 y] := by rw [rc_append]; rfl
        go_roundw
        case rel => exact ⟨i - 1, ([] : List (Int × Int)) ++ [(x, y)], .slice (some ⟨g2, 0, none⟩) (([] : List (Int × Int)).length + 1) cap2, s, [(g2, .row 23 2 (([] : List (Int × Int)).length + 1) (rc ([] : List (Int × Int)) ++ [.int .i64 x, .int .i64 y]) cap2)], rfl, by omega, by rw [e1]; simp at hi3 ⊢; omega, (by
          intro q hq'
          rcases List.mem_append.1 hq' with h | h
          · exact hq.out q h
          · obtain rfl := List.mem_singleton.1 h; dsimp only; omega), HS2, (by show Sl _ _ _ _ _ _; rw [e1, e2]; exact Sl.row _ _ _ _ _ _), M4.sub (by (repeat (first | exact List.Sublist.slnil | apply List.Sublist.cons_cons | apply List.Sublist.cons)))⟩
        case measure => simp [intOf]; omega
      · clear hsl
        simp only [List.cons_append, List.nil_append] at M
        go_wp2
        refine wp_region_G (fun L W => (L.getD 4 true = false → Mem w (fun b => b = bp) W [(g', .row 23 2 sh.length (rc sh) cap), (g, .cells [.int .i64 j.p0, .int .i64 j.p1, .int .i64 j.t0, .int .i64 j.t1, .int .i64 j.r0, .int .i64 j.r1, .int .i64 j.u0, .int .i64 j.u1, .int .i64 j.d0, .int .i64 j.d1, .int .i64 j.a0, .int .i64 j.a1, .int .i64 j.b0, .int .i64 j.b1, .int .i64 j.le, .slice (some ⟨g', 0, none⟩) sh.length cap, .int .i64 j.wi, .int .i64 j.me]), (gr, .cells [.int .i64 0, .int .i64 0, .int .i64 0, .int .i64 0, .int .i64 0, .int .i64 0, .int .i64 0, .int .i64 0, .int .i64 0, .int .i64 0, .int .i64 0, .int .i64 0, .int .i64 0, .int .i64 0, .int .i64 0, .slice none 0 0, .int .i64 0, .int .i64 0]), (bp, .cells [.int .u64 s])]) ∧ (L.getD 9 true = false → Bk W g #[.int .i64 j.p0, .int .i64 j.p1, .int .i64 j.t0, .int .i64 j.t1, .int .i64 j.r0, .int .i64 j.r1, .int .i64 j.u0, .int .i64 j.u1, .int .i64 j.d0, .int .i64 j.d1, .int .i64 j.a0, .int .i64 j.a1, .int .i64 j.b0, .int .i64 j.b1, .int .i64 j.le, .slice (some ⟨g', 0, none⟩) sh.length cap, .int .i64 j.wi, .int .i64 j.me])) 10 (by kernel_rfl) (by kernel_rfl) ?s0b ?r0b
        case s0b => (exact ⟨fun _ => M.drew, fun _ => M.drew.get (by (repeat' (first | exact List.mem_cons_self | refine List.mem_cons_of_mem _ ?_)))⟩)
        intro W0
        refine wpG_take (i := 0) (v := ?v1b) rfl (by kernel_rfl) (by intro L w; simp only [getD_set_ne true (show (0 : Nat) ≠ 4 from by decide), getD_set_ne true (show (0 : Nat) ≠ 9 from by decide)]) (fun _ _ _ h => h) (Or.inl ⟨by rfl, ?y1b⟩) ?r1b
        case y1b => (intro w' hy; obtain ⟨L, hD, hl, hS⟩ := hy; clear hD hl hS; go_simp; (try with_reducible rfl))
        (try simp only [Act.put, List.getElem_toArray, List.getElem_cons_succ, List.getElem_cons_zero, List.setIfInBounds_toArray, List.set_cons_zero, List.set_cons_succ])
        refine wpG_take (i := 1) (v := ?v2b) rfl (by kernel_rfl) (by intro L w; simp only [getD_set_ne true (show (1 : Nat) ≠ 4 from by decide), getD_set_ne true (show (1 : Nat) ≠ 9 from by decide)]) (fun _ _ _ h => h) (Or.inl ⟨by rfl, ?y2b⟩) ?r2b
        case y2b => (intro w' hy; obtain ⟨L, hD, hl, hS⟩ := hy; have B0 := hS.2 (hD.wait (by kernel_rfl) hl); clear hS; (refine Eq.trans (rn_one (cs := [.int .i64 j.p0, .int .i64 j.p1, .int .i64 j.t0, .int .i64 j.t1, .int .i64 j.r0, .int .i64 j.r1, .int .i64 j.u0, .int .i64 j.u1, .int .i64 j.d0, .int .i64 j.d1, .int .i64 j.a0, .int .i64 j.a1, .int .i64 j.b0, .int .i64 j.b1, .int .i64 j.le, .slice (some ⟨g', 0, none⟩) sh.length cap, .int .i64 j.wi, .int .i64 j.me]) B0 rfl rfl (by rfl)) ?_; with_reducible rfl); (try with_reducible rfl))
        (try simp only [Act.put, List.getElem_toArray, List.getElem_cons_succ, List.getElem_cons_zero, List.setIfInBounds_toArray, List.set_cons_zero, List.set_cons_succ])
        refine wpG_take (i := 2) (v := ?v3b) rfl (by kernel_rfl) (by intro L w; simp only [getD_set_ne true (show (2 : Nat) ≠ 4 from by decide), getD_set_ne true (show (2 : Nat) ≠ 9 from by decide)]) (fun _ _ _ h => h) (Or.inl ⟨by rfl, ?y3b⟩) ?r3b
        case y3b => (intro w' hy; obtain ⟨L, hD, hl, hS⟩ := hy; clear hD hl hS; go_simp; (try with_reducible rfl))
        (try simp only [Act.put, List.getElem_toArray, List.getElem_cons_succ, List.getElem_cons_zero, List.setIfInBounds_toArray, List.set_cons_zero, List.set_cons_succ])
        refine wpG_take (i := 3) (v := ?v4b) rfl (by kernel_rfl) (by intro L w; simp only [getD_set_ne true (show (3 : Nat) ≠ 4 from by decide), getD_set_ne true (show (3 : Nat) ≠ 9 from by decide)]) (fun _ _ _ h => h) (Or.inl ⟨by rfl, ?y4b⟩) ?r4b
        case y4b => (intro w' hy; obtain ⟨L, hD, hl, hS⟩ := hy; clear hD hl hS; go_simp; (try with_reducible rfl))
        (try simp only [Act.put, List.getElem_toArray, List.getElem_cons_succ, List.getElem_cons_zero, List.setIfInBounds_toArray, List.set_cons_zero, List.set_cons_succ])
        refine wpG_one (i := 4) (by kernel_rfl) rfl (by rfl) ?r5b
        intro hS K hK
        (have M1 := hS.1 (by kernel_rfl); clear hS M; go_simp; refine (within_pot _ bp _ _ _ (by omega) (by omega) (by omega) (M1.get (by (repeat' (first | exact List.mem_cons_self | refine List.mem_cons_of_mem _ ?_)))) HS.out).mono ?_; rintro e V1 ⟨v, s, hv, hs, rfl, hgr, hb⟩; have HS1 := Lib.hid hs; clear hs; replace M1 := M1.callC (cs' := [.int .u64 s]) (by (repeat (first | exact Upd.head | apply Upd.tail))) hgr hb; refine hK.out _ _ ⟨fun h => (no_of (by kernel_rfl) h).elim, fun _ => M1.get (by (repeat' (first | exact List.mem_cons_self | refine List.mem_cons_of_mem _ ?_)))⟩ ?_; clear hgr hb hK K)
        (try simp only [Act.put, List.getElem_toArray, List.getElem_cons_succ, List.getElem_cons_zero, List.setIfInBounds_toArray, List.set_cons_zero, List.set_cons_succ])
        refine wpG_one (i := 5) (by kernel_rfl) rfl (by rfl) ?r6b
        intro hS K hK
        (clear hS; go_simp; refine (near_pot _ bp _ _ _ _ _ (by omega) (by omega) (by omega) (by omega) (by omega) (by omega) (M1.get (by (repeat' (first | exact List.mem_cons_self | refine List.mem_cons_of_mem _ ?_)))) HS1.out).mono ?_; rintro e V2 ⟨x, y, s, hv2, hs, rfl, hgr, hb⟩; have HS2 := Lib.hid hs; clear hs; replace M1 := M1.callC (cs' := [.int .u64 s]) (by (repeat (first | exact Upd.head | apply Upd.tail))) hgr hb; refine hK.out _ _ ⟨fun h => (no_of (by kernel_rfl) h).elim, fun _ => M1.get (by (repeat' (first | exact List.mem_cons_self | refine List.mem_cons_of_mem _ ?_)))⟩ ?_; clear hgr hb hK K)
        (try simp only [Act.put, List.getElem_toArray, List.getElem_cons_succ, List.getElem_cons_zero, List.setIfInBounds_toArray, List.set_cons_zero, List.set_cons_succ])
        refine wpG_one (i := 6) (by kernel_rfl) rfl (by rfl) ?r7b
        intro hS K hK
        (clear hS; go_simp; have M2 := M1.new [.int .i64 x, .int .i64 y] 23; refine hK.out _ _ ⟨fun h => (no_of (by kernel_rfl) h).elim, fun _ => M2.get (by (repeat' (first | exact List.mem_cons_self | refine List.mem_cons_of_mem _ ?_)))⟩ ?_; clear hK K)
        (try simp only [Act.put, List.getElem_toArray, List.getElem_cons_succ, List.getElem_cons_zero, List.setIfInBounds_toArray, List.set_cons_zero, List.set_cons_succ])
        refine wpG_one (i := 7) (by kernel_rfl) rfl (by rfl) ?r8b
        intro hS K hK
        (clear hS; refine app_wp (I := [(g', .row 23 2 sh.length (rc sh) cap)]) Try.underlying28 Try.infoRange rfl (by omega) (by omega) M2.swap (Sl.row _ _ _ _ _ _) (by omega) rfl rfl rfl (by (repeat' (first | exact List.mem_cons_self | refine List.mem_cons_of_mem _ ?_))) rfl (by simp [Value.oneCell']) ?_; intro g2 cap2 V3 M3; refine hK.out _ _ ⟨fun h => (no_of (by kernel_rfl) h).elim, fun _ => M3.get (by (repeat' (first | exact List.mem_cons_self | refine List.mem_cons_of_mem _ ?_)))⟩ ?_; clear hK K M2)
        (try simp only [Act.put, List.getElem_toArray, List.getElem_cons_succ, List.getElem_cons_zero, List.setIfInBounds_toArray, List.set_cons_zero, List.set_cons_succ])
        refine wpG_take (i := 8) (v := ?v9b) rfl (by kernel_rfl) (by intro L w; simp only [getD_set_ne true (show (8 : Nat) ≠ 4 from by decide), getD_set_ne true (show (8 : Nat) ≠ 9 from by decide)]) (fun _ _ _ h => h) (Or.inl ⟨by rfl, ?y9b⟩) ?r9b
        case y9b => (intro w' hy; obtain ⟨L, hD, hl, hS⟩ := hy; clear hD hl hS; go_simp; (try with_reducible rfl))
        (try simp only [Act.put, List.getElem_toArray, List.getElem_cons_succ, List.getElem_cons_zero, List.setIfInBounds_toArray, List.set_cons_zero, List.set_cons_succ])
        refine wpG_one (i := 9) (by kernel_rfl) rfl (by rfl) ?r10b
        intro hS K hK
        (clear hS; refine m_stw M3 rfl rfl (by first | exact (rfl : _ = Value.agg _) | exact (rfl : _ = Value.int _ _) | exact (rfl : _ = Value.bool _) | exact (rfl : _ = Value.slice _ _ _) | exact (rfl : _ = Value.pointer _) | exact (rfl : _ = Value.map _) | exact (rfl : _ = Value.func _ _ _) | exact (rfl : _ = Value.string _)) (by rfl) (by (repeat (first | exact Upd.head | apply Upd.tail))) (by (try simp only [List.take_succ_cons, List.take_zero, List.take_nil, List.drop_succ_cons, List.drop_zero, List.drop_nil, List.cons_append, List.nil_append, List.append_nil, List.length_cons, List.length_nil, Nat.reduceAdd, Nat.zero_add, Nat.add_zero]); rfl) (by simp) (by simp [Value.oneCell']) (by kernel_rfl) ?_; intro V4 M4; refine hK.out _ _ ⟨fun h => (no_of (by kernel_rfl) h).elim, fun h => (no_of (by kernel_rfl) h).elim⟩ ?_; clear hK K)
        
        (try simp only [Act.put, List.getElem_toArray, List.getElem_cons_succ, List.getElem_cons_zero, List.setIfInBounds_toArray, List.set_cons_zero, List.set_cons_succ])
        refine wpG_done (by kernel_rfl) ?_
        intro hS
        go_wp2
        have e1 : (sh ++ [(x, y)]).length = sh.length + 1 := by simp
        have e2 : rc (sh ++ [(x, y)]) = rc sh ++ [.int .i64 x, .int .i64 y] := by rw [rc_append]; rfl
        go_roundw
        case rel => exact ⟨i - 1, sh ++ [(x, y)], .slice (some ⟨g2, 0, none⟩) (sh.length + 1) cap2, s, [(g2, .row 23 2 (sh.length + 1) (rc sh ++ [.int .i64 x, .int .i64 y]) cap2)], rfl, by omega, by rw [e1]; simp at hi3 ⊢; omega, (by
          intro q hq'
          rcases List.mem_append.1 hq' with h | h
          · exact hq.out q h
          · obtain rfl := List.mem_singleton.1 h; dsimp only; omega), HS2, (by show Sl _ _ _ _ _ _; rw [e1, e2]; exact Sl.row _ _ _ _ _ _), M4.sub (by (repeat (first | exact List.Sublist.slnil | apply List.Sublist.cons_cons | apply List.Sublist.cons)))⟩
        case measure => simp [intOf]; omega
    · rcases hsl.out with ⟨rfl, hn0, hx0, rfl⟩ | ⟨g', cap, rfl, rfl⟩
      · have hsh0 : sh = [] := List.eq_nil_of_length_eq_zero hn0
        clear hn0 hx0
        subst hsh0
        simp only [List.nil_append] at M
        go_wp2_with (first | (refine m_ld1 M rfl rfl rfl (by (repeat' (first | exact List.mem_cons_self | refine List.mem_cons_of_mem _ ?_))) (by rfl) ?_) | (refine m_ldr M rfl rfl rfl (by (repeat' (first | exact List.mem_cons_self | refine List.mem_cons_of_mem _ ?_))) (by (try simp only [List.take_succ_cons, List.take_zero, List.take_nil, List.drop_succ_cons, List.drop_zero, List.drop_nil, List.cons_append, List.nil_append, List.append_nil, List.length_cons, List.length_nil, Nat.reduceAdd, Nat.zero_add, Nat.add_zero]); rfl) (by rfl) ?_) | (refine m_st M rfl rfl rfl (by first | exact (rfl : _ = Value.agg _) | exact (rfl : _ = Value.int _ _) | exact (rfl : _ = Value.bool _) | exact (rfl : _ = Value.slice _ _ _) | exact (rfl : _ = Value.pointer _) | exact (rfl : _ = Value.map _) | exact (rfl : _ = Value.func _ _ _) | exact (rfl : _ = Value.string _)) (by rfl) (by (repeat (first | exact Upd.head | apply Upd.tail))) (by (try simp only [List.take_succ_cons, List.take_zero, List.take_nil, List.drop_succ_cons, List.drop_zero, List.drop_nil, List.cons_append, List.nil_append, List.append_nil, List.length_cons, List.length_nil, Nat.reduceAdd, Nat.zero_add, Nat.add_zero]); rfl) (by simp) (by simp [Value.oneCell']) (by kernel_rfl) ?_; clear M; (try clear wc); intro wc M) | (refine m_al M rfl rfl ?_; clear M; (try clear wc); intro g wc M) | (refine m_bx M rfl rfl (by first | exact (rfl : _ = Value.agg _) | exact (rfl : _ = Value.int _ _) | exact (rfl : _ = Value.bool _) | exact (rfl : _ = Value.slice _ _ _) | exact (rfl : _ = Value.pointer _) | exact (rfl : _ = Value.map _) | exact (rfl : _ = Value.func _ _ _) | exact (rfl : _ = Value.string _)) (by rfl) ?_; clear M; (try clear wc); intro g wc M))
        refine ret_M (t := 6) (ty := 30) M (by rfl) (by rfl) (by rfl) (by (repeat' (first | exact List.mem_cons_self | refine List.mem_cons_of_mem _ ?_))) (by rfl) ?_
        exact ⟨{ j with sh := [] }, none, 0, s, [], rfl, ⟨HJ.out.p, HJ.out.t, HJ.out.r, HJ.out.u, HJ.out.d, HJ.out.a, HJ.out.b, HJ.out.le, by simp, hq.out, HJ.out.wi, HJ.out.me⟩, HS.out, Sl.nil _ _, M.sub (by (repeat (first | exact List.Sublist.slnil | apply List.Sublist.cons_cons | apply List.Sublist.cons)))⟩
      · simp only [List.cons_append, List.nil_append] at M
        go_wp2_with (first | (refine m_ld1 M rfl rfl rfl (by (repeat' (first | exact List.mem_cons_self | refine List.mem_cons_of_mem _ ?_))) (by rfl) ?_) | (refine m_ldr M rfl rfl rfl (by (repeat' (first | exact List.mem_cons_self | refine List.mem_cons_of_mem _ ?_))) (by (try simp only [List.take_succ_cons, List.take_zero, List.take_nil, List.drop_succ_cons, List.drop_zero, List.drop_nil, List.cons_append, List.nil_append, List.append_nil, List.length_cons, List.length_nil, Nat.reduceAdd, Nat.zero_add, Nat.add_zero]); rfl) (by rfl) ?_) | (refine m_st M rfl rfl rfl (by first | exact (rfl : _ = Value.agg _) | exact (rfl : _ = Value.int _ _) | exact (rfl : _ = Value.bool _) | exact (rfl : _ = Value.slice _ _ _) | exact (rfl : _ = Value.pointer _) | exact (rfl : _ = Value.map _) | exact (rfl : _ = Value.func _ _ _) | exact (rfl : _ = Value.string _)) (by rfl) (by (repeat (first | exact Upd.head | apply Upd.tail))) (by (try simp only [List.take_succ_cons, List.take_zero, List.take_nil, List.drop_succ_cons, List.drop_zero, List.drop_nil, List.cons_append, List.nil_append, List.append_nil, List.length_cons, List.length_nil, Nat.reduceAdd, Nat.zero_add, Nat.add_zero]); rfl) (by simp) (by simp [Value.oneCell']) (by kernel_rfl) ?_; clear M; (try clear wc); intro wc M) | (refine m_al M rfl rfl ?_; clear M; (try clear wc); intro g wc M) | (refine m_bx M rfl rfl (by first | exact (rfl : _ = Value.agg _) | exact (rfl : _ = Value.int _ _) | exact (rfl : _ = Value.bool _) | exact (rfl : _ = Value.slice _ _ _) | exact (rfl : _ = Value.pointer _) | exact (rfl : _ = Value.map _) | exact (rfl : _ = Value.func _ _ _) | exact (rfl : _ = Value.string _)) (by rfl) ?_; clear M; (try clear wc); intro g wc M))
        refine ret_M (t := 6) (ty := 30) M (by rfl) (by rfl) (by rfl) (by (repeat' (first | exact List.mem_cons_self | refine List.mem_cons_of_mem _ ?_))) (by rfl) ?_
        exact ⟨{ j with sh := sh }, some ⟨g', 0, none⟩, cap, s, [(g', .row 23 2 sh.length (rc sh) cap)], rfl, ⟨HJ.out.p, HJ.out.t, HJ.out.r, HJ.out.u, HJ.out.d, HJ.out.a, HJ.out.b, HJ.out.le, by dsimp only; omega, hq.out, HJ.out.wi, HJ.out.me⟩, HS.out, Sl.row _ _ _ _ _ _, M.sub (by (repeat (first | exact List.Sublist.slnil | apply List.Sublist.cons_cons | apply List.Sublist.cons)))⟩

end Go.Proofs.Ythlpceoajhcliaa

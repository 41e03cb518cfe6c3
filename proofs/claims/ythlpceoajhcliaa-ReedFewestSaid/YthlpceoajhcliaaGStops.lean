/-
  reed: whether a tuner can be sure to stop: what is remembered is right.
-/
import Derived.Test.YthlpceoajhcliaaGStroke
namespace Go.Proofs.Ythlpceoajhcliaa
set_option linter.unusedSimpArgs false
set_option linter.unusedVariables false
open Go.RowKit

theorem kn5_inj {p0 p1 t r a b c d : Int} {n m : Nat} (h : kn5 p0 p1 t r n = kn5 a b c d m) : p0 = a ∧ p1 = b ∧ t = c ∧ r = d ∧ n = m := by
  simp at h
  exact ⟨h.1, h.2.1, h.2.2.1, h.2.2.2.1, by have := h.2.2.2.2; omega⟩

set_option maxRecDepth 100000 in
set_option maxHeartbeats 1000000 in
theorem stops_of (j : Jb) (A : Option Addr) (c : Nat) (s0 s1 : Int) (bg bx bm : Nat) (n : Nat) (p0 p1 t r : Int) (w : World) (hb : Bnd n p0 p1 t r) (hg : Gm j A c s0 s1 bg bx bm w)
    (hs : ∀ w', Gm j A c s0 s1 bg bx bm w' → Calls Try.prog 78 #[.agg (gmA j A c s0 s1 bg bx).toArray, kn5 p0 p1 t r n] w' (GPost j s0 s1 bm (.int .i64 (strokeP j s0 s1 n p0 p1 t r)) w')) :
    Calls Try.prog 105 #[kn5 p0 p1 t r n, .pointer (some ⟨bg, 0, none⟩), .pointer (some ⟨bx, 0, none⟩)] w (GPost j s0 s1 bm (.bool (stopsP j s0 s1 n p0 p1 t r)) w) := by
  have M := Mem.initEx hg.m
  have HG := Lib.hid hg
  have HS := Lib.hid hs
  have HE := Lib.hid (stopsP_eq j s0 s1 n p0 p1 t r)
  obtain ⟨kl, hkl⟩ := Try.kn_key ⟨p0, p1, t, r, n⟩ (by obtain ⟨h1, h2, h3, h4, h5⟩ := hb; exact ⟨by dsimp only; omega, by dsimp only; omega, by dsimp only; omega, by dsimp only; omega, by dsimp only; omega⟩)
  have HK := Lib.hid hkl
  have HO : Hid (∀ v, okG j s0 s1 (kn5 p0 p1 t r n) v ↔ v = .bool (stopsP j s0 s1 n p0 p1 t r)) := by
    intro v
    refine ⟨fun h => h p0 p1 t r n rfl, fun h a b c d m e => ?_⟩
    obtain ⟨rfl, rfl, rfl, rfl, rfl⟩ := kn5_inj e
    exact h
  clear hg hs hkl hb
  generalize hst : stopsP j s0 s1 n p0 p1 t r = sv at *
  generalize hsk : strokeP j s0 s1 n p0 p1 t r = kv at *
  clear hst hsk
  cases hh : hasB s0 s1 p0 p1 with
  | true =>
    have HH := Lib.hid hh
    have HV : Hid (sv = true) := by show _ = _; rw [HE.out, hh]; rfl
    clear hh
    go_enter Try.func105, Try.ntmps105
    refine m_start M ?_
    clear M
    intro wc M
    go_wp2_with (first | (refine m_ld1 M rfl rfl rfl (by (repeat' (first | exact List.mem_cons_self | refine List.mem_cons_of_mem _ ?_))) (by rfl) ?_) | (refine m_ldr M rfl rfl rfl (by (repeat' (first | exact List.mem_cons_self | refine List.mem_cons_of_mem _ ?_))) (by (try simp only [List.take_succ_cons, List.take_zero, List.take_nil, List.drop_succ_cons, List.drop_zero, List.drop_nil, List.cons_append, List.nil_append, List.append_nil, List.length_cons, List.length_nil, Nat.reduceAdd, Nat.zero_add, Nat.add_zero]); rfl) (by rfl) ?_) | (refine m_st M rfl rfl rfl (by first | exact (rfl : _ = Value.agg _) | exact (rfl : _ = Value.int _ _) | exact (rfl : _ = Value.bool _) | exact (rfl : _ = Value.slice _ _ _) | exact (rfl : _ = Value.pointer _) | exact (rfl : _ = Value.map _) | exact (rfl : _ = Value.func _ _ _) | exact (rfl : _ = Value.string _)) (by rfl) (by (repeat (first | exact Upd.head | apply Upd.tail))) (by (try simp only [List.take_succ_cons, List.take_zero, List.take_nil, List.drop_succ_cons, List.drop_zero, List.drop_nil, List.cons_append, List.nil_append, List.append_nil, List.length_cons, List.length_nil, Nat.reduceAdd, Nat.zero_add, Nat.add_zero]); rfl) (by simp) (by simp [Value.oneCell']) (by kernel_rfl) ?_; clear M; (try clear wc); intro wc M) | (refine m_al M rfl rfl ?_; clear M; (try clear wc); intro g wc M) | (refine m_bx M rfl rfl (by first | exact (rfl : _ = Value.agg _) | exact (rfl : _ = Value.int _ _) | exact (rfl : _ = Value.bool _) | exact (rfl : _ = Value.slice _ _ _) | exact (rfl : _ = Value.pointer _) | exact (rfl : _ = Value.map _) | exact (rfl : _ = Value.func _ _ _) | exact (rfl : _ = Value.string _)) (by rfl) ?_; clear M; (try clear wc); intro g wc M) | (refine lo_row (M.old HG.out.g HG.out.ng) rfl rfl rfl (by (try simp only [List.take_succ_cons, List.take_zero, List.take_nil, List.drop_succ_cons, List.drop_zero, List.drop_nil, List.cons_append, List.nil_append, List.append_nil, List.length_cons, List.length_nil, Nat.reduceAdd, Nat.zero_add, Nat.add_zero]); rfl) (by rfl) ?_) | (go_at_call 106; ((with_reducible refine (has_any _ _ _ _ _).mono ?_); (rw [HH.out]); rintro e wc ⟨rfl, hb⟩; replace M := M.call hb; clear hb)))
    go_ret
    rw [HV.out]
    exact ⟨rfl, M.grown, (M.at (q := (bm, memG j s0 s1)) (by (repeat' (first | exact List.mem_cons_self | refine List.mem_cons_of_mem _ ?_))))⟩
  | false =>
    have HH := Lib.hid hh
    have HV : Hid (sv = decide (0 < kv)) := by show _ = _; rw [HE.out, hh]; rfl
    clear hh
    go_enter Try.func105, Try.ntmps105
    refine m_start M ?_
    clear M
    intro wc M
    go_wp2_with (first | (refine m_ld1 M rfl rfl rfl (by (repeat' (first | exact List.mem_cons_self | refine List.mem_cons_of_mem _ ?_))) (by rfl) ?_) | (refine m_ldr M rfl rfl rfl (by (repeat' (first | exact List.mem_cons_self | refine List.mem_cons_of_mem _ ?_))) (by (try simp only [List.take_succ_cons, List.take_zero, List.take_nil, List.drop_succ_cons, List.drop_zero, List.drop_nil, List.cons_append, List.nil_append, List.append_nil, List.length_cons, List.length_nil, Nat.reduceAdd, Nat.zero_add, Nat.add_zero]); rfl) (by rfl) ?_) | (refine m_st M rfl rfl rfl (by first | exact (rfl : _ = Value.agg _) | exact (rfl : _ = Value.int _ _) | exact (rfl : _ = Value.bool _) | exact (rfl : _ = Value.slice _ _ _) | exact (rfl : _ = Value.pointer _) | exact (rfl : _ = Value.map _) | exact (rfl : _ = Value.func _ _ _) | exact (rfl : _ = Value.string _)) (by rfl) (by (repeat (first | exact Upd.head | apply Upd.tail))) (by (try simp only [List.take_succ_cons, List.take_zero, List.take_nil, List.drop_succ_cons, List.drop_zero, List.drop_nil, List.cons_append, List.nil_append, List.append_nil, List.length_cons, List.length_nil, Nat.reduceAdd, Nat.zero_add, Nat.add_zero]); rfl) (by simp) (by simp [Value.oneCell']) (by kernel_rfl) ?_; clear M; (try clear wc); intro wc M) | (refine m_al M rfl rfl ?_; clear M; (try clear wc); intro g wc M) | (refine m_bx M rfl rfl (by first | exact (rfl : _ = Value.agg _) | exact (rfl : _ = Value.int _ _) | exact (rfl : _ = Value.bool _) | exact (rfl : _ = Value.slice _ _ _) | exact (rfl : _ = Value.pointer _) | exact (rfl : _ = Value.map _) | exact (rfl : _ = Value.func _ _ _) | exact (rfl : _ = Value.string _)) (by rfl) ?_; clear M; (try clear wc); intro g wc M) | (refine lo_row (M.old HG.out.g HG.out.ng) rfl rfl rfl (by (try simp only [List.take_succ_cons, List.take_zero, List.take_nil, List.drop_succ_cons, List.drop_zero, List.drop_nil, List.cons_append, List.nil_append, List.append_nil, List.length_cons, List.length_nil, Nat.reduceAdd, Nat.zero_add, Nat.add_zero]); rfl) (by rfl) ?_) | (refine lo_one (cs := [.map (some bm)]) (M.old HG.out.x HG.out.nx) rfl rfl rfl (by rfl) ?_) | (go_at_call 106; ((with_reducible refine (has_any _ _ _ _ _).mono ?_); (rw [HH.out]); rintro e wc ⟨rfl, hb⟩; replace M := M.call hb; clear hb)) | ((refine lk (ok := okG j s0 s1) Try.keyed Try.underlying131 Try.zeroBool M rfl rfl rfl rfl (by (repeat' (first | exact List.mem_cons_self | refine List.mem_cons_of_mem _ ?_))) HK.out ?_ ?_); (intro v hv; have hv := (HO.out v).1 hv; subst hv)) | (go_at_call 78; ((with_reducible refine (HS.out _ (HG.out.kept M.grown (M.at (q := (bm, memG j s0 s1)) (by (repeat' (first | exact List.mem_cons_self | refine List.mem_cons_of_mem _ ?_)))))).mono ?_); rintro e wc ⟨rfl, hgr, hm⟩; skip; replace M := M.callW (by (repeat (first | exact Upd.head | apply Upd.tail))) hgr hm; clear hgr hm)) | (refine mu (ok := okG j s0 s1) Try.keyed Try.underlying131 M rfl rfl rfl rfl rfl (by (repeat (first | exact Upd.head | apply Upd.tail))) HK.out ((HO.out _).2 (by rw [HV.out]; rfl)) ?_; clear M; (try clear wc); intro wc M))
    · go_ret
      exact ⟨rfl, M.grown, (M.at (q := (bm, memG j s0 s1)) (by (repeat' (first | exact List.mem_cons_self | refine List.mem_cons_of_mem _ ?_))))⟩
    · go_ret
      rw [HV.out]
      exact ⟨rfl, M.grown, (M.at (q := (bm, memG j s0 s1)) (by (repeat' (first | exact List.mem_cons_self | refine List.mem_cons_of_mem _ ?_))))⟩

theorem stops_any (j : Jb) (A : Option Addr) (c : Nat) (s0 s1 : Int) (bg bx bm : Nat) (hj : j.good) : ∀ n, StopsC j A c s0 s1 bg bx bm n
  | 0 => fun p0 p1 t r w hb hg => stops_of j A c s0 s1 bg bx bm 0 p0 p1 t r w hb hg fun w' hg' => stroke_0 j A c s0 s1 bg bx bm p0 p1 t r w' hg'
  | n + 1 => fun p0 p1 t r w hb hg => stops_of j A c s0 s1 bg bx bm (n + 1) p0 p1 t r w hb hg fun w' hg' => stroke_s j A c s0 s1 bg bx bm n hj (stops_any j A c s0 s1 bg bx bm hj n) p0 p1 t r w' hb hg'
theorem stopsC (j : Jb) (A : Option Addr) (c : Nat) (s0 s1 : Int) (bg bx bm : Nat) (hj : j.good) (n : Nat) (p0 p1 t r : Int) (w : World) (hb : Bnd n p0 p1 t r) (hg : Gm j A c s0 s1 bg bx bm w) :
    Calls Try.prog 105 #[kn5 p0 p1 t r n, .pointer (some ⟨bg, 0, none⟩), .pointer (some ⟨bx, 0, none⟩)] w (GPost j s0 s1 bm (.bool (stopsP j s0 s1 n p0 p1 t r)) w) := stops_any j A c s0 s1 bg bx bm hj n p0 p1 t r w hb hg
theorem strokeC (j : Jb) (A : Option Addr) (c : Nat) (s0 s1 : Int) (bg bx bm : Nat) (hj : j.good) (n : Nat) (p0 p1 t r : Int) (w : World) (hb : Bnd n p0 p1 t r) (hg : Gm j A c s0 s1 bg bx bm w) :
    Calls Try.prog 78 #[.agg (gmA j A c s0 s1 bg bx).toArray, kn5 p0 p1 t r n] w (GPost j s0 s1 bm (.int .i64 (strokeP j s0 s1 n p0 p1 t r)) w) := by
  cases n with
  | zero => exact stroke_0 j A c s0 s1 bg bx bm p0 p1 t r w hg
  | succ n => exact stroke_s j A c s0 s1 bg bx bm n hj (stops_any j A c s0 s1 bg bx bm hj n) p0 p1 t r w hb hg
theorem readsC (j : Jb) (A : Option Addr) (c : Nat) (s0 s1 : Int) (bg bx bm : Nat) (hj : j.good) (n : Nat) (p0 p1 t r : Int) (w : World) (hb : Bnd n p0 p1 t r) (hg : Gm j A c s0 s1 bg bx bm w) :
    Calls Try.prog 75 #[.agg (gmA j A c s0 s1 bg bx).toArray, kn5 p0 p1 t r n] w (GPost j s0 s1 bm (.bool (readsP j s0 s1 n p0 p1 t r)) w) := reads_any j A c s0 s1 bg bx bm n hj (stops_any j A c s0 s1 bg bx bm hj n) p0 p1 t r w hb hg

end Go.Proofs.Ythlpceoajhcliaa

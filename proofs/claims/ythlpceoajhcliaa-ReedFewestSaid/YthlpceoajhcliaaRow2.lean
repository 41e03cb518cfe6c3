/-
  Arguments that came in: numbers, ranges, jobs.
-/
import Derived.Test.YthlpceoajhcliaaRow
import Derived.Test.YthlpceoajhcliaaReedA
import Derived.Deep.Slices
namespace Go.Proofs.Ythlpceoajhcliaa
set_option linter.unusedSimpArgs false
set_option linter.unusedVariables false
open Go.ChangeShapes Go.WideShapes Go.ChangeAt Go.RowKit

theorem cInt : Try.prog.cellsOf 3 = 1 := by kernel_rfl
theorem cRange : Try.prog.cellsOf 23 = 2 := by kernel_rfl
theorem cTongue : Try.prog.cellsOf 25 = 6 := by kernel_rfl
theorem cFile : Try.prog.cellsOf 27 = 9 := by kernel_rfl
theorem cRanges : Try.prog.cellsOf 28 = 1 := by kernel_rfl
theorem cJob : Try.prog.cellsOf 30 = 18 := by kernel_rfl
section
variable {H : Type} {enc : TypeId × Value → H} {P : Program} {W : World} {base : Nat} {sp : Nat → Bool} {hd : Bool}
theorem fieldOf {t : TypeId} {fs : Array Field} {fuel : Nat} {cs : List Value} {x : DataW H × List MemPlace} (ht : P.underlying t = some (.struct fs)) (h : DataW.trod enc P W base sp hd fuel t cs = some x) (i : Nat) (f : Field) (hf : fs[i]? = some f) :
    ∃ n y, DataW.trod enc P W base sp hd n f.type ((cs.drop f.offset).take (P.cellsOf f.type)) = some y := by
  obtain ⟨xs, n, _, _, _, hlen, hx⟩ := DataW.trod_struct ht h
  have hi : i < fs.size := (Array.getElem?_eq_some_iff.1 hf).1
  refine ⟨n, xs[i]'(by omega), ?_⟩
  rw [hx i f hf, List.getElem?_eq_getElem (by omega)]
theorem cell_int {t : TypeId} {k : IntKind} {fuel : Nat} {cs : List Value} {x : DataW H × List MemPlace} (ht : P.underlying t = some (.int k)) (h : DataW.trod enc P W base sp hd fuel t cs = some x) : ∃ n, cs = [.int k n] := by
  obtain ⟨n, h1, _⟩ := DataW.trod_int ht h
  exact ⟨n, h1⟩
theorem cells_range {fuel : Nat} {cs : List Value} {x : DataW H × List MemPlace} (h : DataW.trod enc Try.prog W base sp hd fuel 23 cs = some x) : ∃ a b, cs = [.int .i64 a, .int .i64 b] := by
  have hl : cs.length = 2 := by
    obtain ⟨_, _, _, _, hl, _⟩ := DataW.trod_struct Try.underlying23 h
    rw [hl, cRange]
  match cs, hl with
  | [c0, c1], _ =>
    obtain ⟨_, _, h0⟩ := fieldOf Try.underlying23 h 0 _ rfl
    obtain ⟨_, _, h1⟩ := fieldOf Try.underlying23 h 1 _ rfl
    obtain ⟨a, ha⟩ := cell_int Try.underlying3 h0
    obtain ⟨b, hb⟩ := cell_int Try.underlying3 h1
    simp [cInt] at ha hb
    exact ⟨a, b, by rw [ha, hb]⟩
theorem cells_tongue {fuel : Nat} {cs : List Value} {x : DataW H × List MemPlace} (h : DataW.trod enc Try.prog W base sp hd fuel 25 cs = some x) : ∃ a b c d e f, cs = [.int .i64 a, .int .i64 b, .int .i64 c, .int .i64 d, .int .i64 e, .int .i64 f] := by
  have hl : cs.length = 6 := by
    obtain ⟨_, _, _, _, hl, _⟩ := DataW.trod_struct Try.underlying25 h
    rw [hl, cTongue]
  match cs, hl with
  | [c0, c1, c2, c3, c4, c5], _ =>
    obtain ⟨_, _, h0⟩ := fieldOf Try.underlying25 h 0 _ rfl
    obtain ⟨_, _, h1⟩ := fieldOf Try.underlying25 h 1 _ rfl
    obtain ⟨_, _, h2⟩ := fieldOf Try.underlying25 h 2 _ rfl
    obtain ⟨a, b, e0⟩ := cells_range h0
    obtain ⟨c, d, e1⟩ := cells_range h1
    obtain ⟨e, f, e2⟩ := cells_range h2
    simp [cRange] at e0 e1 e2
    exact ⟨a, b, c, d, e, f, by rw [e0.1, e0.2, e1.1, e1.2, e2.1, e2.2]⟩
theorem cells_file {fuel : Nat} {cs : List Value} {x : DataW H × List MemPlace} (h : DataW.trod enc Try.prog W base sp hd fuel 27 cs = some x) : ∃ a b c d e f g i k, cs = [.int .i64 a, .int .i64 b, .int .i64 c, .int .i64 d, .int .i64 e, .int .i64 f, .int .i64 g, .int .i64 i, .int .i64 k] := by
  have hl : cs.length = 9 := by
    obtain ⟨_, _, _, _, hl, _⟩ := DataW.trod_struct Try.underlying27 h
    rw [hl, cFile]
  match cs, hl with
  | [c0, c1, c2, c3, c4, c5, c6, c7, c8], _ =>
    obtain ⟨_, _, h0⟩ := fieldOf Try.underlying27 h 0 _ rfl
    obtain ⟨_, _, h1⟩ := fieldOf Try.underlying27 h 1 _ rfl
    obtain ⟨_, _, h2⟩ := fieldOf Try.underlying27 h 2 _ rfl
    obtain ⟨_, _, h3⟩ := fieldOf Try.underlying27 h 3 _ rfl
    obtain ⟨_, _, h4⟩ := fieldOf Try.underlying27 h 4 _ rfl
    obtain ⟨a, b, e0⟩ := cells_range h0
    obtain ⟨c, d, e1⟩ := cells_range h1
    obtain ⟨e, f, e2⟩ := cells_range h2
    obtain ⟨g, i, e3⟩ := cells_range h3
    obtain ⟨k, e4⟩ := cell_int Try.underlying3 h4
    simp [cRange, cInt] at e0 e1 e2 e3 e4
    exact ⟨a, b, c, d, e, f, g, i, k, by rw [e0.1, e0.2, e1.1, e1.2, e2.1, e2.2, e3.1, e3.2, e4]⟩
/-- A slice of ranges that came in. -/
theorem cells_ranges {fuel : Nat} {cs : List Value} {x : DataW H × List MemPlace} (h : DataW.trod enc Try.prog W 0 (fun _ => true) true fuel 28 cs = some x) (hlt : ∀ y ∈ x.2, y.block < W.heap.size) :
    ∃ A c l, cs = [.slice A (l : List (Int × Int)).length c] ∧ Rd W W.heap.size 2 A l.length (rc l) ∧ l.length ≤ 9223372036854775807 := by
  rcases Go.Deep.open_slice Try.underlying28 h with ⟨rfl, _⟩ | ⟨a, len, cap, m, n, D, Pl, rfl, _, hl, hm, hmm, rfl, hx⟩
  · exact ⟨none, 0, [], rfl, Rd.empty, by simp⟩
  simp only [if_true] at hmm
  subst hmm
  rw [cRange] at hx hlt
  obtain ⟨V, hV⟩ := Go.Deep.choose_lt (α := Int × Int) (p := fun i v => W.cells? 0 (a.add (i * 2)) 2 = some [.int .i64 v.1, .int .i64 v.2]) (fun i hi => by
    obtain ⟨cs', h1, h2⟩ := hx i hi
    obtain ⟨x, y, rfl⟩ := cells_range h2
    exact ⟨(x, y), h1⟩)
  have hlen : ((List.range len).map V).length = len := by simp
  refine ⟨some a, m, (List.range len).map V, by rw [hlen], ?_, by rw [hlen]; unfold maxLen at hm; omega⟩
  rw [hlen]
  refine ⟨by rw [rc_length, hlen], fun hn => ?_⟩
  obtain ⟨b, off, spot⟩ := a
  have hc : ∀ i, i < m → W.cell? ((⟨b, off, spot⟩ : Addr).add (i * 2)) = some (.int .i64 (V i).1) := fun i hi => by
    obtain ⟨_, _, h3⟩ := World.cells?_some (hV i hi)
    have q0 := h3 0 (by omega)
    simpa [Addr.add] using q0
  have hspot : spot = none := by simpa [Addr.add] using World.cell?_spot (hc 0 (by omega))
  subst hspot
  have hc2 : ∀ i, i < m → W.cell? ⟨b, off + i * 2, none⟩ = some (.int .i64 (V i).1) ∧ W.cell? ⟨b, off + i * 2 + 1, none⟩ = some (.int .i64 (V i).2) := fun i hi => by
    have h0 := hV i hi
    rw [Addr.add_mid] at h0
    obtain ⟨_, _, h3⟩ := World.cells?_some h0
    have q0 := h3 0 (by omega)
    have q1 := h3 1 (by omega)
    simp at q0 q1
    exact ⟨q0, q1⟩
  refine ⟨b, off, rfl, hlt (.cell b off) (List.mem_append_left _ (MemPlace.mem_row.2 ⟨0, by omega, by simp⟩)), fun j u hu => ?_⟩
  have hj : j < len * 2 := by
    have := (List.getElem?_eq_some_iff.1 hu).1
    rw [rc_length, hlen] at this
    exact this
  have hk : ((List.range len).map V)[j / 2]? = some (V (j / 2)) := by rw [List.getElem?_map, List.getElem?_range (by omega)]; rfl
  obtain ⟨g0, g1⟩ := rc_get _ _ _ hk
  obtain ⟨c0, c1⟩ := hc2 (j / 2) (by omega)
  rcases Nat.mod_two_eq_zero_or_one j with e | e
  · have e2 : j = j / 2 * 2 := by omega
    rw [e2] at hu ⊢
    rw [g0] at hu
    rw [← hu]
    exact c0
  · have e2 : j = j / 2 * 2 + 1 := by omega
    rw [e2] at hu ⊢
    rw [g1] at hu
    rw [← hu]
    rw [← Nat.add_assoc]
    exact c1
set_option maxRecDepth 100000 in
theorem cells_job {fuel : Nat} {cs : List Value} {x : DataW H × List MemPlace} (h : DataW.trod enc Try.prog W 0 (fun _ => true) true fuel 30 cs = some x) (hlt : ∀ y ∈ x.2, y.block < W.heap.size) :
    ∃ (j : Jb) (A : Option Addr) (c : Nat), cs.toArray = #[.int .i64 j.p0, .int .i64 j.p1, .int .i64 j.t0, .int .i64 j.t1, .int .i64 j.r0, .int .i64 j.r1, .int .i64 j.u0, .int .i64 j.u1, .int .i64 j.d0, .int .i64 j.d1, .int .i64 j.a0, .int .i64 j.a1, .int .i64 j.b0, .int .i64 j.b1, .int .i64 j.le, .slice A j.sh.length c, .int .i64 j.wi, .int .i64 j.me] ∧ Rd W W.heap.size 2 A j.sh.length (rc j.sh) ∧ j.sh.length ≤ 9223372036854775807 := by
  have h' := h
  obtain ⟨xs, n, _, rfl, hl, hlen, hx⟩ := DataW.trod_struct Try.underlying30 h
  rw [cJob] at hl
  match cs, hl with
  | [c0, c1, c2, c3, c4, c5, c6, c7, c8, c9, c10, c11, c12, c13, c14, c15, c16, c17], _ =>
    obtain ⟨_, _, h0⟩ := fieldOf Try.underlying30 h' 0 _ rfl
    obtain ⟨_, _, h1⟩ := fieldOf Try.underlying30 h' 1 _ rfl
    obtain ⟨_, _, h3⟩ := fieldOf Try.underlying30 h' 3 _ rfl
    obtain ⟨_, _, h4⟩ := fieldOf Try.underlying30 h' 4 _ rfl
    have h2 := hx 2 _ rfl
    rw [List.getElem?_eq_getElem (by simp at hlen; omega)] at h2
    obtain ⟨A, c, l, e2, hr, hn⟩ := cells_ranges h2 (fun y hy => hlt y (List.mem_flatMap.2 ⟨_, List.getElem_mem _, hy⟩))
    obtain ⟨p0, p1, t0, t1, r0, r1, e0⟩ := cells_tongue h0
    obtain ⟨u0, u1, d0, d1, a0, a1, b0, b1, le, e1⟩ := cells_file h1
    obtain ⟨wi, e3⟩ := cell_int Try.underlying3 h3
    obtain ⟨me, e4⟩ := cell_int Try.underlying3 h4
    simp [cTongue, cFile, cRanges, cInt] at e0 e1 e2 e3 e4
    obtain ⟨rfl, rfl, rfl, rfl, rfl, rfl⟩ := e0
    obtain ⟨rfl, rfl, rfl, rfl, rfl, rfl, rfl, rfl, rfl⟩ := e1
    subst e2
    subst e3
    subst e4
    exact ⟨⟨p0, p1, t0, t1, r0, r1, u0, u1, d0, d1, a0, a1, b0, b1, le, l, wi, me⟩, A, c, rfl, hr, hn⟩
set_option maxRecDepth 100000 in
/-- A job that came in. -/
theorem read_job {v : Value} {d : DataW H} {ps : List MemPlace} {b0 : Nat} (hv : Value.okWide Try.prog W .any b0 30 v) (h : DataW.Trod enc Try.prog W 0 (fun _ => true) true 30 v d ps) (hlt : ∀ x ∈ ps, x.block < W.heap.size) :
    ∃ (j : Jb) (A : Option Addr) (c : Nat), v = jobV j A c ∧ Rd W W.heap.size 2 A j.sh.length (rc j.sh) ∧ j.sh.length ≤ 9223372036854775807 := by
  obtain ⟨cs, rfl, _⟩ := okWide_struct Try.underlying30 hv
  obtain ⟨fuel, hf⟩ := h
  obtain ⟨j, A, c, e, hr, hn⟩ := cells_job hf hlt
  refine ⟨j, A, c, ?_, hr, hn⟩
  have e' : cs.toList.toArray = _ := e
  rw [Array.toArray_toList] at e'
  rw [e']
set_option maxRecDepth 100000 in
theorem read_range {v : Value} {d : DataW H} {ps : List MemPlace} {b0 : Nat} (hv : Value.okWide Try.prog W .any b0 23 v) (h : DataW.Trod enc Try.prog W 0 (fun _ => true) true 23 v d ps) : ∃ a b, v = R2 a b := by
  obtain ⟨cs, rfl, _⟩ := okWide_struct Try.underlying23 hv
  obtain ⟨fuel, hf⟩ := h
  obtain ⟨a, b, e⟩ := cells_range hf
  refine ⟨a, b, ?_⟩
  have e' : cs.toList = _ := e
  have e2 := congrArg List.toArray e'
  rw [Array.toArray_toList] at e2
  rw [e2]
set_option maxRecDepth 100000 in
theorem read_int {v : Value} {d : DataW H} {ps : List MemPlace} {b0 : Nat} (hv : Value.okWide Try.prog W .any b0 3 v) (h : DataW.Trod enc Try.prog W 0 (fun _ => true) true 3 v d ps) : ∃ a, v = .int .i64 a ∧ -9223372036854775808 ≤ a ∧ a ≤ 9223372036854775807 := by
  obtain ⟨n, rfl, _, _, hw⟩ := open_int Try.underlying3 hv h
  refine ⟨n, rfl, ?_⟩
  simp [Lit.wf, IntKind.min, IntKind.max, IntKind.bits, IntKind.signed] at hw
  omega
end
end Go.Proofs.Ythlpceoajhcliaa

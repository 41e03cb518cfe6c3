/-
  Walks of functions, and plain laws (texts put together). No condition.
-/
import Derived.Test.YtdnbljihhimijaaGreatMVoicePairs1
import Derived.Test.YtdnbljihhimijaaGreatMVoicePairs2
set_option maxRecDepth 100000
set_option maxHeartbeats 1000000
set_option linter.unusedSimpArgs false
set_option linter.unusedVariables false
namespace Go.Proofs.YtdnbljihhimijaaGreat
open Go.RowKit
section
open Go.ChangeShapes Go.WideShapes Go.ChangeAt Go.RowKit
theorem cLaw : Tryz.prog.cellsOf 23 = 4 := by kernel_rfl
theorem cSound : Tryz.prog.cellsOf 32 = 4 := by kernel_rfl
theorem cSounds : Tryz.prog.cellsOf 24 = 1 := by kernel_rfl
theorem cBox : Tryz.prog.cellsOf 30 = 21 := by kernel_rfl
section
variable {H : Type} {enc : TypeId × Value → H} {P : Program} {W : World} {base : Nat} {sp : Nat → Bool} {hd : Bool}
theorem cells_sound {fuel : Nat} {cs : List Value} {x : DataW H × List MemPlace} (h : DataW.trod enc Tryz.prog W base sp hd fuel 32 cs = some x) : ∃ s : Snd, cs = sndC s := by
 have hl : cs.length = 4 := by
  obtain ⟨_, _, _, _, hl, _⟩ := DataW.trod_struct Tryz.underlying32 h
  rw [hl, cSound]
 match cs, hl with
 | [c0, c1, c2, c3], _ =>
  obtain ⟨_, _, h0⟩ := fieldOf Tryz.underlying32 h 0 _ rfl
  obtain ⟨_, _, h1⟩ := fieldOf Tryz.underlying32 h 1 _ rfl
  obtain ⟨a, b, e0⟩ := cells_range h0
  obtain ⟨c, d, e1⟩ := cells_range h1
  simp [cRange] at e0 e1
  exact ⟨⟨a, b, c, d⟩, by rw [e0.1, e0.2, e1.1, e1.2]; rfl⟩
theorem cells_law {fuel : Nat} {cs : List Value} {x : DataW H × List MemPlace} (h : DataW.trod enc Tryz.prog W base sp hd fuel 23 cs = some x) : ∃ l : Lw, cs = [.int .i64 l.first, .int .i64 l.step, .int .i64 l.span, .int .i64 l.press] := by
 have hl : cs.length = 4 := by
  obtain ⟨_, _, _, _, hl, _⟩ := DataW.trod_struct Tryz.underlying23 h
  rw [hl, cLaw]
 match cs, hl with
 | [c0, c1, c2, c3], _ =>
  obtain ⟨_, _, h0⟩ := fieldOf Tryz.underlying23 h 0 _ rfl
  obtain ⟨_, _, h1⟩ := fieldOf Tryz.underlying23 h 1 _ rfl
  obtain ⟨_, _, h2⟩ := fieldOf Tryz.underlying23 h 2 _ rfl
  obtain ⟨_, _, h3⟩ := fieldOf Tryz.underlying23 h 3 _ rfl
  obtain ⟨a, e0⟩ := cell_int Tryz.underlying3 h0
  obtain ⟨b, e1⟩ := cell_int Tryz.underlying3 h1
  obtain ⟨c, e2⟩ := cell_int Tryz.underlying3 h2
  obtain ⟨d, e3⟩ := cell_int Tryz.underlying3 h3
  simp [cInt] at e0 e1 e2 e3
  exact ⟨⟨a, b, c, d⟩, by rw [e0, e1, e2, e3]⟩
theorem cells_listV {α : Type} [Inhabited α] (en : α → List Value) (z : Nat) (hz : ∀ x, (en x).length = z) (h0 : 0 < z) (get : ∀ (l : List α) (k : Nat) {x : α}, l[k]? = some x → ∀ (i : Nat) (v : Value), (en x)[i]? = some v → (l.flatMap en)[k * z + i]? = some v) {ts te : TypeId} (hts : Tryz.prog.underlying ts = some (.slice te)) (hc : Tryz.prog.cellsOf te = z)
  (hel : ∀ (fuel : Nat) (cs : List Value) (x : DataW H × List MemPlace), DataW.trod enc Tryz.prog W 0 (fun _ => true) true fuel te cs = some x → ∃ p : α, cs = en p) {fuel : Nat} {cs : List Value} {x : DataW H × List MemPlace} (h : DataW.trod enc Tryz.prog W 0 (fun _ => true) true fuel ts cs = some x) (hlt : ∀ y ∈ x.2, y.block < W.heap.size) :
  ∃ (A : Option Addr) (c : Nat) (l : List α), cs = [.slice A l.length c] ∧ Rd W W.heap.size z A l.length (l.flatMap en) ∧ l.length ≤ 9223372036854775807 ∧ l.length ≤ c := by
 rcases Go.Deep.open_slice hts h with ⟨rfl, _⟩ | ⟨a, len, cap, m, n, D, Pl, rfl, _, hl, hm, hmm, rfl, hx⟩
 ·exact ⟨none, 0, [], rfl, ⟨by simp, fun h => absurd h (by simp)⟩, by simp, Nat.le_refl _⟩
 simp only [if_true] at hmm
 subst hmm
 rw [hc] at hx hlt
 obtain ⟨V, hV⟩ := Go.Deep.choose_lt (α := α) (p := fun i v => W.cells? 0 (a.add (i * z)) z = some (en v)) (fun i hi => by
  obtain ⟨cs', h1, h2⟩ := hx i hi
  obtain ⟨v, rfl⟩ := hel _ _ _ h2
  exact ⟨v, h1⟩)
 have hlen : ((List.range len).map V).length = len := by simp
 refine ⟨some a, m, (List.range len).map V, by rw [hlen], ?_, by rw [hlen]; unfold maxLen at hm; omega, by rw [hlen]; exact hl⟩
 rw [hlen]
 have hfl : ∀ l : List α, (l.flatMap en).length = l.length * z := fun l => by
  induction l with
  | nil => simp
  | cons y l ih => rw [List.flatMap_cons, List.length_append, ih, hz, List.length_cons, Nat.add_mul]; omega
 refine ⟨by rw [hfl, hlen], fun hn => ?_⟩
 obtain ⟨b, off, spot⟩ := a
 have hcell : ∀ k, k < m → ∀ i, (hi : i < z) → W.cell? (((⟨b, off, spot⟩ : Addr).add (k * z)).add i) = some ((en (V k))[i]'(by rw [hz]; exact hi)) := fun k hk i hi => by
  obtain ⟨_, _, h3⟩ := World.cells?_some (hV k hk)
  have q0 := h3 i (by omega)
  rw [q0, List.getElem?_eq_getElem]
 have hspot : spot = none := by simpa [Addr.add] using World.cell?_spot (hcell 0 (by omega) 0 h0)
 subst hspot
 refine ⟨b, off, rfl, hlt (.cell b off) (List.mem_append_left _ (MemPlace.mem_row.2 ⟨0, Nat.mul_pos (by omega) h0, by simp⟩)), fun j u hu => ?_⟩
 have hj : j < len * z := by
  have := (List.getElem?_eq_some_iff.1 hu).1
  rwa [hfl, hlen] at this
 have hk : j / z < len := Nat.div_lt_of_lt_mul (by rw [Nat.mul_comm]; exact hj)
 have hi : j % z < z := Nat.mod_lt _ h0
 have e : j = j / z * z + j % z := by rw [Nat.mul_comm]; exact (Nat.div_add_mod j z).symm
 have hV0 : ((List.range len).map V)[j / z]? = some (V (j / z)) := by rw [List.getElem?_map, List.getElem?_range hk]; rfl
 have g0 := get _ _ hV0 (j % z) _ (List.getElem?_eq_getElem (by rw [hz]; exact hi))
 rw [← e, hu] at g0
 have g1 := Option.some.inj g0
 have c0 := hcell (j / z) (by omega) (j % z) hi
 rw [Addr.add_mid, Addr.add_mid, Nat.add_assoc, ← e] at c0
 rw [c0, g1]
theorem cells_sounds {fuel : Nat} {cs : List Value} {x : DataW H × List MemPlace} (h : DataW.trod enc Tryz.prog W 0 (fun _ => true) true fuel 24 cs = some x) (hlt : ∀ y ∈ x.2, y.block < W.heap.size) :
  ∃ (A : Option Addr) (c : Nat) (l : List Snd), cs = [.slice A l.length c] ∧ Rd W W.heap.size 4 A l.length (sc l) ∧ l.length ≤ 9223372036854775807 ∧ l.length ≤ c :=
 letI : Inhabited Snd := ⟨⟨0, 0, 0, 0⟩⟩
 cells_listV sndC 4 (fun _ => rfl) (by omega) sc_get Tryz.underlying24 cSound (fun _ _ _ h9 => cells_sound h9) h hlt
theorem cells_box {fuel : Nat} {cs : List Value} {x : DataW H × List MemPlace} (h : DataW.trod enc Tryz.prog W 0 (fun _ => true) true fuel 30 cs = some x) (hlt : ∀ y ∈ x.2, y.block < W.heap.size) :
  ∃ (b : Bx) (A : Option Addr) (c : Nat) (B : Option Addr) (d : Nat), Value.agg cs.toArray = bxV b A c B d ∧ Rd W W.heap.size 4 A b.lows.length (sc b.lows) ∧ Rd W W.heap.size 4 B b.highs.length (sc b.highs) ∧ b.lows.length ≤ 9223372036854775807 ∧ b.highs.length ≤ 9223372036854775807 := by
 have h' := h
 obtain ⟨xs, n, _, rfl, hl, hlen, hx⟩ := DataW.trod_struct Tryz.underlying30 h
 rw [cBox] at hl
 match cs, hl with
 | [c0, c1, c2, c3, c4, c5, c6, c7, c8, c9, c10, c11, c12, c13, c14, c15, c16, c17, c18, c19, c20], _ =>
  obtain ⟨_, _, h0⟩ := fieldOf Tryz.underlying30 h' 0 _ rfl
  obtain ⟨_, _, h1⟩ := fieldOf Tryz.underlying30 h' 1 _ rfl
  obtain ⟨_, _, h4⟩ := fieldOf Tryz.underlying30 h' 4 _ rfl
  obtain ⟨_, _, h5⟩ := fieldOf Tryz.underlying30 h' 5 _ rfl
  obtain ⟨_, _, h6⟩ := fieldOf Tryz.underlying30 h' 6 _ rfl
  obtain ⟨_, _, h7⟩ := fieldOf Tryz.underlying30 h' 7 _ rfl
  have h2 := hx 2 _ rfl
  rw [List.getElem?_eq_getElem (by simp at hlen; omega)] at h2
  have h3 := hx 3 _ rfl
  rw [List.getElem?_eq_getElem (by simp at hlen; omega)] at h3
  obtain ⟨A, c, l, e2, hr, hn, -⟩ := cells_sounds h2 (fun y hy => hlt y (List.mem_flatMap.2 ⟨_, List.getElem_mem _, hy⟩))
  obtain ⟨B, d, r, e3, hs, hm, -⟩ := cells_sounds h3 (fun y hy => hlt y (List.mem_flatMap.2 ⟨_, List.getElem_mem _, hy⟩))
  obtain ⟨la, e0⟩ := cells_law h0
  obtain ⟨nt, e1⟩ := cell_int Tryz.underlying3 h1
  obtain ⟨t0, t1, e4⟩ := cells_range h4
  obtain ⟨r0, r1, e5⟩ := cells_range h5
  obtain ⟨u0, u1, d0, d1, a0, a1, b0, b1, le, e6⟩ := cells_file h6
  obtain ⟨me, e7⟩ := cell_int Tryz.underlying3 h7
  simp [cLaw, cInt, cSounds, cRange, cFile] at e0 e1 e2 e3 e4 e5 e6 e7
  obtain ⟨rfl, rfl, rfl, rfl⟩ := e0
  subst e1
  subst e2
  subst e3
  obtain ⟨rfl, rfl⟩ := e4
  obtain ⟨rfl, rfl⟩ := e5
  obtain ⟨rfl, rfl, rfl, rfl, rfl, rfl, rfl, rfl, rfl⟩ := e6
  subst e7
  exact ⟨⟨la.first, la.step, la.span, la.press, nt, l, r, t0, t1, r0, r1, u0, u1, d0, d1, a0, a1, b0, b1, le, me⟩, A, c, B, d, rfl, hr, hs, hn, hm⟩
theorem read_box {v : Value} {d : DataW H} {ps : List MemPlace} {b0 : Nat} (hv : Value.okWide Tryz.prog W .any b0 30 v) (h : DataW.Trod enc Tryz.prog W 0 (fun _ => true) true 30 v d ps) (hlt : ∀ x ∈ ps, x.block < W.heap.size) :
  ∃ (b : Bx) (A : Option Addr) (c : Nat) (B : Option Addr) (d : Nat), v = bxV b A c B d ∧ Rd W W.heap.size 4 A b.lows.length (sc b.lows) ∧ Rd W W.heap.size 4 B b.highs.length (sc b.highs) ∧ b.lows.length ≤ 9223372036854775807 ∧ b.highs.length ≤ 9223372036854775807 := by
 obtain ⟨cs, rfl, _⟩ := okWide_struct Tryz.underlying30 hv
 obtain ⟨fuel, hf⟩ := h
 obtain ⟨b, A, c, B, d, e, h1, h2, h3, h4⟩ := cells_box hf hlt
 refine ⟨b, A, c, B, d, ?_, h1, h2, h3, h4⟩
 rw [← e]
 show Value.agg cs = Value.agg cs.toList.toArray
 rw [Array.toArray_toList]
theorem read_sound {v : Value} {d : DataW H} {ps : List MemPlace} {b0 : Nat} (hv : Value.okWide Tryz.prog W .any b0 32 v) (h : DataW.Trod enc Tryz.prog W 0 (fun _ => true) true 32 v d ps) : ∃ s : Snd, v = .agg #[.int .i64 s.t0, .int .i64 s.t1, .int .i64 s.s0, .int .i64 s.s1] := by
 obtain ⟨cs, rfl, _⟩ := okWide_struct Tryz.underlying32 hv
 obtain ⟨fuel, hf⟩ := h
 obtain ⟨s, e⟩ := cells_sound hf
 refine ⟨s, ?_⟩
 have e' : cs.toList = _ := e
 have e2 := congrArg List.toArray e'
 rw [Array.toArray_toList] at e2
 rw [e2]
 rfl
theorem read_law {v : Value} {d : DataW H} {ps : List MemPlace} {b0 : Nat} (hv : Value.okWide Tryz.prog W .any b0 23 v) (h : DataW.Trod enc Tryz.prog W 0 (fun _ => true) true 23 v d ps) : ∃ l : Lw, v = .agg #[.int .i64 l.first, .int .i64 l.step, .int .i64 l.span, .int .i64 l.press] := by
 obtain ⟨cs, rfl, _⟩ := okWide_struct Tryz.underlying23 hv
 obtain ⟨fuel, hf⟩ := h
 obtain ⟨l, e⟩ := cells_law hf
 refine ⟨l, ?_⟩
 have e' : cs.toList = _ := e
 have e2 := congrArg List.toArray e'
 rw [Array.toArray_toList] at e2
 rw [e2]
end
end
open Go.RowKit
def Sm (e size : Nat) (A : Option Addr) (n c : Nat) (xs : List Value) (I : List (Nat × BA)) : Prop :=
 (n = 0 ∧ xs = [] ∧ c = 0 ∧ ∃ g, A = some ⟨g, 0, none⟩ ∧ I = [(g, .any fun o => o = .cells #[] e)]) ∨ ∃ g, A = some ⟨g, 0, none⟩ ∧ I = [(g, .row e size n xs c)]
theorem Tryz.append0i (A : Option Addr) (c g : Nat) (ty : TypeId) (w : World) : (Builtin.append_ #[33, 33] ty #[.slice (some ⟨g, 0, none⟩) 0 0, .slice A 0 c]).run Tryz.prog w = .ok (.slice (some ⟨g, 0, none⟩) 0 0) w := by
 cases A <;> kernel_rfl
theorem ow_appM {P : Program} {op : Oper} {a : Act} {K : Act → World → Prop} {Q : Exit → Act → World → Prop} {s x : Operand} {ty e size bytes b c d m nn t' : Nat} {A : Option Addr} {z : Value} {cs xs : List Value} {w0 w : World} {ex : Nat → Prop} {L0 I : List (Nat × BA)} {E : List (Nat × Value)} (L1 : List (Nat × BA))
   (hinfo : (P.info? e).map (fun i => (i.zero, i.size, i.bytes)) = some (some z, size, bytes)) (hS : Sm e size A m d xs I) (M : Mem w0 ex w L0) (hsp : L0 = L1 ++ I) (T : Tm a nn E)
   (ho : op.op = .call { callee := .builtin .append, args := #[s, x], argTypes := #[ty, ty] }) (hd : op.dst = some t') (hf : freshE E t' = true) (hnn : Nat.blt t' nn = true)
   (ht : P.underlying ty = some (.slice e)) (hzs : z.cells.size = size) (hsz : Nat.blt 0 size = true) (hby : Nat.ble bytes 1000 = true) (hm : m ≤ 1000000)
   (hs : a.eval s = .slice A m d) (hx : a.eval x = .slice (some ⟨b, 0, none⟩) 1 c) (hmem : (b, BA.cells cs) ∈ L1) (hl : cs.length = size) (h1 : cs.all (·.oneCell') = true)
   (h : ∀ g cap w' a', Mem w0 ex w' ((g, .row e size (m + 1) (xs ++ cs) cap) :: L1) → Tm a' nn ((t', .slice (some ⟨g, 0, none⟩) (m + 1) cap) :: E) → K a' w') : op.wp P a w K Q := by
 rcases hS with ⟨rfl, rfl, rfl, g, rfl, rfl⟩ | ⟨g, rfl, rfl⟩
 · subst hsp
   obtain ⟨i, hi, hz0, hz1, hz2⟩ := info_parts hinfo
   have hsz := Nat.le_of_ble_eq_true hsz
   have hby := Nat.le_of_ble_eq_true hby
   have hbb : (0 + 1) * bytes ≤ 140737488355328 := by omega
   have hB := M.get (List.mem_append_left [(g, BA.any fun o => o = .cells #[] e)] hmem)
   obtain ⟨o, hge, rfl⟩ := (M.blk (g, BA.any fun o => o = .cells #[] e) (List.mem_append_right _ Zz2)).2
   have hgl : g < w.heap.size := (Array.getElem?_eq_some_iff.1 hge).1
   refine wp_append_lies w s x ty ho g e i z size bytes ht hi hz0 hz1 hz2 hzs hsz (.slice (some ⟨g, 0, none⟩) 0 0) 0 [] hs ⟨by simp, .inr ⟨g, 0, #[], rfl, Nat.le_refl _, hge, by omega, by unfold maxLen; omega, by simp, by simp⟩⟩ ⟨b, 0, none⟩ 1 c cs hx (by omega) (fun j u hu => by rw [Addr.add_mid, hB.cell, Nat.zero_add]; simpa using hu) (fun u hu => (List.all_eq_true.1 h1) u hu) (by omega) (by unfold maxLen; omega) hbb (Nat.le_of_lt hgl) w.heap.size rfl ?_
   intro g' cap w' hown hgr hat hlt
   have hgr : w.grownBy w' (some g) := hgr
   simp only [Nat.zero_add, List.nil_append] at hown
   have e0 : a.put op.dst (.slice (some ⟨g', 0, none⟩) (0 + 1) cap) = a.put op.dst (.slice (some ⟨g', 0, none⟩) (0 + 1) cap) := rfl
   refine h g' cap w' _ ?_ (by rw [hd]; exact T.put hnn hf _)
   have Ms := Mem.swapI (I := L1) (L := [(g, BA.any fun o => o = .cells #[] e)]) M
   have hg0 : g < w'.heap.size := Nat.lt_of_lt_of_le hgl hgr.size
   rcases hat with h2 | h2
   · have h2 : some g = some g' := h2
     injection h2 with h2
     subst h2
     exact Ms.callW (L' := (g, .row e size (0 + 1) ([] ++ cs) cap) :: L1) .head hgr (own_rebase hown (by omega))
   · have M1 := Ms.callW (L' := (g, .any (fun _ => True)) :: L1) .head hgr ⟨w'.heap[g], Array.getElem?_eq_getElem hg0, trivial⟩
     exact M1.forget.add (by rw [h2]; exact M.size) (own_rebase hown (by omega)) (fun q hq e => by have := BA.lt (Ms.blk q (Zz1 hq)).2; omega)
 · exact ow_app L1 hinfo (.inr ⟨g, d, rfl, rfl⟩) M hsp T ho hd hf hnn ht hzs hsz hby hm hs hx hmem hl h1 h
theorem among_any (n lo hi : Int) (w : World)  :
   Calls Tryz.prog 124 #[.int .i64 n, .int .i64 lo, .int .i64 hi] w fun e w' => e = .returned (.bool (withinB n lo hi)) ∧ Below w.heap.size w w' := by
 refine Zpx noEx Tryz.func124 rfl 15 rfl [.int .i64 n, .int .i64 lo, .int .i64 hi] rfl rfl (Mem.init w _) ?_
 intro ac wc T M
 refine Zsr ?_
 refine lq T (Zra rfl evc) ?_; clear T ac; intro ac T
 replace T := T.pick [1, 2, 3] rfl
 refine Zln ?_
 refine cut_seq (fun ac wc => Tm ac 15 [(6, .bool ((decide (lo ≤ n)) && (decide (n ≤ hi))))] ∧ Mem w noEx wc []) ?_ ?_
 ·refine wp_region_lit ?_
  refine Zg4 T (Zq (Zrm rfl (T.e 0 rfl))) rfl (Zm 2 rfl rfl) rfl (fun _ T => Zq (rn_geq rfl (T.e 1 rfl) (T.e 0 rfl))) rfl (Zm 0 rfl rfl) rfl ?_; clear T ac; intro ac T
  rcases Bool.eq_false_or_eq_true (decide (lo ≤ n)) with h1 | h1
  ·replace h1 := of_decide_eq_true h1
   refine Zg5 T (Zw (Zwy rfl rfl (T.e 0 rfl) (Zdt h1)) (Zrm rfl (T.e 4 rfl))) rfl (fun _ T => Zw (Zwy rfl rfl (T.e 1 rfl) (Zdt h1)) (Zrm rfl (T.e 7 rfl))) rfl (fun _ T => Zw (Zwy rfl rfl (T.e 2 rfl) (Zdt h1)) (rn_leq rfl (T.e 1 rfl) (T.e 0 rfl))) rfl (fun _ T => Zq (Zr1 rfl (T.e 3 rfl) (Zdt h1) (T.e 0 rfl))) rfl (Za 0 rfl rfl) rfl ?_; clear T ac; intro ac T
   refine wpList_nil ?_
   replace T := T.pick [0] rfl
   exact ⟨(T.pick (E' := [(6, .bool (decide (n ≤ hi)))]) [0] rfl).as (by (try rw [show (decide (lo ≤ n)) = true from (Zdt h1)]); (try rfl)), M.mask [] rfl⟩
  replace h1 := of_decide_eq_false h1
  refine Zg5 T (Zp (Zwn rfl rfl (T.e 0 rfl) (Zdf h1))) rfl (fun _ T => Zp (Zwn rfl rfl (T.e 1 rfl) (Zdf h1))) rfl (fun _ T => Zp (Zwn rfl rfl (T.e 2 rfl) (Zdf h1))) rfl (fun _ T => Zq (Zr0 rfl (T.e 3 rfl) (Zdf h1) evc)) rfl (Za 0 rfl rfl) rfl ?_; clear T ac; intro ac T
  refine wpList_nil ?_
  replace T := T.pick [0] rfl
  exact ⟨(T.pick (E' := [(6, .bool false)]) [0] rfl).as (by (try rw [show (decide (lo ≤ n)) = false from (Zdf h1)]); (try rfl)), M.mask [] rfl⟩
 clear T M
 rintro ac wc ⟨T, M⟩
 refine wp_ret ?_
 refine rt_1 T rfl (T.e 0 rfl) ?_
 exact ⟨ret_bool (by unfold withinB; simp), M.below⟩
theorem rcheckRange_any (x0 x1 lo hi : Int) (w : World)  :
   Calls Tryz.prog 122 #[.agg #[.int .i64 x0, .int .i64 x1], .int .i64 lo, .int .i64 hi] w fun e w' => e = .returned (.int .i64 (chkR x0 x1 lo hi)) ∧ Below w.heap.size w w' := by
 refine Zpx noEx Tryz.func122 rfl 26 rfl [.agg #[.int .i64 x0, .int .i64 x1], .int .i64 lo, .int .i64 hi] rfl rfl (Mem.init w _) ?_
 intro ac wc T M
 refine Zsr ?_
 refine Zl2 ?_
 refine Zob M T rfl rfl rfl rfl (T.e 0 rfl) rfl ?_; clear M T; intro g1 wc ac M T
 refine lq T (Zra rfl evc) ?_; clear T ac; intro ac T
 replace T := T.pick [1, 3, 4] rfl
 refine Zln ?_
 refine wp_seq ?_
 refine cut_seq (fun ac wc => Tm ac 26 [(3, .pointer (some ⟨g1, 0, none⟩)), (20, .bool ((!(withinB x0 lo hi)) || (!(withinB x1 lo hi))))] ∧ Mem w noEx wc [(g1, .cells [.int .i64 x0, .int .i64 x1])]) ?_ ?_
 ·refine wp_region_lit ?_
  refine Zg4 (v1 := (.pointer (some ⟨g1, 0, none⟩))) T (Zq (Zrf (off := 0) rfl (T.e 0 rfl) (fun _ _ _ => by kernel_rfl))) rfl (Zo M 0 0 rfl rfl rfl rfl) rfl (Zm 3 rfl rfl) rfl (Zm 5 rfl rfl) rfl ?_; clear T ac; intro ac T
  refine Zl2 ?_
  refine Zoc (first := []) (cap := []) T rfl rfl rfl rfl evf (.cons (T.e 2 rfl) (.cons (T.e 1 rfl) (.cons (T.e 0 rfl) .nil))) Tryz.func124 rfl rfl ?_
  refine Calls.mono (among_any x0 lo hi _) ?_
  clear T; rintro e wc ⟨rfl, hb⟩ ac T
  replace M := M.call hb; clear hb
  refine Zg2 T (Zq (rn_not rfl (T.e 0 rfl))) rfl (Zm 0 rfl rfl) rfl ?_; clear T ac; intro ac T
  rcases Bool.eq_false_or_eq_true (!(withinB x0 lo hi)) with h1 | h1
  ·refine Zg7 T (Zp (Zwn rfl rfl (T.e 0 rfl) h1)) rfl (fun _ T => Zp (Zwn rfl rfl (T.e 1 rfl) h1)) rfl (fun _ T => Zp (Zwn rfl rfl (T.e 2 rfl) h1)) rfl (fun _ T => Zp (Zwn rfl rfl (T.e 3 rfl) h1)) rfl (fun _ T => Zp (Zwn rfl rfl (T.e 4 rfl) h1)) rfl (fun _ T => Zp (Zwn rfl rfl (T.e 5 rfl) h1)) rfl (fun _ T => Zq (Zr1 rfl (T.e 6 rfl) h1 evc)) rfl ?_; clear T ac; intro ac T
   refine wpList_nil ?_
   replace T := T.pick [0, 14] rfl
   exact ⟨(T.pick (E' := [(3, .pointer (some ⟨g1, 0, none⟩)), (20, .bool true)]) [1, 0] rfl).as (by (try rw [show (!(withinB x0 lo hi)) = true from h1]); (try rfl)), M.mask [true] rfl⟩
  refine Zg4 (v1 := (.pointer (some ⟨g1, 1, none⟩))) T (Zw (Zwy rfl rfl (T.e 0 rfl) h1) (Zrf (off := 1) rfl (T.e 7 rfl) (fun _ _ _ => by kernel_rfl))) rfl (fun _ T => Zw (Zwy rfl rfl (T.e 1 rfl) h1) (Zro (Mem.nth M 0 rfl) rfl (T.e 0 rfl) rfl)) rfl (fun _ T => Zw (Zwy rfl rfl (T.e 2 rfl) h1) (Zrm rfl (T.e 10 rfl))) rfl (fun _ T => Zw (Zwy rfl rfl (T.e 3 rfl) h1) (Zrm rfl (T.e 12 rfl))) rfl ?_; clear T ac; intro ac T
  refine l_w (Zwy rfl rfl (T.e 4 rfl) h1) ?_; intro K hK
  refine Zoc (first := []) (cap := []) T rfl rfl rfl rfl evf (.cons (T.e 2 rfl) (.cons (T.e 1 rfl) (.cons (T.e 0 rfl) .nil))) Tryz.func124 rfl rfl ?_
  refine Calls.mono (among_any x1 lo hi _) ?_
  clear T; rintro e wc ⟨rfl, hb⟩ ac T
  replace M := M.call hb; clear hb
  refine Zso hK _ _ ?_; clear hK K
  refine Zg2 T (Zw (Zwy rfl rfl (T.e 5 rfl) h1) (rn_not rfl (T.e 0 rfl))) rfl (fun _ T => Zq (Zr0 rfl (T.e 6 rfl) h1 (T.e 0 rfl))) rfl ?_; clear T ac; intro ac T
  refine wpList_nil ?_
  replace T := T.pick [0, 14] rfl
  exact ⟨(T.pick (E' := [(3, .pointer (some ⟨g1, 0, none⟩)), (20, .bool (!(withinB x1 lo hi)))]) [1, 0] rfl).as (by (try rw [show (!(withinB x0 lo hi)) = false from h1]); (try rfl)), M.mask [true] rfl⟩
 clear T M
 rintro ac wc ⟨T, M⟩
 refine wp_cond_split (T.e 1 rfl) ?_ ?_
 ·intro h2
  (have h2' := h2; try simp only [Zb1, Zb2, Zb3, Zb4, Zb5, Zb6, Zb7] at h2')
  refine Zsr ?_
  refine lq T (Zra rfl evc) ?_; clear T ac; intro ac T
  refine wpList_nil ?_
  replace T := T.pick [0] rfl
  replace M := M.mask [false] rfl
  refine Znr ?_
  refine Zrt ?_
  refine rt_1 T rfl (T.e 0 rfl) ?_
  exact ⟨ret_int (by unfold chkR; first | (simp_all; done) | (simp_all; omega) | (simp_all; intro h8 h9; simp_all)), M.below⟩
 intro h2
 (have h2' := h2; try simp only [Zb1, Zb2, Zb3, Zb4, Zb5, Zb6, Zb7] at h2')
 refine Zsk ?_
 refine wp_seq ?_
 refine Zsr ?_
 refine Zg5 (v1 := (.pointer (some ⟨g1, 0, none⟩))) (v3 := (.pointer (some ⟨g1, 1, none⟩))) T (Zq (Zrf (off := 0) rfl (T.e 0 rfl) (fun _ _ _ => by kernel_rfl))) rfl (Zo M 0 0 rfl rfl rfl rfl) rfl (Zf 1 2 rfl rfl) rfl (Zo M 0 0 rfl rfl rfl rfl) rfl (fun _ T => Zq (rn_gtr rfl (T.e 2 rfl) (T.e 0 rfl))) rfl ?_; clear T ac; intro ac T
 refine wpList_nil ?_
 replace T := T.pick [0] rfl
 replace M := M.mask [false] rfl
 refine nm_then ?_
 refine wp_if (T.e 0 rfl) ?_ ?_
 ·intro h3
  refine Zsr ?_
  refine lq T (Zra rfl evc) ?_; clear T ac; intro ac T
  replace T := T.pick [0] rfl
  refine Zln ?_
  refine wp_ret ?_
  refine Zrt ?_
  refine rt_1 T rfl (T.e 0 rfl) ?_
  exact ⟨ret_int (by unfold chkR; first | (simp_all; done) | (simp_all; omega) | (simp_all; intro h8 h9; simp_all)), M.below⟩
 intro h3
 refine Zsk ?_
 refine Zsr ?_
 refine lq T (Zra rfl evc) ?_; clear T ac; intro ac T
 replace T := T.pick [0] rfl
 refine Zln ?_
 refine wp_ret ?_
 refine rt_1 T rfl (T.e 0 rfl) ?_
 exact ⟨ret_int (by unfold chkR; first | (simp_all; done) | (simp_all; omega) | (simp_all; intro h8 h9; simp_all)), M.below⟩
theorem rcheckAll_any (lo hi : Int) (A : Option Addr) (n c : Nat) (l : List (Int × Int)) (w : World) (hr : Rd w w.heap.size 2 A n (rc l)) (hn : n ≤ 9223372036854775807) :
   Calls Tryz.prog 123 #[.slice A n c, .int .i64 lo, .int .i64 hi] w fun e w' => e = .returned (.int .i64 (chkAll lo hi l)) ∧ Below w.heap.size w w' := by
 have hl := hr.len2
 obtain ⟨bJ, oJ, SJ⟩ := Sp.old hr
 refine Zpx noEx Tryz.func123 rfl 25 rfl [.slice A n c, .int .i64 lo, .int .i64 hi] rfl rfl (Mem.init w _) ?_
 intro ac wc T M
 refine Zsr ?_
 refine lq T (Zra rfl evc) ?_; clear T ac; intro ac T
 replace T := T.pick [1, 2, 3] rfl
 refine Zln ?_
 refine wp_seq ?_
 refine Zsr ?_
 refine lq T (Zra rfl evc) ?_; clear T ac; intro ac T
 refine Zln ?_
 refine wp_block ?_
 refine wp_loop_n (fun mz ac wc => ∃ (k : Nat), mz = n - k ∧ (k ≤ n) ∧ (chkAll lo hi l = chkAll lo hi (l.drop k)) ∧ Tm ac 25 [(0, .slice A n c), (1, .int .i64 lo), (2, .int .i64 hi), (7, .int .i64 (k : Int))] ∧ Mem w noEx wc []) ?_ ?_
 ·exact ⟨_, 0, rfl, (by omega), rfl, T.pick [1, 2, 3, 0] rfl, M.mask [] rfl⟩
 clear T M
 rintro mz ac wc ⟨k, hmm1, hk, H, T, M⟩
 refine wp_seq ?_
 refine Zsr ?_
 refine Zg4 T (Zq (Zrm rfl (T.e 3 rfl))) rfl (Zm 1 rfl rfl) rfl (Zl Tryz.underlying51 0 rfl rfl) rfl (fun _ T => Zq (rn_lss rfl (T.e 2 rfl) (T.e 0 rfl))) rfl ?_; clear T ac; intro ac T
 replace T := T.pick [0, 4, 5, 6, 7] rfl
 refine Zln ?_
 refine wp_if (T.e 0 rfl) ?_ ?_
 ·intro h1
  obtain ⟨x0, x1, hk1, hd⟩ := rc_next (l := l) (k := k) (by omega)
  rw [hd, chkAll] at H
  refine Zsk ?_
  refine wp_seq ?_
  refine wp_block ?_
  refine Zsr ?_
  refine Zg6 (v4 := (.agg #[.int .i64 x0, .int .i64 x1])) T (Zq (Zrm rfl (T.e 1 rfl))) rfl (Zm 5 rfl rfl) rfl (fun _ T => Zq (Zri (size := 2) k rfl (T.e 1 rfl) (T.e 0 rfl) ⟨_, Tryz.underlying51, by kernel_rfl⟩ rfl (by omega) (SJ.at0 (by omega)))) rfl (fun _ T => Zq (rn_rowat (Sp.rcR SJ M (Zz9 _) hk1) rfl (T.e 0 rfl) rfl)) rfl (Zm 6 rfl rfl) rfl (Zm 8 rfl rfl) rfl ?_; clear T ac; intro ac T
  refine Zl2 ?_
  refine Zoc (first := []) (cap := []) T rfl rfl rfl rfl evf (.cons (T.e 2 rfl) (.cons (T.e 1 rfl) (.cons (T.e 0 rfl) .nil))) Tryz.func122 rfl rfl ?_
  refine Calls.mono (rcheckRange_any x0 x1 lo hi _) ?_
  clear T; rintro e wc ⟨rfl, hb⟩ ac T
  replace M := M.call hb; clear hb
  refine lq T (Zra rfl (T.e 0 rfl)) ?_; clear T ac; intro ac T
  replace T := T.pick [0, 9, 10, 11, 12] rfl
  refine Zln ?_
  refine Zsr ?_
  refine Zg2 T (Zq (Zrm rfl (T.e 0 rfl))) rfl (fun _ T => Zq (rn_neq rfl (T.e 0 rfl) evc)) rfl ?_; clear T ac; intro ac T
  replace T := T.pick [0, 2, 3, 4, 5, 6] rfl
  refine Zln ?_
  refine wp_ifn (T.e 0 rfl) ?_ ?_
  ·intro h2
   refine Zsr ?_
   refine Zg2 T (Zq (Zrm rfl (T.e 1 rfl))) rfl (Za 0 rfl rfl) rfl ?_; clear T ac; intro ac T
   replace T := T.pick [0] rfl
   refine Zln ?_
   refine wp_ret ?_
   refine Zrb ?_
   refine Zrt ?_
   refine Zrt ?_
   refine Zrb ?_
   refine Zrt ?_
   refine rt_1 T rfl (T.e 0 rfl) ?_
   rw [if_pos (by simp_all)] at H
   exact ⟨ret_int H.symm, M.below⟩
  intro h2
  refine wp_skip ?_
  refine Znb ?_
  refine nm_then ?_
  refine wp_region_lit ?_
  refine Zg2 T (Zq (Zrm rfl (T.e 5 rfl))) rfl (fun _ T => Zq (rn_add rfl (T.e 0 rfl) evc (by omega))) rfl ?_; clear T ac; intro ac T
  refine l_q (v := (.int .i64 ((k : Int) + 1))) (T.pick [0, 1, 2, 3, 4, 5, 6] rfl) rfl rfl rfl rfl (Zra rfl (T.e 0 rfl)) ?_; clear T ac; intro ac T
  replace T := T.pick [0, 5, 6, 7] rfl
  refine Zln ?_
  rw [if_neg (by simp_all)] at H
  exact ⟨_, by omega, k + 1, rfl, (by omega), H, T.pick [1, 2, 3, 0] rfl, M.mask [] rfl⟩
 intro h1
 rw [List.drop_of_length_le (by omega), chkAll] at H
 refine wp_exit ?_
 refine Zet ?_
 refine Zet ?_
 refine ex_hit ?_
 refine nm_then ?_
 refine Zsr ?_
 refine lq T (Zra rfl evc) ?_; clear T ac; intro ac T
 replace T := T.pick [0] rfl
 refine Zln ?_
 refine wp_ret ?_
 refine rt_1 T rfl (T.e 0 rfl) ?_
 exact ⟨ret_int H.symm, M.below⟩
theorem rCheck_any (j : Jb) (A : Option Addr) (c : Nat) (w : World) (hr : Rd w w.heap.size 2 A j.sh.length (rc j.sh)) (hn : j.sh.length ≤ 9223372036854775807) :
   Calls Tryz.prog 86 #[jobV j A c] w fun e w' => e = .returned (.int .i64 (checkJ j)) ∧ Below w.heap.size w w' := by
 obtain ⟨bJ, oJ, SJ⟩ := Sp.old hr
 refine Zpx noEx Tryz.func86 rfl 67 rfl [.agg #[.int .i64 j.p0, .int .i64 j.p1, .int .i64 j.t0, .int .i64 j.t1, .int .i64 j.r0, .int .i64 j.r1, .int .i64 j.u0, .int .i64 j.u1, .int .i64 j.d0, .int .i64 j.d1, .int .i64 j.a0, .int .i64 j.a1, .int .i64 j.b0, .int .i64 j.b1, .int .i64 j.le, .slice A j.sh.length c, .int .i64 j.wi, .int .i64 j.me]] rfl rfl (Mem.init w _) ?_
 intro ac wc T M
 refine Zsr ?_
 refine Zl2 ?_
 refine Zob M T rfl rfl rfl rfl (T.e 0 rfl) rfl ?_; clear M T; intro g1 wc ac M T
 refine lq T (Zra rfl evc) ?_; clear T ac; intro ac T
 replace T := T.pick [1] rfl
 refine Zln ?_
 refine wp_seq ?_
 refine Zsr ?_
 refine Zg3 (v1 := (.pointer (some ⟨g1, 0, none⟩))) (v2 := (.pointer (some ⟨g1, 0, none⟩))) T (Zq (Zrf (off := 0) rfl (T.e 0 rfl) (fun _ _ _ => by kernel_rfl))) rfl (Zf 0 0 rfl rfl) rfl (Zr M 0 0 rfl rfl rfl rfl) rfl ?_; clear T ac; intro ac T
 refine Zl2 ?_
 refine Zoc (first := []) (cap := []) T rfl rfl rfl rfl evf (.cons (T.e 0 rfl) (.cons evc (.cons evc .nil))) Tryz.func122 rfl rfl ?_
 refine Calls.mono (rcheckRange_any j.p0 j.p1 (-60) 60 _) ?_
 clear T; rintro e wc ⟨rfl, hb⟩ ac T
 replace M := M.call hb; clear hb
 refine lq T (Zra rfl (T.e 0 rfl)) ?_; clear T ac; intro ac T
 replace T := T.pick [0, 5] rfl
 refine Zln ?_
 refine Zsr ?_
 refine Zg2 T (Zq (Zrm rfl (T.e 0 rfl))) rfl (fun _ T => Zq (rn_neq rfl (T.e 0 rfl) evc)) rfl ?_; clear T ac; intro ac T
 replace T := T.pick [0, 2, 3] rfl
 refine Zln ?_
 refine wp_ifn (T.e 0 rfl) ?_ ?_
 ·intro h1
  refine Zsr ?_
  refine Zg2 T (Zq (Zrm rfl (T.e 1 rfl))) rfl (Za 0 rfl rfl) rfl ?_; clear T ac; intro ac T
  refine wpList_nil ?_
  replace T := T.pick [0] rfl
  replace M := M.mask [false] rfl
  refine Znr ?_
  refine Zrt ?_
  refine rt_1 T rfl (T.e 0 rfl) ?_
  refine ⟨ret_int ?_, M.below⟩
  unfold checkJ
  first | (simp_all; done) | (simp_all; omega) | (simp_all; intro h9; omega)
 intro h1
 refine Zsk ?_
 refine wp_seq ?_
 refine Zsr ?_
 refine Zg6 (v1 := (.pointer (some ⟨g1, 0, none⟩))) (v2 := (.pointer (some ⟨g1, 2, none⟩))) (v4 := (.pointer (some ⟨g1, 0, none⟩))) (v5 := (.pointer (some ⟨g1, 4, none⟩))) T (Zq (Zrf (off := 0) rfl (T.e 2 rfl) (fun _ _ _ => by kernel_rfl))) rfl (Zf 2 0 rfl rfl) rfl (Zr M 0 0 rfl rfl rfl rfl) rfl (Zf 0 5 rfl rfl) rfl (Zf 4 0 rfl rfl) rfl (Zr M 0 0 rfl rfl rfl rfl) rfl ?_; clear T ac; intro ac T
 refine Zl2 ?_
 refine ow_bs (e := 26) [.int .i64 j.t0, .int .i64 j.t1, .int .i64 j.r0, .int .i64 j.r1] M T rfl rfl rfl rfl (.cons (T.e 3 rfl) (.cons (T.e 0 rfl) .nil)) (fun _ => by kernel_rfl) ?_; clear M T; intro g2 wc ac M T
 refine Zl2 ?_
 refine Zoc (first := []) (cap := []) T rfl rfl rfl rfl evf (.cons (T.e 0 rfl) (.cons evc (.cons evc .nil))) Tryz.func123 rfl rfl ?_
 refine Calls.mono (rcheckAll_any 0 100 _ _ _ [(j.t0, j.t1), (j.r0, j.r1)] _ (M.rdOwn (Zne (i := 0) rfl) rfl rfl) (by first | decide | omega)) ?_
 clear T; rintro e wc ⟨rfl, hb⟩ ac T
 replace M := M.call hb; clear hb
 refine lq T (Zra rfl (T.e 0 rfl)) ?_; clear T ac; intro ac T
 refine wpList_nil ?_
 replace T := T.pick [0, 11] rfl
 replace M := M.mask [false, true] rfl
 refine nm_then ?_
 refine Zsr ?_
 refine Zg2 T (Zq (Zrm rfl (T.e 0 rfl))) rfl (fun _ T => Zq (rn_neq rfl (T.e 0 rfl) evc)) rfl ?_; clear T ac; intro ac T
 replace T := T.pick [0, 2, 3] rfl
 refine Zln ?_
 refine wp_ifn (T.e 0 rfl) ?_ ?_
 ·intro h2
  refine Zsr ?_
  refine Zg2 T (Zq (Zrm rfl (T.e 1 rfl))) rfl (Za 0 rfl rfl) rfl ?_; clear T ac; intro ac T
  refine wpList_nil ?_
  replace T := T.pick [0] rfl
  replace M := M.mask [false] rfl
  refine Znr ?_
  refine Zrt ?_
  refine rt_1 T rfl (T.e 0 rfl) ?_
  refine ⟨ret_int ?_, M.below⟩
  unfold checkJ
  first | (simp_all; done) | (simp_all; omega) | (simp_all; intro h9; omega)
 intro h2
 refine Zsk ?_
 refine wp_seq ?_
 refine Zsr ?_
 refine Zg8 (v1 := (.pointer (some ⟨g1, 6, none⟩))) (v2 := (.pointer (some ⟨g1, 6, none⟩))) (v4 := (.pointer (some ⟨g1, 6, none⟩))) (v5 := (.pointer (some ⟨g1, 8, none⟩))) (v7 := (.pointer (some ⟨g1, 6, none⟩))) (v8 := (.pointer (some ⟨g1, 10, none⟩))) T (Zq (Zrf (off := 6) rfl (T.e 2 rfl) (fun _ _ _ => by kernel_rfl))) rfl (Zf 0 0 rfl rfl) rfl (Zr M 0 0 rfl rfl rfl rfl) rfl (Zf 6 5 rfl rfl) rfl (Zf 2 0 rfl rfl) rfl (Zr M 0 0 rfl rfl rfl rfl) rfl (Zf 6 8 rfl rfl) rfl (Zf 4 0 rfl rfl) rfl ?_; clear T ac; intro ac T
 refine Zg4 (v2 := (.pointer (some ⟨g1, 6, none⟩))) (v3 := (.pointer (some ⟨g1, 12, none⟩))) T (Zq (Zrr (Mem.nth M 0 rfl) rfl (T.e 0 rfl) rfl)) rfl (Zf 6 11 rfl rfl) rfl (Zf 6 0 rfl rfl) rfl (Zr M 0 0 rfl rfl rfl rfl) rfl ?_; clear T ac; intro ac T
 refine Zl2 ?_
 refine ow_bs (e := 26) [.int .i64 j.u0, .int .i64 j.u1, .int .i64 j.d0, .int .i64 j.d1, .int .i64 j.a0, .int .i64 j.a1, .int .i64 j.b0, .int .i64 j.b1] M T rfl rfl rfl rfl (.cons (T.e 9 rfl) (.cons (T.e 6 rfl) (.cons (T.e 3 rfl) (.cons (T.e 0 rfl) .nil)))) (fun _ => by kernel_rfl) ?_; clear M T; intro g3 wc ac M T
 refine Zl2 ?_
 refine Zoc (first := []) (cap := []) T rfl rfl rfl rfl evf (.cons (T.e 0 rfl) (.cons evc (.cons evc .nil))) Tryz.func123 rfl rfl ?_
 refine Calls.mono (rcheckAll_any 0 12 _ _ _ [(j.u0, j.u1), (j.d0, j.d1), (j.a0, j.a1), (j.b0, j.b1)] _ (M.rdOwn (Zne (i := 0) rfl) rfl rfl) (by first | decide | omega)) ?_
 clear T; rintro e wc ⟨rfl, hb⟩ ac T
 replace M := M.call hb; clear hb
 refine lq T (Zra rfl (T.e 0 rfl)) ?_; clear T ac; intro ac T
 refine wpList_nil ?_
 replace T := T.pick [0, 17] rfl
 replace M := M.mask [false, true] rfl
 refine nm_then ?_
 refine Zsr ?_
 refine Zg2 T (Zq (Zrm rfl (T.e 0 rfl))) rfl (fun _ T => Zq (rn_neq rfl (T.e 0 rfl) evc)) rfl ?_; clear T ac; intro ac T
 replace T := T.pick [0, 2, 3] rfl
 refine Zln ?_
 refine wp_ifn (T.e 0 rfl) ?_ ?_
 ·intro h3
  refine Zsr ?_
  refine Zg2 T (Zq (Zrm rfl (T.e 1 rfl))) rfl (Za 0 rfl rfl) rfl ?_; clear T ac; intro ac T
  refine wpList_nil ?_
  replace T := T.pick [0] rfl
  replace M := M.mask [false] rfl
  refine Znr ?_
  refine Zrt ?_
  refine rt_1 T rfl (T.e 0 rfl) ?_
  refine ⟨ret_int ?_, M.below⟩
  unfold checkJ
  first | (simp_all; done) | (simp_all; omega) | (simp_all; intro h9; omega)
 intro h3
 refine Zsk ?_
 refine wp_seq ?_
 refine Zsr ?_
 refine Zg3 (v1 := (.pointer (some ⟨g1, 6, none⟩))) (v2 := (.pointer (some ⟨g1, 14, none⟩))) T (Zq (Zrf (off := 6) rfl (T.e 2 rfl) (fun _ _ _ => by kernel_rfl))) rfl (Zf 8 0 rfl rfl) rfl (Zo M 0 0 rfl rfl rfl rfl) rfl ?_; clear T ac; intro ac T
 refine Zl2 ?_
 refine Zoc (first := []) (cap := []) T rfl rfl rfl rfl evf (.cons (T.e 0 rfl) (.cons evc (.cons evc .nil))) Tryz.func124 rfl rfl ?_
 refine Calls.mono (among_any j.le 0 100 _) ?_
 clear T; rintro e wc ⟨rfl, hb⟩ ac T
 replace M := M.call hb; clear hb
 refine lq T (rn_not rfl (T.e 0 rfl)) ?_; clear T ac; intro ac T
 replace T := T.pick [0, 7] rfl
 refine Zln ?_
 refine wp_cond_split (T.e 0 rfl) ?_ ?_
 ·intro h4
  (have h4' := h4; try simp only [Zb1, Zb2, Zb3, Zb4, Zb5, Zb6, Zb7] at h4')
  refine Zsr ?_
  refine lq T (Zra rfl evc) ?_; clear T ac; intro ac T
  refine wpList_nil ?_
  replace T := T.pick [0] rfl
  replace M := M.mask [false] rfl
  refine Znr ?_
  refine Zrt ?_
  refine rt_1 T rfl (T.e 0 rfl) ?_
  refine ⟨ret_int ?_, M.below⟩
  unfold checkJ
  first | (simp_all; done) | (simp_all; omega) | (simp_all; intro h9; omega)
 intro h4
 (have h4' := h4; try simp only [Zb1, Zb2, Zb3, Zb4, Zb5, Zb6, Zb7] at h4')
 refine Zsk ?_
 refine wp_seq ?_
 refine Zsr ?_
 refine Zg4 (v1 := (.pointer (some ⟨g1, 15, none⟩))) T (Zq (Zrf (off := 15) rfl (T.e 1 rfl) (fun _ _ _ => by kernel_rfl))) rfl (Zo M 0 0 rfl rfl rfl rfl) rfl (Zl Tryz.underlying51 0 rfl rfl) rfl (fun _ T => Zq (rn_gtr rfl (T.e 0 rfl) evc)) rfl ?_; clear T ac; intro ac T
 replace T := T.pick [0, 5] rfl
 refine Zln ?_
 refine wp_if (T.e 0 rfl) ?_ ?_
 ·intro h5
  refine Zsr ?_
  refine lq T (Zra rfl evc) ?_; clear T ac; intro ac T
  refine wpList_nil ?_
  replace T := T.pick [0] rfl
  replace M := M.mask [false] rfl
  refine Znr ?_
  refine Zrt ?_
  refine rt_1 T rfl (T.e 0 rfl) ?_
  refine ⟨ret_int ?_, M.below⟩
  unfold checkJ
  first | (simp_all; done) | (simp_all; omega) | (simp_all; intro h9; omega)
 intro h5
 refine Zsk ?_
 refine wp_seq ?_
 refine Zsr ?_
 refine Zg2 (v1 := (.pointer (some ⟨g1, 15, none⟩))) T (Zq (Zrf (off := 15) rfl (T.e 1 rfl) (fun _ _ _ => by kernel_rfl))) rfl (Zo M 0 0 rfl rfl rfl rfl) rfl ?_; clear T ac; intro ac T
 refine Zl2 ?_
 refine Zoc (first := []) (cap := []) T rfl rfl rfl rfl evf (.cons (T.e 0 rfl) (.cons evc (.cons evc .nil))) Tryz.func123 rfl rfl ?_
 refine Calls.mono (rcheckAll_any (-60) 60 _ _ _ j.sh _ (SJ.rd M (Zz9 _)) (by first | decide | omega)) ?_
 clear T; rintro e wc ⟨rfl, hb⟩ ac T
 replace M := M.call hb; clear hb
 refine lq T (Zra rfl (T.e 0 rfl)) ?_; clear T ac; intro ac T
 replace T := T.pick [0, 5] rfl
 refine Zln ?_
 refine Zsr ?_
 refine Zg2 T (Zq (Zrm rfl (T.e 0 rfl))) rfl (fun _ T => Zq (rn_neq rfl (T.e 0 rfl) evc)) rfl ?_; clear T ac; intro ac T
 replace T := T.pick [0, 2, 3] rfl
 refine Zln ?_
 refine wp_ifn (T.e 0 rfl) ?_ ?_
 ·intro h6
  refine Zsr ?_
  refine Zg2 T (Zq (Zrm rfl (T.e 1 rfl))) rfl (Za 0 rfl rfl) rfl ?_; clear T ac; intro ac T
  refine wpList_nil ?_
  replace T := T.pick [0] rfl
  replace M := M.mask [false] rfl
  refine Znr ?_
  refine Zrt ?_
  refine rt_1 T rfl (T.e 0 rfl) ?_
  refine ⟨ret_int ?_, M.below⟩
  unfold checkJ
  first | (simp_all; done) | (simp_all; omega) | (simp_all; intro h9; omega)
 intro h6
 refine Zsk ?_
 refine wp_seq ?_
 refine cut_seq (fun ac wc => Tm ac 67 [(66, .bool ((!(withinB j.wi 0 60)) || (!(withinB j.me 0 6))))] ∧ Mem w noEx wc []) ?_ ?_
 ·refine wp_region_lit ?_
  refine Zg2 (v1 := (.pointer (some ⟨g1, 16, none⟩))) T (Zq (Zrf (off := 16) rfl (T.e 2 rfl) (fun _ _ _ => by kernel_rfl))) rfl (Zo M 0 0 rfl rfl rfl rfl) rfl ?_; clear T ac; intro ac T
  refine Zl2 ?_
  refine Zoc (first := []) (cap := []) T rfl rfl rfl rfl evf (.cons (T.e 0 rfl) (.cons evc (.cons evc .nil))) Tryz.func124 rfl rfl ?_
  refine Calls.mono (among_any j.wi 0 60 _) ?_
  clear T; rintro e wc ⟨rfl, hb⟩ ac T
  replace M := M.call hb; clear hb
  refine Zg2 T (Zq (rn_not rfl (T.e 0 rfl))) rfl (Zm 0 rfl rfl) rfl ?_; clear T ac; intro ac T
  rcases Bool.eq_false_or_eq_true (!(withinB j.wi 0 60)) with h7 | h7
  ·refine Zg5 T (Zp (Zwn rfl rfl (T.e 0 rfl) h7)) rfl (fun _ T => Zp (Zwn rfl rfl (T.e 1 rfl) h7)) rfl (fun _ T => Zp (Zwn rfl rfl (T.e 2 rfl) h7)) rfl (fun _ T => Zp (Zwn rfl rfl (T.e 3 rfl) h7)) rfl (fun _ T => Zq (Zr1 rfl (T.e 4 rfl) h7 evc)) rfl ?_; clear T ac; intro ac T
   refine wpList_nil ?_
   replace T := T.pick [0] rfl
   replace M := M.mask [false] rfl
   exact ⟨(T.pick (E' := [(66, .bool true)]) [0] rfl).as (by (try rw [show (!(withinB j.wi 0 60)) = true from h7]); (try rfl)), M.mask [] rfl⟩
  refine Zg2 (v1 := (.pointer (some ⟨g1, 17, none⟩))) T (Zw (Zwy rfl rfl (T.e 0 rfl) h7) (Zrf (off := 17) rfl (T.e 7 rfl) (fun _ _ _ => by kernel_rfl))) rfl (fun _ T => Zw (Zwy rfl rfl (T.e 1 rfl) h7) (Zro (Mem.nth M 0 rfl) rfl (T.e 0 rfl) rfl)) rfl ?_; clear T ac; intro ac T
  refine l_w (Zwy rfl rfl (T.e 2 rfl) h7) ?_; intro K hK
  refine Zoc (first := []) (cap := []) T rfl rfl rfl rfl evf (.cons (T.e 0 rfl) (.cons evc (.cons evc .nil))) Tryz.func124 rfl rfl ?_
  refine Calls.mono (among_any j.me 0 6 _) ?_
  clear T; rintro e wc ⟨rfl, hb⟩ ac T
  replace M := M.call hb; clear hb
  refine Zso hK _ _ ?_; clear hK K
  refine Zg2 T (Zw (Zwy rfl rfl (T.e 3 rfl) h7) (rn_not rfl (T.e 0 rfl))) rfl (fun _ T => Zq (Zr0 rfl (T.e 4 rfl) h7 (T.e 0 rfl))) rfl ?_; clear T ac; intro ac T
  refine wpList_nil ?_
  replace T := T.pick [0] rfl
  replace M := M.mask [false] rfl
  exact ⟨(T.pick (E' := [(66, .bool (!(withinB j.me 0 6)))]) [0] rfl).as (by (try rw [show (!(withinB j.wi 0 60)) = false from h7]); (try rfl)), M.mask [] rfl⟩
 clear T M
 rintro ac wc ⟨T, M⟩
 refine wp_cond_split (T.e 0 rfl) ?_ ?_
 ·intro h8
  (have h8' := h8; try simp only [Zb1, Zb2, Zb3, Zb4, Zb5, Zb6, Zb7] at h8')
  refine Zsr ?_
  refine lq T (Zra rfl evc) ?_; clear T ac; intro ac T
  replace T := T.pick [0] rfl
  refine Zln ?_
  refine wp_ret ?_
  refine Zrt ?_
  refine rt_1 T rfl (T.e 0 rfl) ?_
  refine ⟨ret_int ?_, M.below⟩
  unfold checkJ
  first | (simp_all; done) | (simp_all; omega) | (simp_all; intro h9; omega)
 intro h8
 (have h8' := h8; try simp only [Zb1, Zb2, Zb3, Zb4, Zb5, Zb6, Zb7] at h8')
 refine Zsk ?_
 refine Zsr ?_
 refine lq T (Zra rfl evc) ?_; clear T ac; intro ac T
 replace T := T.pick [0] rfl
 refine Zln ?_
 refine wp_ret ?_
 refine rt_1 T rfl (T.e 0 rfl) ?_
 refine ⟨ret_int ?_, M.below⟩
 unfold checkJ
 first | (simp_all; done) | (simp_all; omega) | (simp_all; intro h9; omega)
theorem Sp.mono {w : World} {ex : Nat → Prop} {I I' : List (Nat × BA)} {A : Option Addr} {n size b o : Nat} {xs : List Value} (S : Sp w ex I A n size b o xs) (h : I.Sublist I') : Sp w ex I' A n size b o xs :=
 ⟨S.at0, S.len, fun w' L M hI hn => S.lt w' L M (h.trans hI) hn, fun w' L M hI => S.cell w' L M (h.trans hI)⟩
theorem Sp.pre {w : World} {ex : Nat → Prop} {size n g : Nat} {xs ys : List Value} (hl : xs.length = n * size) : Sp w ex [(g, .cells (xs ++ ys))] (some ⟨g, 0, none⟩) n size g 0 xs :=
 ⟨fun _ => rfl, hl, fun w' L M hI _ => BA.lt (M.blk _ (hI.subset Zz2)).2, fun w' L M hI j u hu => by
  have hb := M.get (hI.subset Zz2)
  rw [hb.cell, Nat.zero_add, List.getElem?_toArray, List.getElem?_append_left (List.getElem?_eq_some_iff.1 hu).1]
  exact hu⟩
abbrev JE := Jb × Option Addr × Nat
abbrev LE := List Int × Option Addr × Nat
def lc (l : List LE) : List Value := l.map fun x => .slice x.2.1 x.1.length x.2.2
theorem lc_length (l : List LE) : (lc l).length = l.length := by simp [lc]
section
variable {w w' : World} {ex : Nat → Prop} {I L : List (Nat × BA)} {n b o k : Nat} {A : Option Addr} {l : List JE} {r : List LE}
theorem Sp.lc0 {x : List Int} {B : Option Addr} {c : Nat} (S : Sp w ex I A n 1 b o (lc r)) (M : Mem w ex w' L) (hI : I.Sublist L) (h : r[k]? = some (x, B, c)) : w'.cell? ⟨b, o + k * 1, none⟩ = some (.slice B x.length c) := by
 rw [Nat.mul_one]
 exact S.cell w' L M hI _ _ (by unfold lc; rw [List.getElem?_map, h]; rfl)
end
section
variable {P : Program} {op : Oper} {a : Act} {K : Act → World → Prop} {Q : Exit → Act → World → Prop} {w0 w : World} {ex : Nat → Prop} {L0 L : List (Nat × BA)} {E : List (Nat × Value)} {t n : Nat}
theorem ow_stI {ty : TypeId} {x y : Operand} {g k : Nat} {v : Int} {l : List Int} {ys : List Value} {L' : List (Nat × BA)} (M : Mem w0 ex w L) (T : Tm a n E) (ho : op.op = .store ty x y) (hd : op.dst = none) (hx : a.eval x = .pointer (some ⟨g, 0 + k * 1, none⟩)) (hy : a.eval y = .int .i64 v)
   (hu : Upd L g (.cells (ic l ++ ys)) (.cells (ic (l.set k v) ++ ys)) L') (hk : k < l.length) (hi : (P.info? ty).map (·.size) = some 1)
   (h : ∀ w' a', Mem w0 ex w' L' → Tm a' n E → K a' w') : op.wp P a w K Q := by
 refine m_stw (ds := [.int .i64 v]) M ho hx hy rfl hu ?_ (by simp only [List.length_append, List.length_cons, List.length_nil, ic_length]; omega) rfl hi fun w' M' => h w' _ M' (by rw [hd]; exact T)
 rw [Nat.zero_add, Nat.mul_one, List.take_append_of_le_length (by rw [ic_length]; omega), List.drop_append_of_le_length (by rw [ic_length]; simp; omega), ← List.append_assoc]
 congr 1
 unfold ic
 rw [← List.map_take, ← List.map_drop, List.set_eq_take_append_cons_drop, if_pos hk]
 simp
end
theorem ic_snoc (l : List Int) (x : Int) : ic l ++ [.int .i64 x] = ic (l ++ [x]) := by simp [ic]
theorem Tryz.info33 : (Tryz.prog.info? 33).map (fun i => (i.zero, i.size, i.bytes)) = some (some (.slice none 0 0), 1, 24) := by kernel_rfl
def Els (LL : List LE) (I : List (Nat × BA)) : Prop := ∀ x ∈ LL, ∃ b o, ∀ (w : World) (ex : Nat → Prop), Sp w ex I x.2.1 x.1.length 1 b o (ic x.1)
theorem Els.mono {LL : List LE} {I I' : List (Nat × BA)} (h : Els LL I) (hs : I.Sublist I') : Els LL I' := fun x hx => by
 obtain ⟨b, o, h1⟩ := h x hx
 exact ⟨b, o, fun w ex => (h1 w ex).mono hs⟩
theorem Els.snoc {LL : List LE} {I : List (Nat × BA)} (h : Els LL I) (l : List Int) (g c : Nat) (ys : List Value) : Els (LL ++ [(l, some ⟨g, 0, none⟩, c)]) (I ++ [(g, .cells (ic l ++ ys))]) := fun x hx => by
 rcases List.mem_append.1 hx with hx | hx
 ·exact h.mono (Zsl _ _) x hx
 ·simp only [List.mem_cons, List.not_mem_nil, or_false] at hx
  subst hx
  exact ⟨g, 0, fun w ex => (Sp.pre (by simp [ic_length])).mono (Zsq _ _)⟩
theorem lc_snoc (l : List LE) (x : List Int) (B : Option Addr) (c : Nat) : lc l ++ [.slice B x.length c] = lc (l ++ [(x, B, c)]) := by simp [lc]
theorem Mem.as {w0 w : World} {ex : Nat → Prop} {L L' : List (Nat × BA)} (M : Mem w0 ex w L) (h : L = L') : Mem w0 ex w L' := h ▸ M
theorem take_set {l R : List Int} {q : Nat} {v : Int} (h : l.take q = R.take q) (hR : R[q]? = some v) (hq : q < l.length) : (l.set q v).take (q + 1) = R.take (q + 1) := by
 rw [List.take_add_one, List.take_add_one, hR, List.take_set_of_le (Nat.le_refl _), h, List.getElem?_set_self hq]
section
variable {P : Program} {op : Oper} {a : Act} {K : Act → World → Prop} {Q : Exit → Act → World → Prop} {w0 w : World} {ex : Nat → Prop} {L : List (Nat × BA)} {E : List (Nat × Value)} {df : List Deferred} {t n : Nat}
theorem madeCells_ic (m : Nat) : madeCells (Value.cells (.int .i64 0)) (m * 1) = (ic (List.replicate m 0) ++ []).toArray := by
 apply Array.ext
 ·simp [madeCells, ic]
 ·intro i h1 h2
  simp [madeCells, ic, Value.cells, Nat.mod_one]
theorem ow_ms {ty e m : Nat} {x y : Operand} (M : Mem w0 ex w L) (T : TmD df a n E) (ho : op.op = .makeSlice ty x y) (hd : op.dst = some t) (hf : freshE E t = true) (hn : Nat.blt t n = true) (hx : a.eval x = .int .i64 (m : Int)) (hy : a.eval y = .int .i64 (m : Int))
  (ht : P.underlying ty = some (.slice e)) (hinfo : (P.info? e).map (fun i => (i.zero, i.size, i.bytes)) = some (some (.int .i64 0), 1, 8)) (hm : m ≤ 1000000)
  (h : ∀ g w' a', Mem w0 ex w' ((g, .cells (ic (List.replicate m 0) ++ [])) :: L) → TmD df a' n ((t, .slice (some ⟨g, 0, none⟩) m m) :: E) → K a' w') : op.wp P a w K Q := by
 obtain ⟨i, hi, hz, hs, hb⟩ := info_parts hinfo
 have hr := run_makeSlice (P := P) w ty e i _ ht hi hz .i64 .i64 (m : Int) (m : Int) (by omega) (Int.le_refl _) (by rw [hs]; omega) (by rw [hb]; omega) (by omega)
 rw [hs, Int.toNat_natCast, madeCells_ic] at hr
 unfold Oper.wp execOp
 simp only [ho, hx, hy, hr, Sem.run_bind, Result.andThen_ok, Sem.run_pure]
 rw [Oper.upon_value, hd]
 exact h _ _ _ (M.new _ _) (T.put hn hf _)
end
def ListsPost (R : List (List Int)) (w : World) (e : Ending) (w' : World) : Prop := ∃ (A : Option Addr) (c : Nat) (LL : List LE) (I : List (Nat × BA)), e = .returned (.slice A LL.length c) ∧ LL.map (·.1) = R ∧ (∃ b o, ∀ (w : World) (ex : Nat → Prop), Sp w ex I A LL.length 1 b o (lc LL)) ∧ Els LL I ∧ Mem w noEx w' I
theorem rowP_length (b : Bx) (x : Snd) : (rowP b x).length = b.highs.length := by simp [rowP]
theorem take_row {b : Bx} {k : Nat} {x : Snd} (h : b.lows[k]? = some x) : (b.lows.take (k + 1)).map (rowP b) = (b.lows.take k).map (rowP b) ++ [rowP b x] := by rw [List.take_add_one, h]; simp
theorem table_any (b : Bx) (A : Option Addr) (c : Nat) (B : Option Addr) (d : Nat) (w : World) (hA : Rd w w.heap.size 4 A b.lows.length (sc b.lows)) (hB : Rd w w.heap.size 4 B b.highs.length (sc b.highs)) (gb : b.good) :
   Calls Tryz.prog 59 #[bxV b A c B d] w (ListsPost (tableP b) w) := by
 have hlA := hA.len4
 have hlB := hB.len4
 obtain ⟨bA, oA, SA⟩ := Sp.old hA
 obtain ⟨bB, oB, SB⟩ := Sp.old hB
 have gl3 := gb.law.span
 have gl4 := gb.law.press
 have gn := gb.note
 have gf := gb.law.first
 have gs := gb.law.step
 have gd := gb.due
 unfold Bx.due at gd
 dsimp only at gl3 gl4 gf gs
 have nA := gb.lows.1
 have nB := gb.highs.1
 refine Zpx noEx Tryz.func59 rfl 49 rfl [.agg #[.int .i64 b.first, .int .i64 b.step, .int .i64 b.span, .int .i64 b.press, .int .i64 b.note, .slice A b.lows.length c, .slice B b.highs.length d, .int .i64 b.t0, .int .i64 b.t1, .int .i64 b.r0, .int .i64 b.r1, .int .i64 b.u0, .int .i64 b.u1, .int .i64 b.d0, .int .i64 b.d1, .int .i64 b.a0, .int .i64 b.a1, .int .i64 b.b0, .int .i64 b.b1, .int .i64 b.le, .int .i64 b.me]] rfl rfl (Mem.init w _) ?_
 intro ac wc T M
 refine Zsr ?_
 refine Zl2 ?_
 refine Zob M T rfl rfl rfl rfl (T.e 0 rfl) rfl ?_; clear M T; intro g1 wc ac M T
 refine lq T (Zra rfl evc) ?_; clear T ac; intro ac T
 replace T := T.pick [1] rfl
 refine Zln ?_
 refine Zsr ?_
 refine lq T (Zra rfl evc) ?_; clear T ac; intro ac T
 refine Zln ?_
 refine wp_seq ?_
 refine Zsr ?_
 refine Zg4 (v1 := (.pointer (some ⟨g1, 5, none⟩))) T (Zq (Zrf (off := 5) rfl (T.e 1 rfl) (fun _ _ _ => by kernel_rfl))) rfl (Zo M 0 0 rfl rfl rfl rfl) rfl (Zl Tryz.underlying24 0 rfl rfl) rfl (fun _ T => Zq (Zrm rfl evc)) rfl ?_; clear T ac; intro ac T
 replace T := T.pick [0, 1, 2, 4, 5] rfl
 refine Zln ?_
 refine wp_block ?_
 refine wp_loop_n (fun mz ac wc => ∃ (k : Nat) (OL : List LE) (B3 : Option Addr) (c3 : Nat) (Ie Io : List (Nat × BA)), mz = b.lows.length - k ∧ (k ≤ b.lows.length) ∧ (OL.map (·.1) = (b.lows.take k).map (rowP b)) ∧ (OL.length = k) ∧ (Els OL Ie) ∧ (Sl 33 1 (.slice B3 OL.length c3) OL.length (lc OL) Io) ∧ Tm ac 49 [(1, .pointer (some ⟨g1, 0, none⟩)), (3, .slice B3 OL.length c3), (10, .slice A b.lows.length c), (11, .int .i64 ((b.lows.length : Nat) : Int)), (12, .int .i64 (k : Int))] ∧ Mem w noEx wc ((g1, .cells [.int .i64 b.first, .int .i64 b.step, .int .i64 b.span, .int .i64 b.press, .int .i64 b.note, .slice A b.lows.length c, .slice B b.highs.length d, .int .i64 b.t0, .int .i64 b.t1, .int .i64 b.r0, .int .i64 b.r1, .int .i64 b.u0, .int .i64 b.u1, .int .i64 b.d0, .int .i64 b.d1, .int .i64 b.a0, .int .i64 b.a1, .int .i64 b.b0, .int .i64 b.b1, .int .i64 b.le, .int .i64 b.me]) :: (Ie ++ Io))) ?_ ?_
 ·exact ⟨_, 0, [], none, 0, [], [], rfl, (Nat.zero_le _), rfl, rfl, (fun x hx => by cases hx), (Sl.nil _ _), T.pick [4, 3, 2, 1, 0] rfl, ((M.mask [true] rfl).as (by simp))⟩
 clear T M
 rintro mz ac wc ⟨k, OL, B3, c3, Ie, Io, hmm1, hk, hO, hOl, hE, hsl, T, M⟩
 refine Zsr ?_
 refine lq T (rn_lss rfl (T.e 4 rfl) (T.e 3 rfl)) ?_; clear T ac; intro ac T
 refine Zln ?_
 refine wp_seq ?_
 refine wp_if (T.e 0 rfl) ?_ ?_
 ·intro h1
  obtain ⟨x, hkx, -⟩ := sc_next (l := b.lows) (k := k) (by omega)
  have gx := gb.lows.2 x (List.mem_of_getElem? hkx)
  refine Zsk ?_
  refine wp_seq ?_
  refine wp_block ?_
  refine Zsr ?_
  refine Zg2 (v2 := (.agg #[.int .i64 x.t0, .int .i64 x.t1, .int .i64 x.s0, .int .i64 x.s1])) T (Zq (Zri (size := 4) k rfl (T.e 3 rfl) (T.e 5 rfl) ⟨_, Tryz.underlying24, by kernel_rfl⟩ rfl (by omega) (SA.at0 (by omega)))) rfl (fun _ T => Zq (rn_rowat (Sp.scR4 SA M (Zz9 _) hkx) rfl (T.e 0 rfl) rfl)) rfl ?_; clear T ac; intro ac T
  refine Zl2 ?_
  refine Zoa M T rfl rfl rfl rfl ?_; clear M T; intro g2 wc ac M T
  refine Zl2 ?_
  refine Zos M T rfl rfl (T.e 0 rfl) (T.e 1 rfl) rfl .head rfl (by simp) rfl (by kernel_rfl) ?_; clear M T; intro wc ac M T
  replace T := T.pick [0, 4, 5, 6, 7, 8] rfl
  refine Zln ?_
  refine Zsr ?_
  refine Zg3 (v1 := (.pointer (some ⟨g1, 6, none⟩))) T (Zq (Zrf (off := 6) rfl (T.e 1 rfl) (fun _ _ _ => by kernel_rfl))) rfl (Zo M 1 0 rfl rfl rfl rfl) rfl (Zl Tryz.underlying24 0 rfl rfl) rfl ?_; clear T ac; intro ac T
  refine Zl2 ?_
  refine ow_ms (m := b.highs.length) M T rfl rfl rfl rfl (T.e 0 rfl) (T.e 0 rfl) Tryz.underlying33 Tryz.info3 (by omega) ?_; clear M T; intro g3 wc ac M T
  obtain ⟨lm1, hlm1⟩ : ∃ q : List Int, q = List.replicate b.highs.length 0 := ⟨_, rfl⟩
  have llm1 : lm1.length = b.highs.length := by rw [hlm1, List.length_replicate]
  rw [← hlm1] at M
  have Ss1 := Sp.pre (w := w) (ex := noEx) (size := 1) (n := lm1.length) (g := g3) (xs := ic lm1) (ys := []) (by simp [ic_length])
  refine lq T (Zra rfl (T.e 0 rfl)) ?_; clear T ac; intro ac T
  replace T := T.pick [0, 5, 6, 7, 8, 9, 10] rfl
  refine Zln ?_
  refine wp_seq ?_
  refine Zsr ?_
  refine Zg4 (v1 := (.pointer (some ⟨g1, 6, none⟩))) T (Zq (Zrf (off := 6) rfl (T.e 2 rfl) (fun _ _ _ => by kernel_rfl))) rfl (Zo M 2 0 rfl rfl rfl rfl) rfl (Zl Tryz.underlying24 0 rfl rfl) rfl (fun _ T => Zq (Zrm rfl evc)) rfl ?_; clear T ac; intro ac T
  replace T := T.pick [0, 1, 2, 4, 5, 6, 7, 8, 9, 10] rfl
  refine Zln ?_
  refine wp_block ?_
  refine wp_loop_n (fun mz ac wc => ∃ (iq : Nat) (rw : List Int), mz = b.highs.length - iq ∧ (iq ≤ b.highs.length) ∧ (rw.length = b.highs.length) ∧ (rw.take iq = (rowP b x).take iq) ∧ Tm ac 49 [(1, .pointer (some ⟨g1, 0, none⟩)), (3, .slice B3 OL.length c3), (5, .pointer (some ⟨g2, 0, none⟩)), (6, .slice (some ⟨g3, 0, none⟩) b.highs.length b.highs.length), (10, .slice A b.lows.length c), (11, .int .i64 ((b.lows.length : Nat) : Int)), (12, .int .i64 (k : Int)), (21, .slice B b.highs.length d), (22, .int .i64 ((b.highs.length : Nat) : Int)), (23, .int .i64 (iq : Int))] ∧ Mem w noEx wc ((g3, .cells (ic rw ++ [])) :: (g2, .cells [.int .i64 x.t0, .int .i64 x.t1, .int .i64 x.s0, .int .i64 x.s1]) :: (g1, .cells [.int .i64 b.first, .int .i64 b.step, .int .i64 b.span, .int .i64 b.press, .int .i64 b.note, .slice A b.lows.length c, .slice B b.highs.length d, .int .i64 b.t0, .int .i64 b.t1, .int .i64 b.r0, .int .i64 b.r1, .int .i64 b.u0, .int .i64 b.u1, .int .i64 b.d0, .int .i64 b.d1, .int .i64 b.a0, .int .i64 b.a1, .int .i64 b.b0, .int .i64 b.b1, .int .i64 b.le, .int .i64 b.me]) :: (Ie ++ Io))) ?_ ?_
  ·exact ⟨_, 0, lm1, rfl, (Nat.zero_le _), llm1, rfl, T.pick [5, 6, 4, 3, 7, 8, 9, 2, 1, 0] rfl, M.mask [true, true, true] rfl⟩
  clear T M
  rintro mz ac wc ⟨iq, rw, hmm2, hq, hrl, hrw, T, M⟩
  refine Zsr ?_
  refine lq T (rn_lss rfl (T.e 9 rfl) (T.e 8 rfl)) ?_; clear T ac; intro ac T
  refine Zln ?_
  refine wp_seq ?_
  refine wp_if (T.e 0 rfl) ?_ ?_
  ·intro h2
   obtain ⟨y, hky, -⟩ := sc_next (l := b.highs) (k := iq) (by omega)
   have gy := gb.highs.2 y (List.mem_of_getElem? hky)
   have Srw := Sp.pre (w := w) (ex := noEx) (size := 1) (n := rw.length) (g := g3) (xs := ic rw) (ys := []) (by simp [ic_length])
   refine Zsk ?_
   refine wp_seq ?_
   refine wp_block ?_
   refine Zsr ?_
   refine Zg3 (v3 := (.agg #[.int .i64 y.t0, .int .i64 y.t1, .int .i64 y.s0, .int .i64 y.s1])) T (Zq (Zrm rfl (T.e 10 rfl))) rfl (fun _ T => Zq (Zri (size := 4) iq rfl (T.e 9 rfl) (T.e 11 rfl) ⟨_, Tryz.underlying24, by kernel_rfl⟩ rfl (by omega) (SB.at0 (by omega)))) rfl (fun _ T => Zq (rn_rowat (Sp.scR4 SB M (Zz9 _) hky) rfl (T.e 0 rfl) rfl)) rfl ?_; clear T ac; intro ac T
   refine Zl2 ?_
   refine Zoa M T rfl rfl rfl rfl ?_; clear M T; intro g4 wc ac M T
   refine lq T (Zra rfl (T.e 3 rfl)) ?_; clear T ac; intro ac T
   refine Zl2 ?_
   refine Zos M T rfl rfl (T.e 1 rfl) (T.e 2 rfl) rfl .head rfl (by simp) rfl (by kernel_rfl) ?_; clear M T; intro wc ac M T
   replace T := T.pick [0, 1, 6, 7, 8, 9, 10, 11, 12, 13, 14, 15] rfl
   refine Zln ?_
   refine Zgs M (M.mask [false, false, false, false] rfl) 15 (by kernel_rfl) rfl (by kernel_rfl) ?_
   clear M; intro wc M
   refine g_addG 14 M ?_
   refine g_have (fun ac wc => ∃ (gr9_11 : Nat), Tm ac 49 [(39, .slice (some ⟨gr9_11, 0, none⟩) 2 2), (36, .int .i64 (b.first + b.step * b.note)), (38, .agg #[.int .i64 y.t0, .int .i64 y.t1, .int .i64 y.s0, .int .i64 y.s1]), (37, .agg #[.int .i64 x.t0, .int .i64 x.t1, .int .i64 x.s0, .int .i64 x.s1]), (35, .int .i64 b.note), (34, .pointer (some ⟨g1, 4, none⟩)), (33, .agg #[.int .i64 b.first, .int .i64 b.step, .int .i64 b.span, .int .i64 b.press]), (32, .pointer (some ⟨g1, 0, none⟩)), (31, .agg #[.int .i64 b.first, .int .i64 b.step, .int .i64 b.span, .int .i64 b.press]), (30, .pointer (some ⟨g1, 0, none⟩)), (29, .int .i64 (iq : Int)), (28, .slice (some ⟨g3, 0, none⟩) b.highs.length b.highs.length), (7, .int .i64 (iq : Int)), (8, .pointer (some ⟨g4, 0, none⟩)), (1, .pointer (some ⟨g1, 0, none⟩)), (3, .slice B3 OL.length c3), (5, .pointer (some ⟨g2, 0, none⟩)), (6, .slice (some ⟨g3, 0, none⟩) b.highs.length b.highs.length), (10, .slice A b.lows.length c), (11, .int .i64 ((b.lows.length : Nat) : Int)), (12, .int .i64 (k : Int)), (21, .slice B b.highs.length d), (22, .int .i64 ((b.highs.length : Nat) : Int)), (23, .int .i64 (iq : Int))] ∧ Mem w noEx wc ((gr9_11, .cells [.int .i64 x.t0, .int .i64 x.t1, .int .i64 x.s0, .int .i64 x.s1, .int .i64 y.t0, .int .i64 y.t1, .int .i64 y.s0, .int .i64 y.s1]) :: (g4, .cells [.int .i64 y.t0, .int .i64 y.t1, .int .i64 y.s0, .int .i64 y.s1]) :: (g3, .cells (ic rw ++ [])) :: (g2, .cells [.int .i64 x.t0, .int .i64 x.t1, .int .i64 x.s0, .int .i64 x.s1]) :: (g1, .cells [.int .i64 b.first, .int .i64 b.step, .int .i64 b.span, .int .i64 b.press, .int .i64 b.note, .slice A b.lows.length c, .slice B b.highs.length d, .int .i64 b.t0, .int .i64 b.t1, .int .i64 b.r0, .int .i64 b.r1, .int .i64 b.u0, .int .i64 b.u1, .int .i64 b.d0, .int .i64 b.d1, .int .i64 b.a0, .int .i64 b.a1, .int .i64 b.b0, .int .i64 b.b1, .int .i64 b.le, .int .i64 b.me]) :: (Ie ++ Io))) (Zpb 15 4095) 3 ?_ ?_
   ·clear T M
    rintro ac wc ⟨gr9_11, T, M⟩
    refine gw 12 8191 ?_; intro K hK
    refine Zoc (first := []) (cap := []) T rfl rfl rfl rfl evf (.cons (T.e 8 rfl) (.cons (T.e 1 rfl) (.cons (T.e 0 rfl) .nil))) Tryz.func80 rfl rfl ?_
    refine Calls.mono (keeps_any b.law (b.first + b.step * b.note) _ _ _ [x, y] _ (by (try dsimp only); omega) (by (try dsimp only); omega) (by (try dsimp only); omega) (by intro z hz; simp only [List.mem_cons, List.not_mem_nil, or_false] at hz; rcases hz with rfl | rfl; exact gx; exact gy) (M.rdOwn (Zne (i := 0) rfl) rfl rfl) (by first | omega | (simp only [List.length_cons, List.length_nil]; omega))) ?_
    clear T; rintro e wc ⟨rfl, hb⟩ ac T
    replace M := M.call hb; clear hb
    refine Zso hK _ _ (MA.mk (fun _ => M.mask [false, true, true, true, true] rfl) (M.mask [false, false, false, false, false] rfl)) ?_; clear hK K
    refine gq T 13 16383 rfl (fun _ _ _ _ _ => (Zri (size := 1) iq rfl (T.e 12 rfl) (T.e 11 rfl) ⟨_, Tryz.underlying33, by kernel_rfl⟩ rfl (by omega) rfl)) ?_; clear T ac; intro ac T
    refine gw 14 32767 ?_; intro K hK
    refine ow_stI M T rfl rfl (T.e 0 rfl) (T.e 1 rfl) (.tail (.tail .head)) (by omega) rfl ?_; clear M T; intro wc ac M T
    obtain ⟨lo1, hlo1⟩ : ∃ q, q = rw.set iq (keepsP b.law (b.first + b.step * b.note) [x, y]) := ⟨_, rfl⟩
    have lhlo1 : rw.length = lo1.length := by rw [hlo1, List.length_set]
    rw [← hlo1] at M; (try rw [lhlo1] at M); (try rw [lhlo1] at T)
    have Ss2 := Sp.pre (w := w) (ex := noEx) (size := 1) (n := lo1.length) (g := g3) (xs := ic lo1) (ys := []) (by simp [ic_length])
    refine Zso hK _ _ (MA.mk (fun h => (no_of (by kernel_rfl) h).elim) (M.mask [false, false, false, false, false] rfl)) ?_; clear hK K
    refine Zgd (by kernel_rfl) ?_
    replace T := T.pick [16, 17, 18, 19, 20, 21, 22, 23, 24, 25] rfl
    replace M := M.mask [false, false, true, true, true] rfl
    refine Znb ?_
    refine nm_then ?_
    refine wp_region_lit ?_
    refine lq T (rn_add rfl (T.e 9 rfl) evc (by omega)) ?_; clear T ac; intro ac T
    refine l_q (v := (.int .i64 ((iq : Int) + 1))) (T.pick [0, 1, 2, 3, 4, 5, 6, 7, 8, 9] rfl) rfl rfl rfl rfl (Zrm rfl (T.e 0 rfl)) ?_; clear T ac; intro ac T
    replace T := T.pick [0, 2, 3, 4, 5, 6, 7, 8, 9, 10] rfl
    refine Zln ?_
    exact ⟨_, by omega, iq + 1, lo1, rfl, (by omega), (by omega), (by rw [hlo1]; exact take_set hrw (by unfold rowP; rw [List.getElem?_map, hky]; rfl) (by omega)), T.pick [1, 2, 3, 4, 5, 6, 7, 8, 9, 0] rfl, M.mask [true, true, true] rfl⟩
   intro H0
   refine gq T 0 1 rfl (fun _ _ _ _ _ => (Zrm rfl (T.e 5 rfl))) ?_; clear T ac; intro ac T
   refine gq T 1 3 rfl (fun _ _ _ _ _ => (Zrm rfl (T.e 1 rfl))) ?_; clear T ac; intro ac T
   refine gq (v := (.pointer (some ⟨g1, 0, none⟩))) T 2 7 rfl (fun _ _ _ _ _ => (Zrf (off := 0) rfl (T.e 4 rfl) (fun _ _ _ => by kernel_rfl))) ?_; clear T ac; intro ac T
   refine gq T 3 15 rfl (fun B w' hD hl hS => (Zrr (Mem.nth (show Mem w noEx w' _ from ((MA.lft hS) (hD.wait (i := 3) (m := 14) (by kernel_rfl) hl))) 3 rfl) rfl (T.e 0 rfl) rfl)) ?_; clear T ac; intro ac T
   refine gq (v := (.pointer (some ⟨g1, 0, none⟩))) T 4 31 rfl (fun _ _ _ _ _ => (Zrf (off := 0) rfl (T.e 6 rfl) (fun _ _ _ => by kernel_rfl))) ?_; clear T ac; intro ac T
   refine gq T 5 63 rfl (fun B w' hD hl hS => (Zrr (Mem.nth (show Mem w noEx w' _ from ((MA.lft hS) (hD.wait (i := 5) (m := 14) (by kernel_rfl) hl))) 3 rfl) rfl (T.e 0 rfl) rfl)) ?_; clear T ac; intro ac T
   refine gq (v := (.pointer (some ⟨g1, 4, none⟩))) T 6 127 rfl (fun _ _ _ _ _ => (Zrf (off := 4) rfl (T.e 8 rfl) (fun _ _ _ => by kernel_rfl))) ?_; clear T ac; intro ac T
   refine gq T 7 255 rfl (fun B w' hD hl hS => (Zro (Mem.nth (show Mem w noEx w' _ from ((MA.lft hS) (hD.wait (i := 7) (m := 14) (by kernel_rfl) hl))) 3 rfl) rfl (T.e 0 rfl) rfl)) ?_; clear T ac; intro ac T
   refine gq T 9 767 rfl (fun B w' hD hl hS => (Zrr (Mem.nth (show Mem w noEx w' _ from ((MA.lft hS) (hD.wait (i := 9) (m := 14) (by kernel_rfl) hl))) 2 rfl) rfl (T.e 12 rfl) rfl)) ?_; clear T ac; intro ac T
   refine gq T 10 1791 rfl (fun B w' hD hl hS => (Zrr (Mem.nth (show Mem w noEx w' _ from ((MA.lft hS) (hD.wait (i := 10) (m := 14) (by kernel_rfl) hl))) 0 rfl) rfl (T.e 10 rfl) rfl)) ?_; clear T ac; intro ac T
   refine g_m2 (i := 8) (j := 11) (by kernel_rfl) ?_ ?_
   ·refine gi 2047 ?_; intro K hK
    refine Zoc (first := []) (cap := []) T rfl rfl rfl rfl evf (.cons (T.e 4 rfl) (.cons (T.e 2 rfl) .nil)) Tryz.func71 rfl rfl ?_
    refine Calls.mono (vdue_any b.law b.note _ (by (try dsimp only); omega) (by (try dsimp only); omega) (by (try dsimp only); omega)) ?_
    clear T; rintro e wc ⟨rfl, hb⟩ ac T
    replace M := M.call hb; clear hb
    refine Zso hK _ _ (MA.mk (fun _ => M.mask [true, true, true, true] rfl) (M.mask [false, false, false, false] rfl)) ?_; clear hK K
    refine gw 11 4095 ?_; intro K hK
    refine ow_bs (e := 32) [.int .i64 x.t0, .int .i64 x.t1, .int .i64 x.s0, .int .i64 x.s1, .int .i64 y.t0, .int .i64 y.t1, .int .i64 y.s0, .int .i64 y.s1] M T rfl rfl rfl rfl (.cons (T.e 2 rfl) (.cons (T.e 1 rfl) .nil)) (fun _ => by kernel_rfl) ?_; clear M T; intro gr9_11 wc ac M T
    refine Zso hK _ _ (MA.mk (fun _ => M.mask [false, true, true, true, true] rfl) (M.mask [false, false, false, false, false] rfl)) ?_; clear hK K
    exact H0 _ _ ⟨gr9_11, T, M⟩
   refine gi 3839 ?_; intro K hK
   refine ow_bs (e := 32) [.int .i64 x.t0, .int .i64 x.t1, .int .i64 x.s0, .int .i64 x.s1, .int .i64 y.t0, .int .i64 y.t1, .int .i64 y.s0, .int .i64 y.s1] M T rfl rfl rfl rfl (.cons (T.e 1 rfl) (.cons (T.e 0 rfl) .nil)) (fun _ => by kernel_rfl) ?_; clear M T; intro gr9_11 wc ac M T
   refine Zso hK _ _ (MA.mk (fun _ => M.mask [false, true, true, true, true] rfl) (M.mask [false, false, false, false, false] rfl)) ?_; clear hK K
   refine gw 8 4095 ?_; intro K hK
   refine Zoc (first := []) (cap := []) T rfl rfl rfl rfl evf (.cons (T.e 5 rfl) (.cons (T.e 3 rfl) .nil)) Tryz.func71 rfl rfl ?_
   refine Calls.mono (vdue_any b.law b.note _ (by (try dsimp only); omega) (by (try dsimp only); omega) (by (try dsimp only); omega)) ?_
   clear T; rintro e wc ⟨rfl, hb⟩ ac T
   replace M := M.call hb; clear hb
   refine Zso hK _ _ (MA.mk (fun _ => M.mask [false, true, true, true, true] rfl) (M.mask [false, false, false, false, false] rfl)) ?_; clear hK K
   exact H0 _ _ ⟨gr9_11, T.pick [1, 0, 2, 3, 4, 5, 6, 7, 8, 9, 10, 11, 12, 13, 14, 15, 16, 17, 18, 19, 20, 21, 22, 23] rfl, M⟩
  intro h2
  have hrow : rw = rowP b x := by rw [List.take_of_length_le (by omega), List.take_of_length_le (by rw [rowP_length]; omega)] at hrw; exact hrw
  refine wp_exit ?_
  refine Zet ?_
  refine Zet ?_
  refine ex_hit ?_
  refine nm_then ?_
  refine wp_region_lit ?_
  refine Zg2 T (Zq (Zrm rfl (T.e 2 rfl))) rfl (Zm 5 rfl rfl) rfl ?_; clear T ac; intro ac T
  refine Zl2 ?_
  refine ow_bs (e := 33) [.slice (some ⟨g3, 0, none⟩) b.highs.length b.highs.length] M T rfl rfl rfl rfl (.cons (T.e 0 rfl) .nil) (fun _ => by kernel_rfl) ?_; clear M T; intro g5 wc ac M T
  refine Zl2 ?_
  refine ow_app (((g5, .cells [.slice (some ⟨g3, 0, none⟩) b.highs.length b.highs.length]) :: (g3, .cells (ic rw ++ [])) :: (g2, .cells [.int .i64 x.t0, .int .i64 x.t1, .int .i64 x.s0, .int .i64 x.s1]) :: (g1, .cells [.int .i64 b.first, .int .i64 b.step, .int .i64 b.span, .int .i64 b.press, .int .i64 b.note, .slice A b.lows.length c, .slice B b.highs.length d, .int .i64 b.t0, .int .i64 b.t1, .int .i64 b.r0, .int .i64 b.r1, .int .i64 b.u0, .int .i64 b.u1, .int .i64 b.d0, .int .i64 b.d1, .int .i64 b.a0, .int .i64 b.a1, .int .i64 b.b0, .int .i64 b.b1, .int .i64 b.le, .int .i64 b.me]) :: Ie)) Tryz.info33 hsl M (by first | rfl | simp) T rfl rfl rfl rfl Tryz.underlying55 rfl rfl rfl (by omega) (T.e 2 rfl) (T.e 0 rfl) (Zne (i := 0) rfl) rfl rfl ?_; clear M T; intro ga1 cga1 wc ac M T
  refine l_q (v := (.slice (some ⟨ga1, 0, none⟩) (OL.length + 1) cga1)) (T.pick [0, 1, 2, 3, 4, 5, 7, 8, 9, 10, 11, 12, 13, 14] rfl) rfl rfl rfl rfl (Zra rfl (T.e 0 rfl)) ?_; clear T ac; intro ac T
  refine wpList_nil ?_
  replace T := T.pick [0, 6, 9, 10, 11] rfl
  replace M := M.mask [true, false, true, false, true] rfl
  refine Znb ?_
  refine nm_then ?_
  refine wp_region_lit ?_
  refine lq T (rn_add rfl (T.e 4 rfl) evc (by omega)) ?_; clear T ac; intro ac T
  refine l_q (v := (.int .i64 ((k : Int) + 1))) (T.pick [0, 1, 2, 3, 4] rfl) rfl rfl rfl rfl (Zrm rfl (T.e 0 rfl)) ?_; clear T ac; intro ac T
  replace T := T.pick [0, 2, 3, 4, 5] rfl
  refine Zln ?_
  have e9 : OL.length + 1 = (OL ++ [(rw, (some ⟨g3, 0, none⟩ : Option Addr), b.highs.length)]).length := by simp
  have e8 : ((lc OL) ++ [.slice (some ⟨g3, 0, none⟩) b.highs.length b.highs.length]) = lc (OL ++ [(rw, (some ⟨g3, 0, none⟩ : Option Addr), b.highs.length)]) := by rw [← lc_snoc, hrl]
  rw [e9, e8] at M
  rw [e9] at T
  clear e9 e8
  exact ⟨_, by omega, k + 1, (OL ++ [(rw, (some ⟨g3, 0, none⟩ : Option Addr), b.highs.length)]), _, _, (Ie ++ [(g3, .cells (ic rw ++ []))]), [(ga1, .row 33 1 (OL ++ [(rw, (some ⟨g3, 0, none⟩ : Option Addr), b.highs.length)]).length (lc (OL ++ [(rw, (some ⟨g3, 0, none⟩ : Option Addr), b.highs.length)])) cga1)], rfl, (by omega), (by rw [take_row hkx, List.map_append, hO, hrow]; rfl), (by simp [hOl]), (hE.snoc _ _ _ _), (Sl.row _ _ _ _ _ _), T.pick [2, 1, 3, 4, 0] rfl, ((Mem.swapI (I := [(g3, .cells (ic rw ++ [])), (ga1, .row 33 1 (OL ++ [(rw, (some ⟨g3, 0, none⟩ : Option Addr), b.highs.length)]).length (lc (OL ++ [(rw, (some ⟨g3, 0, none⟩ : Option Addr), b.highs.length)])) cga1)]) (L := [(g1, .cells [.int .i64 b.first, .int .i64 b.step, .int .i64 b.span, .int .i64 b.press, .int .i64 b.note, .slice A b.lows.length c, .slice B b.highs.length d, .int .i64 b.t0, .int .i64 b.t1, .int .i64 b.r0, .int .i64 b.r1, .int .i64 b.u0, .int .i64 b.u1, .int .i64 b.d0, .int .i64 b.d1, .int .i64 b.a0, .int .i64 b.a1, .int .i64 b.b0, .int .i64 b.b1, .int .i64 b.le, .int .i64 b.me])] ++ Ie) (M.permT [1, 0, 2] 3 rfl rfl rfl rfl)).as (by simp))⟩
 intro h1
 refine wp_exit ?_
 refine Zet ?_
 refine Zet ?_
 refine ex_hit ?_
 refine nm_then ?_
 refine Zsr ?_
 refine Zg2 T (Zq (Zrm rfl (T.e 2 rfl))) rfl (Za 0 rfl rfl) rfl ?_; clear T ac; intro ac T
 refine wpList_nil ?_
 replace T := T.pick [0] rfl
 replace M := M.mask [false] rfl
 refine Znr ?_
 refine rt_1 T rfl (T.e 0 rfl) ?_
 obtain ⟨b9, o9, h9⟩ := hsl.spV (by simp [lc_length])
 exact ⟨B3, c3, OL, Ie ++ Io, rfl, by rw [hO, List.take_of_length_le (by omega)]; rfl, ⟨b9, o9, fun w ex => (h9 w ex).mono (Zsq _ _)⟩, hE.mono (Zsl _ _), M.mask [] rfl⟩
def difL (lo hi : Snd) : List (Int × Int) := allL (hi.t0 - lo.t1) (hi.t1 - lo.t0) (hi.s0 - lo.s1) (hi.s1 - lo.s0)
def keeps8 (l : Lw) (due : Int) (lo hi : Snd) : Int := if ((difL lo hi).filter fun z => agreeP l due z.1 z.2).length = (difL lo hi).length then 1 else if ((difL lo hi).filter fun z => agreeP l due z.1 z.2).length = 0 then 2 else 3
theorem mem_difL {lo hi : Snd} {z : Int × Int} : z ∈ difL lo hi ↔ (hi.t0 - lo.t1 ≤ z.1 ∧ z.1 ≤ hi.t1 - lo.t0) ∧ hi.s0 - lo.s1 ≤ z.2 ∧ z.2 ≤ hi.s1 - lo.s0 := mem_allL
theorem agree_iff {l : Lw} {due b s : Int} : agreeP l due b s = true ↔ ∀ p : Int, 0 ≤ p → p ≤ l.press → -l.span ≤ b + p * s - due ∧ b + p * s - due ≤ l.span := by
 unfold agreeP
 rw [List.all_eq_true]
 constructor
 ·intro h p h0 h1
  have := h p.toNat (List.mem_range.2 (by omega))
  simp only [withinB, decide_eq_true_eq] at this
  rw [Int.toNat_of_nonneg h0] at this
  exact this
 ·intro h p hp
  have hp := List.mem_range.1 hp
  simp only [withinB, decide_eq_true_eq]
  exact h p (by omega) (by omega)
theorem offL_le8 {due m : Int} : ∀ (r : List (Int × Int)) (n : Int), offL due r n ≤ m ↔ n ≤ m ∧ ∀ x ∈ r, due - x.1 ≤ m ∧ x.2 - due ≤ m
 | [], n => by simp [offL]
 | x :: r, n => by
  rw [offL, offL_le8 r]
  simp only [List.forall_mem_cons]
  constructor
  ·rintro ⟨h1, h2⟩; exact ⟨by omega, ⟨by omega, by omega⟩, h2⟩
  ·rintro ⟨h1, ⟨h2, h3⟩, h4⟩; exact ⟨by omega, h4⟩
theorem off_all {l : Lw} {due : Int} {lo hi : Snd} (hs : 0 ≤ l.span) (gl : lo.t0 ≤ lo.t1 ∧ lo.s0 ≤ lo.s1) (gh : hi.t0 ≤ hi.t1 ∧ hi.s0 ≤ hi.s1) : offP l due lo hi ≤ l.span ↔ ∀ z ∈ difL lo hi, agreeP l due z.1 z.2 = true := by
 unfold offP
 rw [offL_le8]
 constructor
 ·rintro ⟨-, h⟩ z hz
  obtain ⟨⟨a1, a2⟩, a3, a4⟩ := mem_difL.1 hz
  refine agree_iff.2 fun p h0 h1 => ?_
  obtain ⟨b1, b2⟩ := h _ (beatsL_mem.2 ⟨p, h0, h1, rfl⟩)
  dsimp only [beatP, riseP] at b1 b2
  have m1 := Int.mul_le_mul_of_nonneg_left a3 h0
  have m2 := Int.mul_le_mul_of_nonneg_left a4 h0
  rw [Int.mul_sub] at m1 m2
  omega
 ·intro h
  refine ⟨hs, fun x hx => ?_⟩
  obtain ⟨p, h0, h1, rfl⟩ := beatsL_mem.1 hx
  have c1 := agree_iff.1 (h (hi.t0 - lo.t1, hi.s0 - lo.s1) (mem_difL.2 (by dsimp only; omega))) p h0 h1
  have c2 := agree_iff.1 (h (hi.t1 - lo.t0, hi.s1 - lo.s0) (mem_difL.2 (by dsimp only; omega))) p h0 h1
  dsimp only [beatP, riseP] at c1 c2 ⊢
  rw [Int.mul_sub] at c1 c2
  omega
theorem now_ex {l : Lw} {due : Int} {lo hi : Snd} (gl : lo.t0 ≤ lo.t1 ∧ lo.s0 ≤ lo.s1) (gh : hi.t0 ≤ hi.t1 ∧ hi.s0 ≤ hi.s1) : nowL l due [lo, hi] ≠ [] ↔ ∃ z ∈ difL lo hi, agreeP l due z.1 z.2 = true := by
 show stepN l due (allOf lo) hi ≠ [] ↔ _
 unfold stepN allOf
 constructor
 ·intro h
  obtain ⟨y, hy⟩ := List.exists_mem_of_ne_nil _ h
  obtain ⟨hy, hx⟩ := List.mem_filter.1 hy
  obtain ⟨x, hx, ha⟩ := List.any_eq_true.1 hx
  have h1 := mem_allL.1 hy
  have h2 := mem_allL.1 hx
  exact ⟨(y.1 - x.1, y.2 - x.2), mem_difL.2 (by dsimp only; omega), ha⟩
 ·rintro ⟨z, hz, ha⟩ h
  have hz := mem_difL.1 hz
  have split : ∀ d a b c e : Int, a ≤ b → c ≤ e → a - e ≤ d → d ≤ b - c → ∃ y x, d = y - x ∧ (a ≤ y ∧ y ≤ b) ∧ c ≤ x ∧ x ≤ e := fun d a b c e h1 h2 h3 h4 => by
   by_cases hk : a - c ≤ d
   ·exact ⟨d + c, c, by omega, by omega, by omega⟩
   ·exact ⟨a, a - d, by omega, by omega, by omega⟩
  obtain ⟨y1, x1, e1, f1, f2⟩ := split z.1 hi.t0 hi.t1 lo.t0 lo.t1 gh.1 gl.1 hz.1.1 hz.1.2
  obtain ⟨y2, x2, e2, f3, f4⟩ := split z.2 hi.s0 hi.s1 lo.s0 lo.s1 gh.2 gl.2 hz.2.1 hz.2.2
  have hm : (y1, y2) ∈ (allL hi.t0 hi.t1 hi.s0 hi.s1).filter fun y => (allL lo.t0 lo.t1 lo.s0 lo.s1).any fun x => agreeP l due (y.1 - x.1) (y.2 - x.2) :=
   List.mem_filter.2 ⟨mem_allL.2 ⟨f1, f3⟩, List.any_eq_true.2 ⟨(x1, x2), mem_allL.2 ⟨f2, f4⟩, by dsimp only; rw [← e1, ← e2]; exact ha⟩⟩
  rw [h] at hm
  cases hm
theorem keeps8_eq {l : Lw} {due : Int} {lo hi : Snd} (hs : 0 ≤ l.span) (gl : lo.t0 ≤ lo.t1 ∧ lo.s0 ≤ lo.s1) (gh : hi.t0 ≤ hi.t1 ∧ hi.s0 ≤ hi.s1) : keeps8 l due lo hi = keepsP l due [lo, hi] := by
 have h1 := off_all (due := due) hs gl gh
 have h2 := now_ex (l := l) (due := due) gl gh
 have e1 : ((difL lo hi).filter fun z => agreeP l due z.1 z.2).length = (difL lo hi).length ↔ surelyL l due [lo, hi] = true := by
  rw [List.length_filter_eq_length_iff]
  show _ ↔ (decide (offP l due lo hi ≤ l.span) && true) = true
  rw [Bool.and_true, decide_eq_true_eq, h1]
 have e2 : ((difL lo hi).filter fun z => agreeP l due z.1 z.2).length = 0 ↔ (nowL l due [lo, hi]).isEmpty = true := by
  rw [List.isEmpty_iff, List.length_eq_zero_iff, List.filter_eq_nil_iff]
  constructor
  ·intro h
   refine Classical.byContradiction fun h3 => ?_
   obtain ⟨z, hz, ha⟩ := h2.1 h3
   exact h z hz ha
  ·intro h z hz ha
   exact h2.2 ⟨z, hz, ha⟩ h
 unfold keeps8 keepsP
 by_cases c1 : surelyL l due [lo, hi] = true
 ·rw [if_pos c1, if_pos (e1.2 c1)]
 ·rw [if_neg c1, if_neg fun h => c1 (e1.1 h)]
  by_cases c2 : (nowL l due [lo, hi]).isEmpty = true
  ·rw [if_pos c2, if_pos (e2.2 c2)]
  ·rw [if_neg c2, if_neg fun h => c2 (e2.1 h)]
def cntA (l : Lw) (due : Int) (L : List (Int × Int)) : Nat := (L.filter fun z => agreeP l due z.1 z.2).length
theorem cntA_snoc {l : Lw} {due : Int} {L : List (Int × Int)} {a r : Int} : cntA l due (L ++ [(a, r)]) = cntA l due L + (if agreeP l due a r = true then 1 else 0) := by
 unfold cntA
 rw [List.filter_append, List.length_append, List.filter_cons]
 split <;> rfl
theorem keeps8_cnt {l : Lw} {due : Int} {lo hi : Snd} : keeps8 l due lo hi = if cntA l due (difL lo hi) = (difL lo hi).length then 1 else if cntA l due (difL lo hi) = 0 then 2 else 3 := rfl
theorem agree_next {l : Lw} {due b s : Int} {k : Nat} (hk : (k : Int) ≤ l.press) : ((List.range (k + 1)).all fun (p : Nat) => withinB (b + (p : Int) * s - due) (-l.span) l.span) = (((List.range k).all fun (p : Nat) => withinB (b + (p : Int) * s - due) (-l.span) l.span) && withinB (b + (k : Int) * s - due) (-l.span) l.span) := by
 rw [List.range_succ, List.all_append, List.all_cons, List.all_nil, Bool.and_true]
theorem among5_any (n lo hi : Int) (w : World)  :
   Calls Tryz.prog 73 #[.int .i64 n, .int .i64 lo, .int .i64 hi] w fun e w' => e = .returned (.bool (withinB n lo hi)) ∧ Below w.heap.size w w' := by
 refine Zpx noEx Tryz.func73 rfl 15 rfl [.int .i64 n, .int .i64 lo, .int .i64 hi] rfl rfl (Mem.init w _) ?_
 intro ac wc T M
 refine Zsr ?_
 refine lq T (Zra rfl evc) ?_; clear T ac; intro ac T
 replace T := T.pick [1, 2, 3] rfl
 refine Zln ?_
 refine cut_seq (fun ac wc => Tm ac 15 [(6, .bool ((decide (lo ≤ n)) && (decide (n ≤ hi))))] ∧ Mem w noEx wc []) ?_ ?_
 ·refine wp_region_lit ?_
  refine Zg4 T (Zq (Zrm rfl (T.e 0 rfl))) rfl (Zm 2 rfl rfl) rfl (fun _ T => Zq (rn_geq rfl (T.e 1 rfl) (T.e 0 rfl))) rfl (Zm 0 rfl rfl) rfl ?_; clear T ac; intro ac T
  rcases Bool.eq_false_or_eq_true (decide (lo ≤ n)) with h1 | h1
  ·replace h1 := of_decide_eq_true h1
   refine Zg5 T (Zw (Zwy rfl rfl (T.e 0 rfl) (Zdt h1)) (Zrm rfl (T.e 4 rfl))) rfl (fun _ T => Zw (Zwy rfl rfl (T.e 1 rfl) (Zdt h1)) (Zrm rfl (T.e 7 rfl))) rfl (fun _ T => Zw (Zwy rfl rfl (T.e 2 rfl) (Zdt h1)) (rn_leq rfl (T.e 1 rfl) (T.e 0 rfl))) rfl (fun _ T => Zq (Zr1 rfl (T.e 3 rfl) (Zdt h1) (T.e 0 rfl))) rfl (Za 0 rfl rfl) rfl ?_; clear T ac; intro ac T
   refine wpList_nil ?_
   replace T := T.pick [0] rfl
   exact ⟨(T.pick (E' := [(6, .bool (decide (n ≤ hi)))]) [0] rfl).as (by (try rw [show (decide (lo ≤ n)) = true from (Zdt h1)]); (try rfl)), M.mask [] rfl⟩
  replace h1 := of_decide_eq_false h1
  refine Zg5 T (Zp (Zwn rfl rfl (T.e 0 rfl) (Zdf h1))) rfl (fun _ T => Zp (Zwn rfl rfl (T.e 1 rfl) (Zdf h1))) rfl (fun _ T => Zp (Zwn rfl rfl (T.e 2 rfl) (Zdf h1))) rfl (fun _ T => Zq (Zr0 rfl (T.e 3 rfl) (Zdf h1) evc)) rfl (Za 0 rfl rfl) rfl ?_; clear T ac; intro ac T
  refine wpList_nil ?_
  replace T := T.pick [0] rfl
  exact ⟨(T.pick (E' := [(6, .bool false)]) [0] rfl).as (by (try rw [show (decide (lo ≤ n)) = false from (Zdf h1)]); (try rfl)), M.mask [] rfl⟩
 clear T M
 rintro ac wc ⟨T, M⟩
 refine wp_ret ?_
 refine rt_1 T rfl (T.e 0 rfl) ?_
 exact ⟨ret_bool (by unfold withinB; simp), M.below⟩
theorem checkRange5_any (x0 x1 most : Int) (w : World) (hm : 0 ≤ most ∧ most ≤ 1000) :
   Calls Tryz.prog 121 #[.agg #[.int .i64 x0, .int .i64 x1], .int .i64 most] w fun e w' => e = .returned (.int .i64 (chkR x0 x1 (-most) most)) ∧ Below w.heap.size w w' := by
 refine Zpx noEx Tryz.func121 rfl 26 rfl [.agg #[.int .i64 x0, .int .i64 x1], .int .i64 most] rfl rfl (Mem.init w _) ?_
 intro ac wc T M
 refine Zsr ?_
 refine Zl2 ?_
 refine Zob M T rfl rfl rfl rfl (T.e 0 rfl) rfl ?_; clear M T; intro g1 wc ac M T
 refine lq T (Zra rfl evc) ?_; clear T ac; intro ac T
 replace T := T.pick [1, 3] rfl
 refine Zln ?_
 refine wp_seq ?_
 refine cut_seq (fun ac wc => Tm ac 26 [(2, .pointer (some ⟨g1, 0, none⟩)), (20, .bool ((!(withinB x0 (-most) most)) || (!(withinB x1 (-most) most))))] ∧ Mem w noEx wc [(g1, .cells [.int .i64 x0, .int .i64 x1])]) ?_ ?_
 ·refine wp_region_lit ?_
  refine Zg5 (v1 := (.pointer (some ⟨g1, 0, none⟩))) T (Zq (Zrf (off := 0) rfl (T.e 0 rfl) (fun _ _ _ => by kernel_rfl))) rfl (Zo M 0 0 rfl rfl rfl rfl) rfl (Zm 3 rfl rfl) rfl (fun _ T => Zq (rn_neg rfl (T.e 0 rfl) (by omega))) rfl (Zm 5 rfl rfl) rfl ?_; clear T ac; intro ac T
  refine Zl2 ?_
  refine Zoc (first := []) (cap := []) T rfl rfl rfl rfl evf (.cons (T.e 3 rfl) (.cons (T.e 1 rfl) (.cons (T.e 0 rfl) .nil))) Tryz.func73 rfl rfl ?_
  refine Calls.mono (among5_any x0 (-most) most _) ?_
  clear T; rintro e wc ⟨rfl, hb⟩ ac T
  replace M := M.call hb; clear hb
  refine Zg2 T (Zq (rn_not rfl (T.e 0 rfl))) rfl (Zm 0 rfl rfl) rfl ?_; clear T ac; intro ac T
  rcases Bool.eq_false_or_eq_true (!(withinB x0 (-most) most)) with h1 | h1
  ·refine Zg8 T (Zp (Zwn rfl rfl (T.e 0 rfl) h1)) rfl (fun _ T => Zp (Zwn rfl rfl (T.e 1 rfl) h1)) rfl (fun _ T => Zp (Zwn rfl rfl (T.e 2 rfl) h1)) rfl (fun _ T => Zp (Zwn rfl rfl (T.e 3 rfl) h1)) rfl (fun _ T => Zp (Zwn rfl rfl (T.e 4 rfl) h1)) rfl (fun _ T => Zp (Zwn rfl rfl (T.e 5 rfl) h1)) rfl (fun _ T => Zp (Zwn rfl rfl (T.e 6 rfl) h1)) rfl (fun _ T => Zq (Zr1 rfl (T.e 7 rfl) h1 evc)) rfl ?_; clear T ac; intro ac T
   refine wpList_nil ?_
   replace T := T.pick [0, 16] rfl
   exact ⟨(T.pick (E' := [(2, .pointer (some ⟨g1, 0, none⟩)), (20, .bool true)]) [1, 0] rfl).as (by (try rw [show (!(withinB x0 (-most) most)) = true from h1]); (try rfl)), M.mask [true] rfl⟩
  refine Zg5 (v1 := (.pointer (some ⟨g1, 1, none⟩))) T (Zw (Zwy rfl rfl (T.e 0 rfl) h1) (Zrf (off := 1) rfl (T.e 8 rfl) (fun _ _ _ => by kernel_rfl))) rfl (fun _ T => Zw (Zwy rfl rfl (T.e 1 rfl) h1) (Zro (Mem.nth M 0 rfl) rfl (T.e 0 rfl) rfl)) rfl (fun _ T => Zw (Zwy rfl rfl (T.e 2 rfl) h1) (Zrm rfl (T.e 11 rfl))) rfl (fun _ T => Zw (Zwy rfl rfl (T.e 3 rfl) h1) (rn_neg rfl (T.e 0 rfl) (by omega))) rfl (fun _ T => Zw (Zwy rfl rfl (T.e 4 rfl) h1) (Zrm rfl (T.e 13 rfl))) rfl ?_; clear T ac; intro ac T
  refine l_w (Zwy rfl rfl (T.e 5 rfl) h1) ?_; intro K hK
  refine Zoc (first := []) (cap := []) T rfl rfl rfl rfl evf (.cons (T.e 3 rfl) (.cons (T.e 1 rfl) (.cons (T.e 0 rfl) .nil))) Tryz.func73 rfl rfl ?_
  refine Calls.mono (among5_any x1 (-most) most _) ?_
  clear T; rintro e wc ⟨rfl, hb⟩ ac T
  replace M := M.call hb; clear hb
  refine Zso hK _ _ ?_; clear hK K
  refine Zg2 T (Zw (Zwy rfl rfl (T.e 6 rfl) h1) (rn_not rfl (T.e 0 rfl))) rfl (fun _ T => Zq (Zr0 rfl (T.e 7 rfl) h1 (T.e 0 rfl))) rfl ?_; clear T ac; intro ac T
  refine wpList_nil ?_
  replace T := T.pick [0, 16] rfl
  exact ⟨(T.pick (E' := [(2, .pointer (some ⟨g1, 0, none⟩)), (20, .bool (!(withinB x1 (-most) most)))]) [1, 0] rfl).as (by (try rw [show (!(withinB x0 (-most) most)) = false from h1]); (try rfl)), M.mask [true] rfl⟩
 clear T M
 rintro ac wc ⟨T, M⟩
 refine wp_cond_split (T.e 1 rfl) ?_ ?_
 ·intro h2
  (have h2' := h2; try simp only [Zb1, Zb2, Zb3, Zb4, Zb5, Zb6, Zb7] at h2')
  refine Zsr ?_
  refine lq T (Zra rfl evc) ?_; clear T ac; intro ac T
  refine wpList_nil ?_
  replace T := T.pick [0] rfl
  replace M := M.mask [false] rfl
  refine Znr ?_
  refine Zrt ?_
  refine rt_1 T rfl (T.e 0 rfl) ?_
  exact ⟨ret_int (by unfold chkR; first | (simp_all; done) | (simp_all; omega) | (simp_all; intro h8 h9; simp_all)), M.below⟩
 intro h2
 (have h2' := h2; try simp only [Zb1, Zb2, Zb3, Zb4, Zb5, Zb6, Zb7] at h2')
 refine Zsk ?_
 refine wp_seq ?_
 refine Zsr ?_
 refine Zg5 (v1 := (.pointer (some ⟨g1, 0, none⟩))) (v3 := (.pointer (some ⟨g1, 1, none⟩))) T (Zq (Zrf (off := 0) rfl (T.e 0 rfl) (fun _ _ _ => by kernel_rfl))) rfl (Zo M 0 0 rfl rfl rfl rfl) rfl (Zf 1 2 rfl rfl) rfl (Zo M 0 0 rfl rfl rfl rfl) rfl (fun _ T => Zq (rn_gtr rfl (T.e 2 rfl) (T.e 0 rfl))) rfl ?_; clear T ac; intro ac T
 refine wpList_nil ?_
 replace T := T.pick [0] rfl
 replace M := M.mask [false] rfl
 refine nm_then ?_
 refine wp_if (T.e 0 rfl) ?_ ?_
 ·intro h3
  refine Zsr ?_
  refine lq T (Zra rfl evc) ?_; clear T ac; intro ac T
  replace T := T.pick [0] rfl
  refine Zln ?_
  refine wp_ret ?_
  refine Zrt ?_
  refine rt_1 T rfl (T.e 0 rfl) ?_
  exact ⟨ret_int (by unfold chkR; first | (simp_all; done) | (simp_all; omega) | (simp_all; intro h8 h9; simp_all)), M.below⟩
 intro h3
 refine Zsk ?_
 refine Zsr ?_
 refine lq T (Zra rfl evc) ?_; clear T ac; intro ac T
 replace T := T.pick [0] rfl
 refine Zln ?_
 refine wp_ret ?_
 refine rt_1 T rfl (T.e 0 rfl) ?_
 exact ⟨ret_int (by unfold chkR; first | (simp_all; done) | (simp_all; omega) | (simp_all; intro h8 h9; simp_all)), M.below⟩
theorem checkLaw5_any (l : Lw) (w : World)  :
   Calls Tryz.prog 72 #[.agg #[.int .i64 l.first, .int .i64 l.step, .int .i64 l.span, .int .i64 l.press]] w fun e w' => e = .returned (.int .i64 (lawE l)) ∧ Below w.heap.size w w' := by
 refine Zpx noEx Tryz.func72 rfl 25 rfl [.agg #[.int .i64 l.first, .int .i64 l.step, .int .i64 l.span, .int .i64 l.press]] rfl rfl (Mem.init w _) ?_
 intro ac wc T M
 refine Zsr ?_
 refine Zl2 ?_
 refine Zob M T rfl rfl rfl rfl (T.e 0 rfl) rfl ?_; clear M T; intro g1 wc ac M T
 refine lq T (Zra rfl evc) ?_; clear T ac; intro ac T
 replace T := T.pick [1] rfl
 refine Zln ?_
 refine wp_seq ?_
 refine cut_seq (fun ac wc => Tm ac 25 [(24, .bool ((!(withinB l.first 0 30)) || ((!(withinB l.step (-5) 5)) || ((!(withinB l.span 0 20)) || (!(withinB l.press 0 3))))))] ∧ Mem w noEx wc []) ?_ ?_
 ·refine wp_region_lit ?_
  refine Zg2 (v1 := (.pointer (some ⟨g1, 0, none⟩))) T (Zq (Zrf (off := 0) rfl (T.e 0 rfl) (fun _ _ _ => by kernel_rfl))) rfl (Zo M 0 0 rfl rfl rfl rfl) rfl ?_; clear T ac; intro ac T
  refine Zl2 ?_
  refine Zoc (first := []) (cap := []) T rfl rfl rfl rfl evf (.cons (T.e 0 rfl) (.cons evc (.cons evc .nil))) Tryz.func73 rfl rfl ?_
  refine Calls.mono (among5_any l.first 0 30 _) ?_
  clear T; rintro e wc ⟨rfl, hb⟩ ac T
  replace M := M.call hb; clear hb
  refine Zg2 T (Zq (rn_not rfl (T.e 0 rfl))) rfl (Zm 0 rfl rfl) rfl ?_; clear T ac; intro ac T
  rcases Bool.eq_false_or_eq_true (!(withinB l.first 0 30)) with h1 | h1
  ·refine Zg8 T (Zp (Zwn rfl rfl (T.e 0 rfl) h1)) rfl (fun _ T => Zp (Zwn rfl rfl (T.e 1 rfl) h1)) rfl (fun _ T => Zp (Zwn rfl rfl (T.e 2 rfl) h1)) rfl (fun _ T => Zp (Zwn rfl rfl (T.e 3 rfl) h1)) rfl (fun _ T => Zq (Zr1 rfl (T.e 4 rfl) h1 evc)) rfl (Zm 0 rfl rfl) rfl (fun _ T => Zp (Zwn rfl rfl (T.e 0 rfl) rfl)) rfl (fun _ T => Zp (Zwn rfl rfl (T.e 1 rfl) rfl)) rfl ?_; clear T ac; intro ac T
   refine Zg8 T (Zp (Zwn rfl rfl (T.e 2 rfl) rfl)) rfl (fun _ T => Zp (Zwn rfl rfl (T.e 3 rfl) rfl)) rfl (fun _ T => Zq (Zr1 rfl (T.e 4 rfl) rfl evc)) rfl (Zm 0 rfl rfl) rfl (fun _ T => Zp (Zwn rfl rfl (T.e 0 rfl) rfl)) rfl (fun _ T => Zp (Zwn rfl rfl (T.e 1 rfl) rfl)) rfl (fun _ T => Zp (Zwn rfl rfl (T.e 2 rfl) rfl)) rfl (fun _ T => Zp (Zwn rfl rfl (T.e 3 rfl) rfl)) rfl ?_; clear T ac; intro ac T
   refine lq T (Zr1 rfl (T.e 4 rfl) rfl evc) ?_; clear T ac; intro ac T
   refine wpList_nil ?_
   replace T := T.pick [0] rfl
   replace M := M.mask [false] rfl
   exact ⟨(T.pick (E' := [(24, .bool true)]) [0] rfl).as (by (try rw [show (!(withinB l.first 0 30)) = true from h1]); (try rfl)), M.mask [] rfl⟩
  refine Zg2 (v1 := (.pointer (some ⟨g1, 1, none⟩))) T (Zw (Zwy rfl rfl (T.e 0 rfl) h1) (Zrf (off := 1) rfl (T.e 5 rfl) (fun _ _ _ => by kernel_rfl))) rfl (fun _ T => Zw (Zwy rfl rfl (T.e 1 rfl) h1) (Zro (Mem.nth M 0 rfl) rfl (T.e 0 rfl) rfl)) rfl ?_; clear T ac; intro ac T
  refine l_w (Zwy rfl rfl (T.e 2 rfl) h1) ?_; intro K hK
  refine Zoc (first := []) (cap := []) T rfl rfl rfl rfl evf (.cons (T.e 0 rfl) (.cons evc (.cons evc .nil))) Tryz.func73 rfl rfl ?_
  refine Calls.mono (among5_any l.step (-5) 5 _) ?_
  clear T; rintro e wc ⟨rfl, hb⟩ ac T
  replace M := M.call hb; clear hb
  refine Zso hK _ _ ?_; clear hK K
  refine Zg3 T (Zw (Zwy rfl rfl (T.e 3 rfl) h1) (rn_not rfl (T.e 0 rfl))) rfl (fun _ T => Zq (Zr0 rfl (T.e 4 rfl) h1 (T.e 0 rfl))) rfl (Zm 0 rfl rfl) rfl ?_; clear T ac; intro ac T
  rcases Bool.eq_false_or_eq_true (!(withinB l.step (-5) 5)) with h2 | h2
  ·refine Zg8 T (Zp (Zwn rfl rfl (T.e 0 rfl) h2)) rfl (fun _ T => Zp (Zwn rfl rfl (T.e 1 rfl) h2)) rfl (fun _ T => Zp (Zwn rfl rfl (T.e 2 rfl) h2)) rfl (fun _ T => Zp (Zwn rfl rfl (T.e 3 rfl) h2)) rfl (fun _ T => Zq (Zr1 rfl (T.e 4 rfl) h2 evc)) rfl (Zm 0 rfl rfl) rfl (fun _ T => Zp (Zwn rfl rfl (T.e 0 rfl) rfl)) rfl (fun _ T => Zp (Zwn rfl rfl (T.e 1 rfl) rfl)) rfl ?_; clear T ac; intro ac T
   refine Zg3 T (Zp (Zwn rfl rfl (T.e 2 rfl) rfl)) rfl (fun _ T => Zp (Zwn rfl rfl (T.e 3 rfl) rfl)) rfl (fun _ T => Zq (Zr1 rfl (T.e 4 rfl) rfl evc)) rfl ?_; clear T ac; intro ac T
   refine wpList_nil ?_
   replace T := T.pick [0] rfl
   replace M := M.mask [false] rfl
   exact ⟨(T.pick (E' := [(24, .bool true)]) [0] rfl).as (by (try rw [show (!(withinB l.first 0 30)) = false from h1]); (try rw [show (!(withinB l.step (-5) 5)) = true from h2]); (try rfl)), M.mask [] rfl⟩
  refine Zg2 (v1 := (.pointer (some ⟨g1, 2, none⟩))) T (Zw (Zwy rfl rfl (T.e 0 rfl) h2) (Zrf (off := 2) rfl (T.e 11 rfl) (fun _ _ _ => by kernel_rfl))) rfl (fun _ T => Zw (Zwy rfl rfl (T.e 1 rfl) h2) (Zro (Mem.nth M 0 rfl) rfl (T.e 0 rfl) rfl)) rfl ?_; clear T ac; intro ac T
  refine l_w (Zwy rfl rfl (T.e 2 rfl) h2) ?_; intro K hK
  refine Zoc (first := []) (cap := []) T rfl rfl rfl rfl evf (.cons (T.e 0 rfl) (.cons evc (.cons evc .nil))) Tryz.func73 rfl rfl ?_
  refine Calls.mono (among5_any l.span 0 20 _) ?_
  clear T; rintro e wc ⟨rfl, hb⟩ ac T
  replace M := M.call hb; clear hb
  refine Zso hK _ _ ?_; clear hK K
  refine Zg3 T (Zw (Zwy rfl rfl (T.e 3 rfl) h2) (rn_not rfl (T.e 0 rfl))) rfl (fun _ T => Zq (Zr0 rfl (T.e 4 rfl) h2 (T.e 0 rfl))) rfl (Zm 0 rfl rfl) rfl ?_; clear T ac; intro ac T
  rcases Bool.eq_false_or_eq_true (!(withinB l.span 0 20)) with h3 | h3
  ·refine Zg5 T (Zp (Zwn rfl rfl (T.e 0 rfl) h3)) rfl (fun _ T => Zp (Zwn rfl rfl (T.e 1 rfl) h3)) rfl (fun _ T => Zp (Zwn rfl rfl (T.e 2 rfl) h3)) rfl (fun _ T => Zp (Zwn rfl rfl (T.e 3 rfl) h3)) rfl (fun _ T => Zq (Zr1 rfl (T.e 4 rfl) h3 evc)) rfl ?_; clear T ac; intro ac T
   refine wpList_nil ?_
   replace T := T.pick [0] rfl
   replace M := M.mask [false] rfl
   exact ⟨(T.pick (E' := [(24, .bool true)]) [0] rfl).as (by (try rw [show (!(withinB l.first 0 30)) = false from h1]); (try rw [show (!(withinB l.step (-5) 5)) = false from h2]); (try rw [show (!(withinB l.span 0 20)) = true from h3]); (try rfl)), M.mask [] rfl⟩
  refine Zg2 (v1 := (.pointer (some ⟨g1, 3, none⟩))) T (Zw (Zwy rfl rfl (T.e 0 rfl) h3) (Zrf (off := 3) rfl (T.e 17 rfl) (fun _ _ _ => by kernel_rfl))) rfl (fun _ T => Zw (Zwy rfl rfl (T.e 1 rfl) h3) (Zro (Mem.nth M 0 rfl) rfl (T.e 0 rfl) rfl)) rfl ?_; clear T ac; intro ac T
  refine l_w (Zwy rfl rfl (T.e 2 rfl) h3) ?_; intro K hK
  refine Zoc (first := []) (cap := []) T rfl rfl rfl rfl evf (.cons (T.e 0 rfl) (.cons evc (.cons evc .nil))) Tryz.func73 rfl rfl ?_
  refine Calls.mono (among5_any l.press 0 3 _) ?_
  clear T; rintro e wc ⟨rfl, hb⟩ ac T
  replace M := M.call hb; clear hb
  refine Zso hK _ _ ?_; clear hK K
  refine Zg2 T (Zw (Zwy rfl rfl (T.e 3 rfl) h3) (rn_not rfl (T.e 0 rfl))) rfl (fun _ T => Zq (Zr0 rfl (T.e 4 rfl) h3 (T.e 0 rfl))) rfl ?_; clear T ac; intro ac T
  refine wpList_nil ?_
  replace T := T.pick [0] rfl
  replace M := M.mask [false] rfl
  exact ⟨(T.pick (E' := [(24, .bool (!(withinB l.press 0 3)))]) [0] rfl).as (by (try rw [show (!(withinB l.first 0 30)) = false from h1]); (try rw [show (!(withinB l.step (-5) 5)) = false from h2]); (try rw [show (!(withinB l.span 0 20)) = false from h3]); (try rfl)), M.mask [] rfl⟩
 clear T M
 rintro ac wc ⟨T, M⟩
 refine wp_cond_split (T.e 0 rfl) ?_ ?_
 ·intro h4
  (have h4' := h4; try simp only [Zb1, Zb2, Zb3, Zb4, Zb5, Zb6, Zb7] at h4')
  refine Zsr ?_
  refine lq T (Zra rfl evc) ?_; clear T ac; intro ac T
  replace T := T.pick [0] rfl
  refine Zln ?_
  refine wp_ret ?_
  refine Zrt ?_
  refine rt_1 T rfl (T.e 0 rfl) ?_
  refine ⟨ret_int ?_, M.below⟩
  unfold lawE
  rcases Bool.eq_false_or_eq_true (withinB l.first 0 30) with a1 | a1 <;> rcases Bool.eq_false_or_eq_true (withinB l.step (-5) 5) with a2 | a2 <;> rcases Bool.eq_false_or_eq_true (withinB l.span 0 20) with a3 | a3 <;> rcases Bool.eq_false_or_eq_true (withinB l.press 0 3) with a4 | a4 <;> simp_all
 intro h4
 (have h4' := h4; try simp only [Zb1, Zb2, Zb3, Zb4, Zb5, Zb6, Zb7] at h4')
 refine Zsk ?_
 refine Zsr ?_
 refine lq T (Zra rfl evc) ?_; clear T ac; intro ac T
 replace T := T.pick [0] rfl
 refine Zln ?_
 refine wp_ret ?_
 refine rt_1 T rfl (T.e 0 rfl) ?_
 refine ⟨ret_int ?_, M.below⟩
 unfold lawE
 rcases Bool.eq_false_or_eq_true (withinB l.first 0 30) with a1 | a1 <;> rcases Bool.eq_false_or_eq_true (withinB l.step (-5) 5) with a2 | a2 <;> rcases Bool.eq_false_or_eq_true (withinB l.span 0 20) with a3 | a3 <;> rcases Bool.eq_false_or_eq_true (withinB l.press 0 3) with a4 | a4 <;> simp_all
theorem due5_any (l : Lw) (n : Int) (w : World) (h0 : -1000 ≤ l.first ∧ l.first ≤ 1000) (h1 : -1000 ≤ l.step ∧ l.step ≤ 1000) (h2 : -1000 ≤ n ∧ n ≤ 1000) :
  Calls Tryz.prog 74 #[.agg #[.int .i64 l.first, .int .i64 l.step, .int .i64 l.span, .int .i64 l.press], .int .i64 n] w fun e w' => e = .returned (.int .i64 (l.first + l.step * n)) ∧ Below w.heap.size w w' := by
 have hm := mulB h1 h2
 refine Zpx noEx Tryz.func74 rfl 12 rfl [.agg #[.int .i64 l.first, .int .i64 l.step, .int .i64 l.span, .int .i64 l.press], .int .i64 n] rfl rfl (Mem.init w _) ?_
 intro ac wc T M
 refine Zsr ?_
 refine Zl2 ?_
 refine Zob M T rfl rfl rfl rfl (T.e 0 rfl) rfl ?_; clear M T; intro g1 wc ac M T
 refine lq T (Zra rfl evc) ?_; clear T ac; intro ac T
 replace T := T.pick [1, 3] rfl
 refine Zln ?_
 refine Zsr ?_
 refine Zg8 (v1 := (.pointer (some ⟨g1, 0, none⟩))) (v3 := (.pointer (some ⟨g1, 1, none⟩))) T (Zq (Zrf (off := 0) rfl (T.e 0 rfl) (fun _ _ _ => by kernel_rfl))) rfl (Zo M 0 0 rfl rfl rfl rfl) rfl (Zf 1 2 rfl rfl) rfl (Zo M 0 0 rfl rfl rfl rfl) rfl (Zm 5 rfl rfl) rfl (fun _ T => Zq (rn_mul rfl (T.e 1 rfl) (T.e 0 rfl) (by omega))) rfl (fun _ T => Zq (rn_add rfl (T.e 4 rfl) (T.e 0 rfl) (by omega))) rfl (Za 0 rfl rfl) rfl ?_; clear T ac; intro ac T
 refine wpList_nil ?_
 replace T := T.pick [0] rfl
 replace M := M.mask [false] rfl
 refine Znr ?_
 refine rt_1 T rfl (T.e 0 rfl) ?_
 exact ⟨rfl, M.below⟩
theorem checkSounds5_any (A : Option Addr) (n c : Nat) (l : List Snd) (most : Int) (w : World) (hr : Rd w w.heap.size 4 A n (sc l)) (hn : n ≤ 1000000) :
   Calls Tryz.prog 85 #[.slice A n c, .int .i64 most] w fun e w' => e = .returned (.int .i64 (sndsE l most)) ∧ Below w.heap.size w w' := by
 have hl := hr.len4
 obtain ⟨bJ, oJ, SJ⟩ := Sp.old hr
 refine Zpx noEx Tryz.func85 rfl 36 rfl [.slice A n c, .int .i64 most] rfl rfl (Mem.init w _) ?_
 intro ac wc T M
 refine Zsr ?_
 refine lq T (Zra rfl evc) ?_; clear T ac; intro ac T
 replace T := T.pick [1, 2] rfl
 refine Zln ?_
 refine wp_seq ?_
 refine Zsr ?_
 refine Zg4 T (Zq (Zrm rfl (T.e 0 rfl))) rfl (Zl Tryz.underlying24 0 rfl rfl) rfl (Zm 3 rfl rfl) rfl (fun _ T => Zq (rn_gtr rfl (T.e 1 rfl) (T.e 0 rfl))) rfl ?_; clear T ac; intro ac T
 replace T := T.pick [0, 4] rfl
 refine Zln ?_
 refine wp_if (T.e 0 rfl) ?_ ?_
 ·intro h1
  refine Zsr ?_
  refine lq T (Zra rfl evc) ?_; clear T ac; intro ac T
  replace T := T.pick [0] rfl
  refine Zln ?_
  refine wp_ret ?_
  refine Zrt ?_
  refine rt_1 T rfl (T.e 0 rfl) ?_
  refine ⟨ret_int ?_, M.below⟩
  unfold sndsE
  rw [if_pos (by omega)]
 intro h1
 refine Zsk ?_
 refine wp_seq ?_
 refine Zsr ?_
 refine lq T (Zra rfl evc) ?_; clear T ac; intro ac T
 replace T := T.pick [0, 2] rfl
 refine Zln ?_
 refine wp_block ?_
 refine wp_loop_n (fun mz ac wc => ∃ (k : Nat), mz = n - k ∧ (k ≤ n) ∧ (sndsL l = sndsL (l.drop k)) ∧ Tm ac 36 [(0, .slice A n c), (5, .int .i64 (k : Int))] ∧ Mem w noEx wc []) ?_ ?_
 ·exact ⟨_, 0, rfl, (by omega), rfl, T.pick [1, 0] rfl, M.mask [] rfl⟩
 clear T M
 rintro mz ac wc ⟨k, hmm1, hk, H, T, M⟩
 refine wp_seq ?_
 refine Zsr ?_
 refine Zg4 T (Zq (Zrm rfl (T.e 1 rfl))) rfl (Zm 1 rfl rfl) rfl (Zl Tryz.underlying24 0 rfl rfl) rfl (fun _ T => Zq (rn_lss rfl (T.e 2 rfl) (T.e 0 rfl))) rfl ?_; clear T ac; intro ac T
 replace T := T.pick [0, 4, 5] rfl
 refine Zln ?_
 refine wp_if (T.e 0 rfl) ?_ ?_
 ·intro h2
  obtain ⟨x, hk1, hd⟩ := sc_next (l := l) (k := k) (by omega)
  rw [hd, sndsL, sndE] at H
  refine Zsk ?_
  refine wp_seq ?_
  refine wp_block ?_
  refine wp_seq ?_
  refine Zsr ?_
  refine Zg5 (v5 := (.agg #[.int .i64 x.t0, .int .i64 x.t1])) T (Zq (Zrm rfl (T.e 1 rfl))) rfl (Zm 3 rfl rfl) rfl (fun _ T => Zq (Zri (size := 4) k rfl (T.e 1 rfl) (T.e 0 rfl) ⟨_, Tryz.underlying24, by kernel_rfl⟩ rfl (by omega) (SJ.at0 (by omega)))) rfl (Zf 0 0 rfl rfl) rfl (fun _ T => Zq (rn_rowat (Sp.scR02 SJ M (Zz9 _) hk1) rfl (T.e 0 rfl) rfl)) rfl ?_; clear T ac; intro ac T
  refine Zl2 ?_
  refine Zoc (first := []) (cap := []) T rfl rfl rfl rfl evf (.cons (T.e 0 rfl) (.cons evc .nil)) Tryz.func121 rfl rfl ?_
  refine Calls.mono (checkRange5_any x.t0 x.t1 30 _ (by omega)) ?_
  clear T; rintro e wc ⟨rfl, hb⟩ ac T
  replace M := M.call hb; clear hb
  refine lq T (Zra rfl (T.e 0 rfl)) ?_; clear T ac; intro ac T
  replace T := T.pick [0, 8, 9] rfl
  refine Zln ?_
  refine Zsr ?_
  refine Zg2 T (Zq (Zrm rfl (T.e 0 rfl))) rfl (fun _ T => Zq (rn_neq rfl (T.e 0 rfl) evc)) rfl ?_; clear T ac; intro ac T
  replace T := T.pick [0, 2, 3, 4] rfl
  refine Zln ?_
  refine wp_ifn (T.e 0 rfl) ?_ ?_
  ·intro h3
   refine Zsr ?_
   refine Zg2 T (Zq (Zrm rfl (T.e 1 rfl))) rfl (Za 0 rfl rfl) rfl ?_; clear T ac; intro ac T
   replace T := T.pick [0] rfl
   refine Zln ?_
   refine wp_ret ?_
   refine Zrt ?_
   refine Zrb ?_
   refine Zrt ?_
   refine Zrt ?_
   refine Zrb ?_
   refine Zrt ?_
   refine rt_1 T rfl (T.e 0 rfl) ?_
   refine ⟨ret_int ?_, M.below⟩
   unfold sndsE
   rw [if_neg (by omega), H]
   simp_all
  intro h3
  refine Zsk ?_
  refine Zsr ?_
  refine Zg5 (v5 := (.agg #[.int .i64 x.s0, .int .i64 x.s1])) T (Zq (Zrm rfl (T.e 2 rfl))) rfl (Zm 4 rfl rfl) rfl (fun _ T => Zq (Zri (size := 4) k rfl (T.e 1 rfl) (T.e 0 rfl) ⟨_, Tryz.underlying24, by kernel_rfl⟩ rfl (by omega) (SJ.at0 (by omega)))) rfl (Zf 2 0 rfl rfl) rfl (fun _ T => Zq (rn_rowat (Sp.scR22 SJ M (Zz9 _) hk1) rfl (T.e 0 rfl) rfl)) rfl ?_; clear T ac; intro ac T
  refine Zl2 ?_
  refine Zoc (first := []) (cap := []) T rfl rfl rfl rfl evf (.cons (T.e 0 rfl) (.cons evc .nil)) Tryz.func121 rfl rfl ?_
  refine Calls.mono (checkRange5_any x.s0 x.s1 3 _ (by omega)) ?_
  clear T; rintro e wc ⟨rfl, hb⟩ ac T
  replace M := M.call hb; clear hb
  refine lq T (Zra rfl (T.e 0 rfl)) ?_; clear T ac; intro ac T
  replace T := T.pick [0, 9, 10] rfl
  refine Zln ?_
  refine Zsr ?_
  refine Zg2 T (Zq (Zrm rfl (T.e 0 rfl))) rfl (fun _ T => Zq (rn_neq rfl (T.e 0 rfl) evc)) rfl ?_; clear T ac; intro ac T
  replace T := T.pick [0, 2, 3, 4] rfl
  refine Zln ?_
  refine wp_ifn (T.e 0 rfl) ?_ ?_
  ·intro h4
   refine Zsr ?_
   refine Zg2 T (Zq (Zrm rfl (T.e 1 rfl))) rfl (Za 0 rfl rfl) rfl ?_; clear T ac; intro ac T
   replace T := T.pick [0] rfl
   refine Zln ?_
   refine wp_ret ?_
   refine Zrb ?_
   refine Zrt ?_
   refine Zrt ?_
   refine Zrb ?_
   refine Zrt ?_
   refine rt_1 T rfl (T.e 0 rfl) ?_
   refine ⟨ret_int ?_, M.below⟩
   unfold sndsE
   rw [if_neg (by omega), H]
   simp_all
  intro h4
  refine wp_skip ?_
  refine Znb ?_
  refine nm_then ?_
  refine wp_region_lit ?_
  refine Zg2 T (Zq (Zrm rfl (T.e 3 rfl))) rfl (fun _ T => Zq (rn_add rfl (T.e 0 rfl) evc (by omega))) rfl ?_; clear T ac; intro ac T
  refine l_q (v := (.int .i64 ((k : Int) + 1))) (T.pick [0, 1, 2, 3, 4] rfl) rfl rfl rfl rfl (Zra rfl (T.e 0 rfl)) ?_; clear T ac; intro ac T
  replace T := T.pick [0, 5] rfl
  refine Zln ?_
  rw [if_pos (by simp_all)] at H
  exact ⟨_, by omega, k + 1, rfl, (by omega), H, T.pick [1, 0] rfl, M.mask [] rfl⟩
 intro h2
 rw [List.drop_of_length_le (by omega), sndsL] at H
 refine wp_exit ?_
 refine Zet ?_
 refine Zet ?_
 refine ex_hit ?_
 refine nm_then ?_
 refine Zsr ?_
 refine lq T (Zra rfl evc) ?_; clear T ac; intro ac T
 replace T := T.pick [0] rfl
 refine Zln ?_
 refine wp_ret ?_
 refine rt_1 T rfl (T.e 0 rfl) ?_
 refine ⟨ret_int ?_, M.below⟩
 unfold sndsE
 rw [if_neg (by omega), H]
theorem plain5_any (b : Bx) (A : Option Addr) (c : Nat) (B : Option Addr) (d : Nat) (w : World)  :
  Calls Tryz.prog 87 #[bxV b A c B d] w fun e w' => e = .returned (jobV (blankJ b) none 0) ∧ Below w.heap.size w w' := by
 refine Zpx noEx Tryz.func87 rfl 16 rfl [.agg #[.int .i64 b.first, .int .i64 b.step, .int .i64 b.span, .int .i64 b.press, .int .i64 b.note, .slice A b.lows.length c, .slice B b.highs.length d, .int .i64 b.t0, .int .i64 b.t1, .int .i64 b.r0, .int .i64 b.r1, .int .i64 b.u0, .int .i64 b.u1, .int .i64 b.d0, .int .i64 b.d1, .int .i64 b.a0, .int .i64 b.a1, .int .i64 b.b0, .int .i64 b.b1, .int .i64 b.le, .int .i64 b.me]] rfl rfl (Mem.init w _) ?_
 intro ac wc T M
 refine Zsr ?_
 refine Zl2 ?_
 refine Zob M T rfl rfl rfl rfl (T.e 0 rfl) rfl ?_; clear M T; intro g1 wc ac M T
 refine Zl2 ?_
 refine Zoa M T rfl rfl rfl rfl ?_; clear M T; intro g2 wc ac M T
 replace T := T.pick [0, 1] rfl
 refine Zln ?_
 refine Zsr ?_
 refine Zg8 (v1 := (.pointer (some ⟨g1, 7, none⟩))) (v3 := (.pointer (some ⟨g1, 9, none⟩))) (v5 := (.agg #[.int .i64 0, .int .i64 0, .int .i64 b.t0, .int .i64 b.t1, .int .i64 b.r0, .int .i64 b.r1])) (v6 := (.pointer (some ⟨g1, 11, none⟩))) (v8 := (.pointer (some ⟨g1, 0, none⟩))) T (Zq (Zrf (off := 7) rfl (T.e 1 rfl) (fun _ _ _ => by kernel_rfl))) rfl (Zr M 1 0 rfl rfl rfl rfl) rfl (Zf 9 3 rfl rfl) rfl (Zr M 1 0 rfl rfl rfl rfl) rfl (fun _ T => Zq (rn_build rfl (.cons (T.e 2 rfl) (.cons (T.e 0 rfl) .nil)) (fun _ => by kernel_rfl))) rfl (Zf 11 6 rfl rfl) rfl (Zr M 1 0 rfl rfl rfl rfl) rfl (Zf 0 8 rfl rfl) rfl ?_; clear T ac; intro ac T
 refine Zg5 (v1 := (.pointer (some ⟨g1, 2, none⟩))) (v3 := (.pointer (some ⟨g1, 20, none⟩))) (v5 := (.agg #[.int .i64 0, .int .i64 0, .int .i64 b.t0, .int .i64 b.t1, .int .i64 b.r0, .int .i64 b.r1, .int .i64 b.u0, .int .i64 b.u1, .int .i64 b.d0, .int .i64 b.d1, .int .i64 b.a0, .int .i64 b.a1, .int .i64 b.b0, .int .i64 b.b1, .int .i64 b.le, .slice none 0 0, .int .i64 b.span, .int .i64 b.me])) T (Zq (Zrf (off := 2) rfl (T.e 0 rfl) (fun _ _ _ => by kernel_rfl))) rfl (Zo M 1 0 rfl rfl rfl rfl) rfl (Zf 20 11 rfl rfl) rfl (Zo M 1 0 rfl rfl rfl rfl) rfl (fun _ T => Zq (rn_build rfl (.cons (T.e 7 rfl) (.cons (T.e 5 rfl) (.cons (T.e 2 rfl) (.cons (T.e 0 rfl) .nil)))) (fun _ => by kernel_rfl))) rfl ?_; clear T ac; intro ac T
 refine Zl2 ?_
 refine Zos M T rfl rfl (T.e 13 rfl) (T.e 0 rfl) rfl .head rfl (by simp) rfl (by kernel_rfl) ?_; clear M T; intro wc ac M T
 refine wpList_nil ?_
 replace T := T.pick [13] rfl
 replace M := M.mask [true, false] rfl
 refine Znr ?_
 refine rt_c M T rfl (T.e 0 rfl) (Zne (i := 0) rfl) rfl ?_
 exact ⟨rfl, M.below⟩
theorem Check5_any (b : Bx) (A : Option Addr) (c : Nat) (B : Option Addr) (d : Nat) (w : World) (hA : Rd w w.heap.size 4 A b.lows.length (sc b.lows)) (hB : Rd w w.heap.size 4 B b.highs.length (sc b.highs)) (nA : b.lows.length ≤ 1000000) (nB : b.highs.length ≤ 1000000)  :
   Calls Tryz.prog 28 #[bxV b A c B d] w fun e w' => e = .returned (.int .i64 (checkB b)) ∧ Below w.heap.size w w' := by
 have hlA := hA.len4
 have hlB := hB.len4
 obtain ⟨bA, oA, SA⟩ := Sp.old hA
 obtain ⟨bB, oB, SB⟩ := Sp.old hB
 refine Zpx noEx Tryz.func28 rfl 40 rfl [.agg #[.int .i64 b.first, .int .i64 b.step, .int .i64 b.span, .int .i64 b.press, .int .i64 b.note, .slice A b.lows.length c, .slice B b.highs.length d, .int .i64 b.t0, .int .i64 b.t1, .int .i64 b.r0, .int .i64 b.r1, .int .i64 b.u0, .int .i64 b.u1, .int .i64 b.d0, .int .i64 b.d1, .int .i64 b.a0, .int .i64 b.a1, .int .i64 b.b0, .int .i64 b.b1, .int .i64 b.le, .int .i64 b.me]] rfl rfl (Mem.init w _) ?_
 intro ac wc T M
 refine Zsr ?_
 refine Zl2 ?_
 refine Zob M T rfl rfl rfl rfl (T.e 0 rfl) rfl ?_; clear M T; intro g1 wc ac M T
 refine lq T (Zra rfl evc) ?_; clear T ac; intro ac T
 replace T := T.pick [1] rfl
 refine Zln ?_
 refine wp_seq ?_
 refine Zsr ?_
 refine Zg2 (v1 := (.pointer (some ⟨g1, 0, none⟩))) T (Zq (Zrf (off := 0) rfl (T.e 0 rfl) (fun _ _ _ => by kernel_rfl))) rfl (Zr M 0 0 rfl rfl rfl rfl) rfl ?_; clear T ac; intro ac T
 refine Zl2 ?_
 refine Zoc (first := []) (cap := []) T rfl rfl rfl rfl evf (.cons (T.e 0 rfl) .nil) Tryz.func72 rfl rfl ?_
 refine Calls.mono (checkLaw5_any b.law _) ?_
 clear T; rintro e wc ⟨rfl, hb⟩ ac T
 replace M := M.call hb; clear hb
 refine lq T (Zra rfl (T.e 0 rfl)) ?_; clear T ac; intro ac T
 replace T := T.pick [0, 4] rfl
 refine Zln ?_
 refine Zsr ?_
 refine Zg2 T (Zq (Zrm rfl (T.e 0 rfl))) rfl (fun _ T => Zq (rn_neq rfl (T.e 0 rfl) evc)) rfl ?_; clear T ac; intro ac T
 replace T := T.pick [0, 2, 3] rfl
 refine Zln ?_
 refine wp_ifn (T.e 0 rfl) ?_ ?_
 ·intro h1
  refine Zsr ?_
  refine Zg2 T (Zq (Zrm rfl (T.e 1 rfl))) rfl (Za 0 rfl rfl) rfl ?_; clear T ac; intro ac T
  refine wpList_nil ?_
  replace T := T.pick [0] rfl
  replace M := M.mask [false] rfl
  refine Znr ?_
  refine Zrt ?_
  refine rt_1 T rfl (T.e 0 rfl) ?_
  refine ⟨ret_int ?_, M.below⟩
  unfold checkB
  first | (simp_all [withinB, Bx.due]; done) | (simp_all [withinB, Bx.due]; omega)
 intro h1
 have gl := lawE_good (l := b.law) (by simpa using h1)
 obtain ⟨gl1, gl2, gl3, gl4⟩ := gl
 dsimp only at gl1 gl2 gl3 gl4
 refine Zsk ?_
 refine wp_seq ?_
 refine cut_seq (fun ac wc => Tm ac 40 [(1, .pointer (some ⟨g1, 0, none⟩)), (24, .bool ((!(withinB b.note 0 11)) || (!(withinB (b.first + b.step * b.note) 0 30))))] ∧ Mem w noEx wc [(g1, .cells [.int .i64 b.first, .int .i64 b.step, .int .i64 b.span, .int .i64 b.press, .int .i64 b.note, .slice A b.lows.length c, .slice B b.highs.length d, .int .i64 b.t0, .int .i64 b.t1, .int .i64 b.r0, .int .i64 b.r1, .int .i64 b.u0, .int .i64 b.u1, .int .i64 b.d0, .int .i64 b.d1, .int .i64 b.a0, .int .i64 b.a1, .int .i64 b.b0, .int .i64 b.b1, .int .i64 b.le, .int .i64 b.me])]) ?_ ?_
 ·refine wp_region_lit ?_
  refine Zg2 (v1 := (.pointer (some ⟨g1, 4, none⟩))) T (Zq (Zrf (off := 4) rfl (T.e 2 rfl) (fun _ _ _ => by kernel_rfl))) rfl (Zo M 0 0 rfl rfl rfl rfl) rfl ?_; clear T ac; intro ac T
  refine Zl2 ?_
  refine Zoc (first := []) (cap := []) T rfl rfl rfl rfl evf (.cons (T.e 0 rfl) (.cons evc (.cons evc .nil))) Tryz.func73 rfl rfl ?_
  refine Calls.mono (among5_any b.note 0 11 _) ?_
  clear T; rintro e wc ⟨rfl, hb⟩ ac T
  replace M := M.call hb; clear hb
  refine Zg2 T (Zq (rn_not rfl (T.e 0 rfl))) rfl (Zm 0 rfl rfl) rfl ?_; clear T ac; intro ac T
  rcases Bool.eq_false_or_eq_true (!(withinB b.note 0 11)) with h2 | h2
  ·have hn9 := h2
   refine Zg8 T (Zp (Zwn rfl rfl (T.e 0 rfl) h2)) rfl (fun _ T => Zp (Zwn rfl rfl (T.e 1 rfl) h2)) rfl (fun _ T => Zp (Zwn rfl rfl (T.e 2 rfl) h2)) rfl (fun _ T => Zp (Zwn rfl rfl (T.e 3 rfl) h2)) rfl (fun _ T => Zp (Zwn rfl rfl (T.e 4 rfl) h2)) rfl (fun _ T => Zp (Zwn rfl rfl (T.e 5 rfl) h2)) rfl (fun _ T => Zp (Zwn rfl rfl (T.e 6 rfl) h2)) rfl (fun _ T => Zq (Zr1 rfl (T.e 7 rfl) h2 evc)) rfl ?_; clear T ac; intro ac T
   refine wpList_nil ?_
   replace T := T.pick [0, 15] rfl
   exact ⟨(T.pick (E' := [(1, .pointer (some ⟨g1, 0, none⟩)), (24, .bool true)]) [1, 0] rfl).as (by (try rw [show (!(withinB b.note 0 11)) = true from h2]); (try rfl)), M.mask [true] rfl⟩
  have hn9 : 0 ≤ b.note ∧ b.note ≤ 11 := by unfold withinB at h2; simpa using h2
  refine Zg4 (v1 := (.pointer (some ⟨g1, 0, none⟩))) (v3 := (.pointer (some ⟨g1, 4, none⟩))) T (Zw (Zwy rfl rfl (T.e 0 rfl) h2) (Zrf (off := 0) rfl (T.e 7 rfl) (fun _ _ _ => by kernel_rfl))) rfl (fun _ T => Zw (Zwy rfl rfl (T.e 1 rfl) h2) (Zrr (Mem.nth M 0 rfl) rfl (T.e 0 rfl) rfl)) rfl (fun _ T => Zw (Zwy rfl rfl (T.e 2 rfl) h2) (Zrf (off := 4) rfl (T.e 9 rfl) (fun _ _ _ => by kernel_rfl))) rfl (fun _ T => Zw (Zwy rfl rfl (T.e 3 rfl) h2) (Zro (Mem.nth M 0 rfl) rfl (T.e 0 rfl) rfl)) rfl ?_; clear T ac; intro ac T
  refine l_w (Zwy rfl rfl (T.e 4 rfl) h2) ?_; intro K hK
  refine Zoc (first := []) (cap := []) T rfl rfl rfl rfl evf (.cons (T.e 2 rfl) (.cons (T.e 0 rfl) .nil)) Tryz.func74 rfl rfl ?_
  refine Calls.mono (due5_any b.law b.note _ (by (try dsimp only); omega) (by (try dsimp only); omega) (by (try dsimp only); omega)) ?_
  clear T; rintro e wc ⟨rfl, hb⟩ ac T
  replace M := M.call hb; clear hb
  refine Zso hK _ _ ?_; clear hK K
  refine l_w (Zwy rfl rfl (T.e 5 rfl) h2) ?_; intro K hK
  refine Zoc (first := []) (cap := []) T rfl rfl rfl rfl evf (.cons (T.e 0 rfl) (.cons evc (.cons evc .nil))) Tryz.func73 rfl rfl ?_
  refine Calls.mono (among5_any (b.first + b.step * b.note) 0 30 _) ?_
  clear T; rintro e wc ⟨rfl, hb⟩ ac T
  replace M := M.call hb; clear hb
  refine Zso hK _ _ ?_; clear hK K
  refine Zg2 T (Zw (Zwy rfl rfl (T.e 6 rfl) h2) (rn_not rfl (T.e 0 rfl))) rfl (fun _ T => Zq (Zr0 rfl (T.e 7 rfl) h2 (T.e 0 rfl))) rfl ?_; clear T ac; intro ac T
  refine wpList_nil ?_
  replace T := T.pick [0, 15] rfl
  exact ⟨(T.pick (E' := [(1, .pointer (some ⟨g1, 0, none⟩)), (24, .bool (!(withinB (b.first + b.step * b.note) 0 30)))]) [1, 0] rfl).as (by (try rw [show (!(withinB b.note 0 11)) = false from h2]); (try rfl)), M.mask [true] rfl⟩
 clear T M
 rintro ac wc ⟨T, M⟩
 refine wp_cond_split (T.e 1 rfl) ?_ ?_
 ·intro h3
  (have h3' := h3; try simp only [Zb1, Zb2, Zb3, Zb4, Zb5, Zb6, Zb7] at h3')
  refine Zsr ?_
  refine lq T (Zra rfl evc) ?_; clear T ac; intro ac T
  refine wpList_nil ?_
  replace T := T.pick [0] rfl
  replace M := M.mask [false] rfl
  refine Znr ?_
  refine Zrt ?_
  refine rt_1 T rfl (T.e 0 rfl) ?_
  refine ⟨ret_int ?_, M.below⟩
  unfold checkB
  first | (simp_all [withinB, Bx.due]; done) | (simp_all [withinB, Bx.due]; omega)
 intro h3
 (have h3' := h3; try simp only [Zb1, Zb2, Zb3, Zb4, Zb5, Zb6, Zb7] at h3')
 refine Zsk ?_
 refine wp_seq ?_
 refine Zsr ?_
 refine Zg2 (v1 := (.pointer (some ⟨g1, 5, none⟩))) T (Zq (Zrf (off := 5) rfl (T.e 0 rfl) (fun _ _ _ => by kernel_rfl))) rfl (Zo M 0 0 rfl rfl rfl rfl) rfl ?_; clear T ac; intro ac T
 refine Zl2 ?_
 refine Zoc (first := []) (cap := []) T rfl rfl rfl rfl evf (.cons (T.e 0 rfl) (.cons evc .nil)) Tryz.func85 rfl rfl ?_
 refine Calls.mono (checkSounds5_any _ _ _ b.lows 4 _ (SA.rd M (Zz9 _)) (by first | omega | (simp only [List.length_cons, List.length_nil]; omega))) ?_
 clear T; rintro e wc ⟨rfl, hb⟩ ac T
 replace M := M.call hb; clear hb
 refine lq T (Zra rfl (T.e 0 rfl)) ?_; clear T ac; intro ac T
 replace T := T.pick [0, 4] rfl
 refine Zln ?_
 refine Zsr ?_
 refine Zg2 T (Zq (Zrm rfl (T.e 0 rfl))) rfl (fun _ T => Zq (rn_neq rfl (T.e 0 rfl) evc)) rfl ?_; clear T ac; intro ac T
 replace T := T.pick [0, 2, 3] rfl
 refine Zln ?_
 refine wp_ifn (T.e 0 rfl) ?_ ?_
 ·intro h4
  refine Zsr ?_
  refine Zg2 T (Zq (Zrm rfl (T.e 1 rfl))) rfl (Za 0 rfl rfl) rfl ?_; clear T ac; intro ac T
  refine wpList_nil ?_
  replace T := T.pick [0] rfl
  replace M := M.mask [false] rfl
  refine Znr ?_
  refine Zrt ?_
  refine rt_1 T rfl (T.e 0 rfl) ?_
  refine ⟨ret_int ?_, M.below⟩
  unfold checkB
  first | (simp_all [withinB, Bx.due]; done) | (simp_all [withinB, Bx.due]; omega)
 intro h4
 refine Zsk ?_
 refine wp_seq ?_
 refine Zsr ?_
 refine Zg2 (v1 := (.pointer (some ⟨g1, 6, none⟩))) T (Zq (Zrf (off := 6) rfl (T.e 2 rfl) (fun _ _ _ => by kernel_rfl))) rfl (Zo M 0 0 rfl rfl rfl rfl) rfl ?_; clear T ac; intro ac T
 refine Zl2 ?_
 refine Zoc (first := []) (cap := []) T rfl rfl rfl rfl evf (.cons (T.e 0 rfl) (.cons evc .nil)) Tryz.func85 rfl rfl ?_
 refine Calls.mono (checkSounds5_any _ _ _ b.highs 5 _ (SB.rd M (Zz9 _)) (by first | omega | (simp only [List.length_cons, List.length_nil]; omega))) ?_
 clear T; rintro e wc ⟨rfl, hb⟩ ac T
 replace M := M.call hb; clear hb
 refine lq T (Zra rfl (T.e 0 rfl)) ?_; clear T ac; intro ac T
 replace T := T.pick [0, 6] rfl
 refine Zln ?_
 refine Zsr ?_
 refine Zg2 T (Zq (Zrm rfl (T.e 0 rfl))) rfl (fun _ T => Zq (rn_neq rfl (T.e 0 rfl) evc)) rfl ?_; clear T ac; intro ac T
 replace T := T.pick [0, 2, 3] rfl
 refine Zln ?_
 refine wp_ifn (T.e 0 rfl) ?_ ?_
 ·intro h5
  refine Zsr ?_
  refine Zg2 T (Zq (Zrm rfl (T.e 1 rfl))) rfl (Za 0 rfl rfl) rfl ?_; clear T ac; intro ac T
  refine wpList_nil ?_
  replace T := T.pick [0] rfl
  replace M := M.mask [false] rfl
  refine Znr ?_
  refine Zrt ?_
  refine rt_1 T rfl (T.e 0 rfl) ?_
  refine ⟨ret_int ?_, M.below⟩
  unfold checkB
  first | (simp_all [withinB, Bx.due]; done) | (simp_all [withinB, Bx.due]; omega)
 intro h5
 refine Zsk ?_
 refine Zsr ?_
 refine lq T (Zrr (Mem.nth M 0 rfl) rfl (T.e 2 rfl) rfl) ?_; clear T ac; intro ac T
 refine Zl2 ?_
 refine Zoc (first := []) (cap := []) T rfl rfl rfl rfl evf (.cons (T.e 0 rfl) .nil) Tryz.func87 rfl rfl ?_
 refine Calls.mono (plain5_any b A c B d _) ?_
 clear T; rintro e wc ⟨rfl, hb⟩ ac T
 replace M := M.call hb; clear hb
 refine Zl2 ?_
 refine Zoc (first := []) (cap := []) T rfl rfl rfl rfl evf (.cons (T.e 0 rfl) .nil) Tryz.func86 rfl rfl ?_
 refine Calls.mono (rCheck_any (blankJ b) none 0 _ Rd.empty (by show (0 : Nat) ≤ _; omega)) ?_
 clear T; rintro e wc ⟨rfl, hb⟩ ac T
 replace M := M.call hb; clear hb
 refine lq T (Zra rfl (T.e 0 rfl)) ?_; clear T ac; intro ac T
 refine wpList_nil ?_
 replace T := T.pick [0] rfl
 replace M := M.mask [false] rfl
 refine Znr ?_
 refine rt_1 T rfl (T.e 0 rfl) ?_
 refine ⟨ret_int ?_, M.below⟩
 unfold checkB
 first | (simp_all [withinB, Bx.due]; done) | (simp_all [withinB, Bx.due]; omega)
theorem checkPair5_any (b : Bx) (A : Option Addr) (c : Nat) (B : Option Addr) (d : Nat) (i k : Int) (w : World) (hA : Rd w w.heap.size 4 A b.lows.length (sc b.lows)) (hB : Rd w w.heap.size 4 B b.highs.length (sc b.highs)) (nA : b.lows.length ≤ 1000000) (nB : b.highs.length ≤ 1000000)  :
   Calls Tryz.prog 78 #[bxV b A c B d, .int .i64 i, .int .i64 k] w fun e w' => e = .returned (.int .i64 (checkPB b i k)) ∧ Below w.heap.size w w' := by
 have hlA := hA.len4
 have hlB := hB.len4
 obtain ⟨bA, oA, SA⟩ := Sp.old hA
 obtain ⟨bB, oB, SB⟩ := Sp.old hB
 refine Zpx noEx Tryz.func78 rfl 29 rfl [.agg #[.int .i64 b.first, .int .i64 b.step, .int .i64 b.span, .int .i64 b.press, .int .i64 b.note, .slice A b.lows.length c, .slice B b.highs.length d, .int .i64 b.t0, .int .i64 b.t1, .int .i64 b.r0, .int .i64 b.r1, .int .i64 b.u0, .int .i64 b.u1, .int .i64 b.d0, .int .i64 b.d1, .int .i64 b.a0, .int .i64 b.a1, .int .i64 b.b0, .int .i64 b.b1, .int .i64 b.le, .int .i64 b.me], .int .i64 i, .int .i64 k] rfl rfl (Mem.init w _) ?_
 intro ac wc T M
 refine Zsr ?_
 refine Zl2 ?_
 refine Zob M T rfl rfl rfl rfl (T.e 0 rfl) rfl ?_; clear M T; intro g1 wc ac M T
 refine lq T (Zra rfl evc) ?_; clear T ac; intro ac T
 replace T := T.pick [1, 3, 4] rfl
 refine Zln ?_
 refine wp_seq ?_
 refine Zsr ?_
 refine lq T (Zrr (Mem.nth M 0 rfl) rfl (T.e 0 rfl) rfl) ?_; clear T ac; intro ac T
 refine Zl2 ?_
 refine Zoc (first := []) (cap := []) T rfl rfl rfl rfl evf (.cons (T.e 0 rfl) .nil) Tryz.func28 rfl rfl ?_
 refine Calls.mono (Check5_any b _ _ _ _ _ (SA.rd M (Zz9 _)) (SB.rd M (Zz9 _)) (by omega) (by omega)) ?_
 clear T; rintro e wc ⟨rfl, hb⟩ ac T
 replace M := M.call hb; clear hb
 refine lq T (Zra rfl (T.e 0 rfl)) ?_; clear T ac; intro ac T
 replace T := T.pick [0, 3, 4, 5] rfl
 refine Zln ?_
 refine Zsr ?_
 refine Zg2 T (Zq (Zrm rfl (T.e 0 rfl))) rfl (fun _ T => Zq (rn_neq rfl (T.e 0 rfl) evc)) rfl ?_; clear T ac; intro ac T
 replace T := T.pick [0, 2, 3, 4, 5] rfl
 refine Zln ?_
 refine wp_ifn (T.e 0 rfl) ?_ ?_
 ·intro h1
  refine Zsr ?_
  refine Zg2 T (Zq (Zrm rfl (T.e 1 rfl))) rfl (Za 0 rfl rfl) rfl ?_; clear T ac; intro ac T
  refine wpList_nil ?_
  replace T := T.pick [0] rfl
  replace M := M.mask [false] rfl
  refine Znr ?_
  refine Zrt ?_
  refine rt_1 T rfl (T.e 0 rfl) ?_
  refine ⟨ret_int ?_, M.below⟩
  unfold checkPB
  first | (simp_all [withinB]; done) | (simp_all [withinB]; omega)
 intro h1
 refine Zsk ?_
 refine wp_seq ?_
 refine cut_seq (fun ac wc => Tm ac 29 [(28, .bool ((!(withinB i 0 (((b.lows.length : Nat) : Int) - 1))) || (!(withinB k 0 (((b.highs.length : Nat) : Int) - 1)))))] ∧ Mem w noEx wc []) ?_ ?_
 ·refine wp_region_lit ?_
  refine Zg5 (v2 := (.pointer (some ⟨g1, 5, none⟩))) T (Zq (Zrm rfl (T.e 3 rfl))) rfl (Zf 5 3 rfl rfl) rfl (Zo M 0 0 rfl rfl rfl rfl) rfl (Zl Tryz.underlying24 0 rfl rfl) rfl (fun _ T => Zq (rn_sub rfl (T.e 0 rfl) evc (by omega))) rfl ?_; clear T ac; intro ac T
  refine Zl2 ?_
  refine Zoc (first := []) (cap := []) T rfl rfl rfl rfl evf (.cons (T.e 4 rfl) (.cons evc (.cons (T.e 0 rfl) .nil))) Tryz.func73 rfl rfl ?_
  refine Calls.mono (among5_any i 0 (((b.lows.length : Nat) : Int) - 1) _) ?_
  clear T; rintro e wc ⟨rfl, hb⟩ ac T
  replace M := M.call hb; clear hb
  refine Zg2 T (Zq (rn_not rfl (T.e 0 rfl))) rfl (Zm 0 rfl rfl) rfl ?_; clear T ac; intro ac T
  rcases Bool.eq_false_or_eq_true (!(withinB i 0 (((b.lows.length : Nat) : Int) - 1))) with h2 | h2
  ·refine Zg8 T (Zp (Zwn rfl rfl (T.e 0 rfl) h2)) rfl (fun _ T => Zp (Zwn rfl rfl (T.e 1 rfl) h2)) rfl (fun _ T => Zp (Zwn rfl rfl (T.e 2 rfl) h2)) rfl (fun _ T => Zp (Zwn rfl rfl (T.e 3 rfl) h2)) rfl (fun _ T => Zp (Zwn rfl rfl (T.e 4 rfl) h2)) rfl (fun _ T => Zp (Zwn rfl rfl (T.e 5 rfl) h2)) rfl (fun _ T => Zp (Zwn rfl rfl (T.e 6 rfl) h2)) rfl (fun _ T => Zq (Zr1 rfl (T.e 7 rfl) h2 evc)) rfl ?_; clear T ac; intro ac T
   refine wpList_nil ?_
   replace T := T.pick [0] rfl
   replace M := M.mask [false] rfl
   exact ⟨(T.pick (E' := [(28, .bool true)]) [0] rfl).as (by (try rw [show (!(withinB i 0 (((b.lows.length : Nat) : Int) - 1))) = true from h2]); (try rfl)), M.mask [] rfl⟩
  refine Zg5 (v2 := (.pointer (some ⟨g1, 6, none⟩))) T (Zw (Zwy rfl rfl (T.e 0 rfl) h2) (Zrm rfl (T.e 12 rfl))) rfl (fun _ T => Zw (Zwy rfl rfl (T.e 1 rfl) h2) (Zrf (off := 6) rfl (T.e 11 rfl) (fun _ _ _ => by kernel_rfl))) rfl (fun _ T => Zw (Zwy rfl rfl (T.e 2 rfl) h2) (Zro (Mem.nth M 0 rfl) rfl (T.e 0 rfl) rfl)) rfl (fun _ T => Zw (Zwy rfl rfl (T.e 3 rfl) h2) (Zrl rfl Tryz.underlying24 (T.e 0 rfl))) rfl (fun _ T => Zw (Zwy rfl rfl (T.e 4 rfl) h2) (rn_sub rfl (T.e 0 rfl) evc (by omega))) rfl ?_; clear T ac; intro ac T
  refine l_w (Zwy rfl rfl (T.e 5 rfl) h2) ?_; intro K hK
  refine Zoc (first := []) (cap := []) T rfl rfl rfl rfl evf (.cons (T.e 4 rfl) (.cons evc (.cons (T.e 0 rfl) .nil))) Tryz.func73 rfl rfl ?_
  refine Calls.mono (among5_any k 0 (((b.highs.length : Nat) : Int) - 1) _) ?_
  clear T; rintro e wc ⟨rfl, hb⟩ ac T
  replace M := M.call hb; clear hb
  refine Zso hK _ _ ?_; clear hK K
  refine Zg2 T (Zw (Zwy rfl rfl (T.e 6 rfl) h2) (rn_not rfl (T.e 0 rfl))) rfl (fun _ T => Zq (Zr0 rfl (T.e 7 rfl) h2 (T.e 0 rfl))) rfl ?_; clear T ac; intro ac T
  refine wpList_nil ?_
  replace T := T.pick [0] rfl
  replace M := M.mask [false] rfl
  exact ⟨(T.pick (E' := [(28, .bool (!(withinB k 0 (((b.highs.length : Nat) : Int) - 1))))]) [0] rfl).as (by (try rw [show (!(withinB i 0 (((b.lows.length : Nat) : Int) - 1))) = false from h2]); (try rfl)), M.mask [] rfl⟩
 clear T M
 rintro ac wc ⟨T, M⟩
 refine wp_cond_split (T.e 0 rfl) ?_ ?_
 ·intro h3
  (have h3' := h3; try simp only [Zb1, Zb2, Zb3, Zb4, Zb5, Zb6, Zb7] at h3')
  refine Zsr ?_
  refine lq T (Zra rfl evc) ?_; clear T ac; intro ac T
  replace T := T.pick [0] rfl
  refine Zln ?_
  refine wp_ret ?_
  refine Zrt ?_
  refine rt_1 T rfl (T.e 0 rfl) ?_
  refine ⟨ret_int ?_, M.below⟩
  unfold checkPB
  first | (simp_all [withinB]; done) | (simp_all [withinB]; omega)
 intro h3
 (have h3' := h3; try simp only [Zb1, Zb2, Zb3, Zb4, Zb5, Zb6, Zb7] at h3')
 refine Zsk ?_
 refine Zsr ?_
 refine lq T (Zra rfl evc) ?_; clear T ac; intro ac T
 replace T := T.pick [0] rfl
 refine Zln ?_
 refine wp_ret ?_
 refine rt_1 T rfl (T.e 0 rfl) ?_
 refine ⟨ret_int ?_, M.below⟩
 unfold checkPB
 first | (simp_all [withinB]; done) | (simp_all [withinB]; omega)
theorem Due5_any (l : Lw) (n : Int) (w : World)  :
   Calls Tryz.prog 19 #[.agg #[.int .i64 l.first, .int .i64 l.step, .int .i64 l.span, .int .i64 l.press], .int .i64 n] w fun e w' => e = .returned (.tuple #[.int .i64 ((dueE l n).1), .int .i64 ((dueE l n).2)]) ∧ Below w.heap.size w w' := by
 refine Zpx noEx Tryz.func19 rfl 18 rfl [.agg #[.int .i64 l.first, .int .i64 l.step, .int .i64 l.span, .int .i64 l.press], .int .i64 n] rfl rfl (Mem.init w _) ?_
 intro ac wc T M
 refine Zsr ?_
 refine Zl2 ?_
 refine Zob M T rfl rfl rfl rfl (T.e 0 rfl) rfl ?_; clear M T; intro g1 wc ac M T
 refine Zg2 T (Zq (Zra rfl evc)) rfl (Zc rfl) rfl ?_; clear T ac; intro ac T
 replace T := T.pick [2, 4] rfl
 refine Zln ?_
 refine wp_seq ?_
 refine Zsr ?_
 refine lq T (Zrr (Mem.nth M 0 rfl) rfl (T.e 0 rfl) rfl) ?_; clear T ac; intro ac T
 refine Zl2 ?_
 refine Zoc (first := []) (cap := []) T rfl rfl rfl rfl evf (.cons (T.e 0 rfl) .nil) Tryz.func72 rfl rfl ?_
 refine Calls.mono (checkLaw5_any l _) ?_
 clear T; rintro e wc ⟨rfl, hb⟩ ac T
 replace M := M.call hb; clear hb
 refine lq T (Zra rfl (T.e 0 rfl)) ?_; clear T ac; intro ac T
 replace T := T.pick [0, 3, 4] rfl
 refine Zln ?_
 refine Zsr ?_
 refine Zg2 T (Zq (Zrm rfl (T.e 0 rfl))) rfl (fun _ T => Zq (rn_neq rfl (T.e 0 rfl) evc)) rfl ?_; clear T ac; intro ac T
 replace T := T.pick [0, 2, 3, 4] rfl
 refine Zln ?_
 refine wp_ifn (T.e 0 rfl) ?_ ?_
 ·intro h1
  refine Zsr ?_
  refine Zg3 T (Zq (Zrm rfl (T.e 1 rfl))) rfl (Zc rfl) rfl (Za 1 rfl rfl) rfl ?_; clear T ac; intro ac T
  refine wpList_nil ?_
  replace T := T.pick [0, 1] rfl
  replace M := M.mask [false] rfl
  refine Znr ?_
  refine Zrt ?_
  refine rt_2 T rfl (T.e 1 rfl) (T.e 0 rfl) ?_
  have e9 : dueE l n = (0, lawE l) := by unfold dueE; rw [if_pos (by assumption)]
  rw [e9]
  exact ⟨rfl, M.below⟩
 intro h1
 have gl := lawE_good (l := l) (by simpa using h1)
 obtain ⟨gl1, gl2, gl3, gl4⟩ := gl
 refine Zsk ?_
 refine wp_seq ?_
 refine Zsr ?_
 refine lq T (Zrm rfl (T.e 3 rfl)) ?_; clear T ac; intro ac T
 refine Zl2 ?_
 refine Zoc (first := []) (cap := []) T rfl rfl rfl rfl evf (.cons (T.e 0 rfl) (.cons evc (.cons evc .nil))) Tryz.func73 rfl rfl ?_
 refine Calls.mono (among5_any n 0 11 _) ?_
 clear T; rintro e wc ⟨rfl, hb⟩ ac T
 replace M := M.call hb; clear hb
 refine lq T (rn_not rfl (T.e 0 rfl)) ?_; clear T ac; intro ac T
 replace T := T.pick [0, 5, 6] rfl
 refine Zln ?_
 refine wp_cond_split (T.e 0 rfl) ?_ ?_
 ·intro h2
  (have h2' := h2; try simp only [Zb1, Zb2, Zb3, Zb4, Zb5, Zb6, Zb7] at h2')
  refine Zsr ?_
  refine Zg2 T (Zq (Zra rfl evc)) rfl (Zc rfl) rfl ?_; clear T ac; intro ac T
  refine wpList_nil ?_
  replace T := T.pick [0, 1] rfl
  replace M := M.mask [false] rfl
  refine Znr ?_
  refine Zrt ?_
  refine rt_2 T rfl (T.e 1 rfl) (T.e 0 rfl) ?_
  have e9 : dueE l n = (0, 1) := by unfold dueE; rw [if_neg (by simp_all), if_pos (by first | omega | (unfold withinB at *; simp_all; done) | (unfold withinB at *; simp_all; omega))]
  rw [e9]
  exact ⟨rfl, M.below⟩
 intro h2
 (have h2' := h2; try simp only [Zb1, Zb2, Zb3, Zb4, Zb5, Zb6, Zb7] at h2')
 have hn9 : 0 ≤ n ∧ n ≤ 11 := by unfold withinB at h2; simpa using h2
 refine Zsk ?_
 refine Zsr ?_
 refine Zg2 T (Zq (Zrr (Mem.nth M 0 rfl) rfl (T.e 1 rfl) rfl)) rfl (Zm 3 rfl rfl) rfl ?_; clear T ac; intro ac T
 refine Zl2 ?_
 refine Zoc (first := []) (cap := []) T rfl rfl rfl rfl evf (.cons (T.e 1 rfl) (.cons (T.e 0 rfl) .nil)) Tryz.func74 rfl rfl ?_
 refine Calls.mono (due5_any l n _ (by (try dsimp only); omega) (by (try dsimp only); omega) (by (try dsimp only); omega)) ?_
 clear T; rintro e wc ⟨rfl, hb⟩ ac T
 replace M := M.call hb; clear hb
 refine Zg2 T (Zq (Zra rfl (T.e 0 rfl))) rfl (Zc rfl) rfl ?_; clear T ac; intro ac T
 refine wpList_nil ?_
 replace T := T.pick [0, 1] rfl
 replace M := M.mask [false] rfl
 refine Znr ?_
 refine rt_2 T rfl (T.e 1 rfl) (T.e 0 rfl) ?_
 have e9 : dueE l n = (l.first + l.step * n, 0) := by unfold dueE; rw [if_neg (by simp_all), if_neg (fun h => h hn9)]
 rw [e9]
 exact ⟨rfl, M.below⟩
theorem beat5_any (lo hi : Snd) (p : Int) (w : World) (gl : lo.good) (gh : hi.good) (hp : 0 ≤ p ∧ p ≤ 3) :
  Calls Tryz.prog 79 #[.agg #[.int .i64 lo.t0, .int .i64 lo.t1, .int .i64 lo.s0, .int .i64 lo.s1], .agg #[.int .i64 hi.t0, .int .i64 hi.t1, .int .i64 hi.s0, .int .i64 hi.s1], .int .i64 p] w fun e w' => e = .returned (.agg #[.int .i64 ((beatP lo hi p).1), .int .i64 ((beatP lo hi p).2)]) ∧ Below w.heap.size w w' := by
 obtain ⟨g1, g2⟩ := gl
 obtain ⟨g3, g4⟩ := gh
 have m1 := mulB (a := hi.s0 - lo.s1) (b := p) (by omega) (by omega)
 have m2 := mulB (a := hi.s1 - lo.s0) (b := p) (by omega) (by omega)
 refine Zpx noEx Tryz.func79 rfl 42 rfl [.agg #[.int .i64 lo.t0, .int .i64 lo.t1, .int .i64 lo.s0, .int .i64 lo.s1], .agg #[.int .i64 hi.t0, .int .i64 hi.t1, .int .i64 hi.s0, .int .i64 hi.s1], .int .i64 p] rfl rfl (Mem.init w _) ?_
 intro ac wc T M
 refine Zsr ?_
 refine Zl2 ?_
 refine Zob M T rfl rfl rfl rfl (T.e 0 rfl) rfl ?_; clear M T; intro g1 wc ac M T
 refine Zl2 ?_
 refine Zob M T rfl rfl rfl rfl (T.e 2 rfl) rfl ?_; clear M T; intro g2 wc ac M T
 refine Zl2 ?_
 refine Zoa M T rfl rfl rfl rfl ?_; clear M T; intro g3 wc ac M T
 replace T := T.pick [0, 1, 2, 5] rfl
 refine Zln ?_
 refine Zsr ?_
 refine Zg8 (v1 := (.pointer (some ⟨g2, 0, none⟩))) (v2 := (.pointer (some ⟨g2, 0, none⟩))) (v4 := (.pointer (some ⟨g1, 0, none⟩))) (v5 := (.pointer (some ⟨g1, 1, none⟩))) (v8 := (.pointer (some ⟨g2, 2, none⟩))) T (Zq (Zrf (off := 0) rfl (T.e 1 rfl) (fun _ _ _ => by kernel_rfl))) rfl (Zf 0 0 rfl rfl) rfl (Zo M 1 0 rfl rfl rfl rfl) rfl (Zf 0 5 rfl rfl) rfl (Zf 1 0 rfl rfl) rfl (Zo M 2 0 rfl rfl rfl rfl) rfl (fun _ T => Zq (rn_sub rfl (T.e 3 rfl) (T.e 0 rfl) (by omega))) rfl (Zf 2 8 rfl rfl) rfl ?_; clear T ac; intro ac T
 refine Zg8 (v1 := (.pointer (some ⟨g2, 2, none⟩))) (v3 := (.pointer (some ⟨g1, 2, none⟩))) (v4 := (.pointer (some ⟨g1, 3, none⟩))) T (Zq (Zrf (off := 0) rfl (T.e 0 rfl) (fun _ _ _ => by kernel_rfl))) rfl (Zo M 1 0 rfl rfl rfl rfl) rfl (Zf 2 12 rfl rfl) rfl (Zf 1 0 rfl rfl) rfl (Zo M 2 0 rfl rfl rfl rfl) rfl (fun _ T => Zq (rn_sub rfl (T.e 3 rfl) (T.e 0 rfl) (by omega))) rfl (Zm 17 rfl rfl) rfl (fun _ T => Zq (rn_mul rfl (T.e 1 rfl) (T.e 0 rfl) (by omega))) rfl ?_; clear T ac; intro ac T
 refine Zg8 (v2 := (.pointer (some ⟨g2, 0, none⟩))) (v3 := (.pointer (some ⟨g2, 1, none⟩))) (v5 := (.pointer (some ⟨g1, 0, none⟩))) (v6 := (.pointer (some ⟨g1, 0, none⟩))) T (Zq (rn_add rfl (T.e 9 rfl) (T.e 0 rfl) (by omega))) rfl (Zf 0 18 rfl rfl) rfl (Zf 1 0 rfl rfl) rfl (Zo M 1 0 rfl rfl rfl rfl) rfl (Zf 0 22 rfl rfl) rfl (Zf 0 0 rfl rfl) rfl (Zo M 2 0 rfl rfl rfl rfl) rfl (fun _ T => Zq (rn_sub rfl (T.e 3 rfl) (T.e 0 rfl) (by omega))) rfl ?_; clear T ac; intro ac T
 refine Zg8 (v1 := (.pointer (some ⟨g2, 2, none⟩))) (v2 := (.pointer (some ⟨g2, 3, none⟩))) (v4 := (.pointer (some ⟨g1, 2, none⟩))) (v5 := (.pointer (some ⟨g1, 2, none⟩))) T (Zq (Zrf (off := 2) rfl (T.e 25 rfl) (fun _ _ _ => by kernel_rfl))) rfl (Zf 1 0 rfl rfl) rfl (Zo M 1 0 rfl rfl rfl rfl) rfl (Zf 2 29 rfl rfl) rfl (Zf 0 0 rfl rfl) rfl (Zo M 2 0 rfl rfl rfl rfl) rfl (fun _ T => Zq (rn_sub rfl (T.e 3 rfl) (T.e 0 rfl) (by omega))) rfl (Zm 34 rfl rfl) rfl ?_; clear T ac; intro ac T
 refine Zg3 (v3 := (.agg #[.int .i64 ((hi.t0 - lo.t1) + ((hi.s0 - lo.s1) * p)), .int .i64 ((hi.t1 - lo.t0) + ((hi.s1 - lo.s0) * p))])) T (Zq (rn_mul rfl (T.e 1 rfl) (T.e 0 rfl) (by omega))) rfl (fun _ T => Zq (rn_add rfl (T.e 9 rfl) (T.e 0 rfl) (by omega))) rfl (fun _ T => Zq (rn_build rfl (.cons (T.e 17 rfl) (.cons (T.e 0 rfl) .nil)) (fun _ => by kernel_rfl))) rfl ?_; clear T ac; intro ac T
 refine Zl2 ?_
 refine Zos M T rfl rfl (T.e 35 rfl) (T.e 0 rfl) rfl .head rfl (by simp) rfl (by kernel_rfl) ?_; clear M T; intro wc ac M T
 refine wpList_nil ?_
 replace T := T.pick [35] rfl
 replace M := M.mask [true, false, false] rfl
 refine Znr ?_
 refine rt_c M T rfl (T.e 0 rfl) (Zne (i := 0) rfl) rfl ?_
 have e1 : (beatP lo hi p).1 = hi.t0 - lo.t1 + (hi.s0 - lo.s1) * p := by unfold beatP riseP; rw [Int.sub_mul, Int.mul_comm p hi.s0, Int.mul_comm p lo.s1]; omega
 have e2 : (beatP lo hi p).2 = hi.t1 - lo.t0 + (hi.s1 - lo.s0) * p := by unfold beatP riseP; rw [Int.sub_mul, Int.mul_comm p hi.s1, Int.mul_comm p lo.s0]; omega
 rw [e1, e2]
 exact ⟨rfl, M.below⟩
theorem kept5_any (l : Lw) (note a r : Int) (w : World) (gl : l.good) (hnt : 0 ≤ note ∧ note ≤ 11) (hd : 0 ≤ l.first + l.step * note ∧ l.first + l.step * note ≤ 30) (ha : -100 ≤ a ∧ a ≤ 100) (hr : -100 ≤ r ∧ r ≤ 100) :
   Calls Tryz.prog 116 #[.agg #[.int .i64 l.first, .int .i64 l.step, .int .i64 l.span, .int .i64 l.press], .int .i64 note, .int .i64 a, .int .i64 r] w fun e w' => e = .returned (.bool (agreeP l (l.first + l.step * note) a r)) ∧ Below w.heap.size w w' := by
 obtain ⟨gl1, gl2, gl3, gl4⟩ := gl
 refine Zpx noEx Tryz.func116 rfl 35 rfl [.agg #[.int .i64 l.first, .int .i64 l.step, .int .i64 l.span, .int .i64 l.press], .int .i64 note, .int .i64 a, .int .i64 r] rfl rfl (Mem.init w _) ?_
 intro ac wc T M
 refine Zsr ?_
 refine Zl2 ?_
 refine Zob M T rfl rfl rfl rfl (T.e 0 rfl) rfl ?_; clear M T; intro g1 wc ac M T
 refine lq T (Zra rfl evc) ?_; clear T ac; intro ac T
 replace T := T.pick [1, 3, 4, 5] rfl
 refine Zln ?_
 refine wp_seq ?_
 refine Zsr ?_
 refine lq T (Zra rfl evc) ?_; clear T ac; intro ac T
 refine Zln ?_
 refine wp_block ?_
 refine wp_loop_n (fun mz ac wc => ∃ (k : Nat), mz = (l.press + 1 - k).toNat ∧ ((k : Int) ≤ l.press + 1) ∧ (((List.range k).all fun (p : Nat) => withinB (a + (p : Int) * r - (l.first + l.step * note)) (-l.span) l.span) = true) ∧ Tm ac 35 [(1, .int .i64 note), (2, .int .i64 a), (3, .int .i64 r), (4, .pointer (some ⟨g1, 0, none⟩)), (9, .int .i64 (k : Int))] ∧ Mem w noEx wc [(g1, .cells [.int .i64 l.first, .int .i64 l.step, .int .i64 l.span, .int .i64 l.press])]) ?_ ?_
 ·exact ⟨_, 0, rfl, (by omega), rfl, T.pick [2, 3, 4, 1, 0] rfl, M.mask [true] rfl⟩
 clear T M
 rintro mz ac wc ⟨k, hmm1, hk, H, T, M⟩
 refine wp_seq ?_
 refine Zsr ?_
 refine Zg4 (v2 := (.pointer (some ⟨g1, 3, none⟩))) T (Zq (Zrm rfl (T.e 4 rfl))) rfl (Zf 3 4 rfl rfl) rfl (Zo M 0 0 rfl rfl rfl rfl) rfl (fun _ T => Zq (rn_leq rfl (T.e 2 rfl) (T.e 0 rfl))) rfl ?_; clear T ac; intro ac T
 replace T := T.pick [0, 4, 5, 6, 7, 8] rfl
 refine Zln ?_
 refine wp_if (T.e 0 rfl) ?_ ?_
 ·intro h1
  have m1 := mulB (a := r) (b := (k : Int)) (by omega) (by omega)
  refine Zsk ?_
  refine wp_seq ?_
  refine wp_block ?_
  refine wp_seq ?_
  refine Zgs M (M.mask [true] rfl) 19 (by kernel_rfl) rfl (by kernel_rfl) ?_
  clear M; intro wc M
  refine gq T 0 1 rfl (fun _ _ _ _ _ => (Zrm rfl (T.e 2 rfl))) ?_; clear T ac; intro ac T
  refine gq T 1 3 rfl (fun _ _ _ _ _ => (Zrm rfl (T.e 4 rfl))) ?_; clear T ac; intro ac T
  refine gq T 2 7 rfl (fun _ _ _ _ _ => (Zrm rfl (T.e 7 rfl))) ?_; clear T ac; intro ac T
  refine gq T 3 15 rfl (fun _ _ _ _ _ => (rn_mul rfl (T.e 1 rfl) (T.e 0 rfl) (by omega))) ?_; clear T ac; intro ac T
  refine gq T 4 31 rfl (fun _ _ _ _ _ => (rn_add rfl (T.e 3 rfl) (T.e 0 rfl) (by omega))) ?_; clear T ac; intro ac T
  refine gq T 5 63 rfl (fun B w' hD hl hS => (Zrr (Mem.nth (show Mem w noEx w' _ from hS) 0 rfl) rfl (T.e 9 rfl) rfl)) ?_; clear T ac; intro ac T
  refine gq T 6 127 rfl (fun _ _ _ _ _ => (Zrm rfl (T.e 7 rfl))) ?_; clear T ac; intro ac T
  refine gq (v := (.pointer (some ⟨g1, 2, none⟩))) T 8 383 rfl (fun _ _ _ _ _ => (Zrf (off := 2) rfl (T.e 11 rfl) (fun _ _ _ => by kernel_rfl))) ?_; clear T ac; intro ac T
  refine gq T 9 895 rfl (fun B w' hD hl hS => (Zro (Mem.nth (show Mem w noEx w' _ from hS) 0 rfl) rfl (T.e 0 rfl) rfl)) ?_; clear T ac; intro ac T
  refine gq T 11 2943 rfl (fun B w' hD hl hS => (Zrr (Mem.nth (show Mem w noEx w' _ from hS) 0 rfl) rfl (T.e 13 rfl) rfl)) ?_; clear T ac; intro ac T
  refine gq T 12 7039 rfl (fun _ _ _ _ _ => (Zrm rfl (T.e 11 rfl))) ?_; clear T ac; intro ac T
  refine gq (v := (.pointer (some ⟨g1, 2, none⟩))) T 14 23423 rfl (fun _ _ _ _ _ => (Zrf (off := 2) rfl (T.e 15 rfl) (fun _ _ _ => by kernel_rfl))) ?_; clear T ac; intro ac T
  refine gq T 15 56191 rfl (fun B w' hD hl hS => (Zro (Mem.nth (show Mem w noEx w' _ from hS) 0 rfl) rfl (T.e 0 rfl) rfl)) ?_; clear T ac; intro ac T
  refine gw 7 56319 ?_; intro K hK
  refine Zoc (first := []) (cap := []) T rfl rfl rfl rfl evf (.cons (T.e 7 rfl) (.cons (T.e 6 rfl) .nil)) Tryz.func74 rfl rfl ?_
  refine Calls.mono (due5_any l note _ (by (try dsimp only); omega) (by (try dsimp only); omega) (by (try dsimp only); omega)) ?_
  clear T; rintro e wc ⟨rfl, hb⟩ ac T
  replace M := M.call hb; clear hb
  refine Zso hK _ _ (M.mask [true] rfl) ?_; clear hK K
  refine gq T 10 57343 rfl (fun _ _ _ _ _ => (rn_sub rfl (T.e 0 rfl) (T.e 5 rfl) (by omega))) ?_; clear T ac; intro ac T
  refine gw 13 65535 ?_; intro K hK
  refine Zoc (first := []) (cap := []) T rfl rfl rfl rfl evf (.cons (T.e 5 rfl) (.cons (T.e 4 rfl) .nil)) Tryz.func74 rfl rfl ?_
  refine Calls.mono (due5_any l note _ (by (try dsimp only); omega) (by (try dsimp only); omega) (by (try dsimp only); omega)) ?_
  clear T; rintro e wc ⟨rfl, hb⟩ ac T
  replace M := M.call hb; clear hb
  refine Zso hK _ _ (M.mask [true] rfl) ?_; clear hK K
  refine gq T 16 131071 rfl (fun _ _ _ _ _ => (rn_add rfl (T.e 0 rfl) (T.e 3 rfl) (by omega))) ?_; clear T ac; intro ac T
  refine gw 17 262143 ?_; intro K hK
  refine Zoc (first := []) (cap := []) T rfl rfl rfl rfl evf (.cons (T.e 12 rfl) (.cons (T.e 2 rfl) (.cons (T.e 0 rfl) .nil))) Tryz.func73 rfl rfl ?_
  refine Calls.mono (among5_any (a + (r * (k : Int))) ((l.first + l.step * note) - l.span) ((l.first + l.step * note) + l.span) _) ?_
  clear T; rintro e wc ⟨rfl, hb⟩ ac T
  replace M := M.call hb; clear hb
  refine Zso hK _ _ (M.mask [true] rfl) ?_; clear hK K
  refine gq T 18 524287 rfl (fun _ _ _ _ _ => (rn_not rfl (T.e 0 rfl))) ?_; clear T ac; intro ac T
  refine Zgd (by kernel_rfl) ?_
  replace T := T.pick [0, 20, 21, 22, 23, 24] rfl
  refine nm_then ?_
  refine wp_cond_split (T.e 0 rfl) ?_ ?_
  ·intro h2
   (have h2' := h2; try simp only [Zb1, Zb2, Zb3, Zb4, Zb5, Zb6, Zb7] at h2')
   refine Zsr ?_
   refine lq T (Zra rfl evc) ?_; clear T ac; intro ac T
   refine wpList_nil ?_
   replace T := T.pick [0] rfl
   replace M := M.mask [false] rfl
   refine Znr ?_
   refine Zrb ?_
   refine Zrt ?_
   refine Zrt ?_
   refine Zrb ?_
   refine Zrt ?_
   refine rt_1 T rfl (T.e 0 rfl) ?_
   have e9 : agreeP l (l.first + l.step * note) a r = false := by refine Bool.eq_false_iff.2 fun h9 => ?_; have := agree_iff.1 h9 (k : Int) (by omega) (by omega); rw [Int.mul_comm] at this; unfold withinB at *; simp_all; omega
   rw [e9]
   exact ⟨rfl, M.below⟩
  intro h2
  (have h2' := h2; try simp only [Zb1, Zb2, Zb3, Zb4, Zb5, Zb6, Zb7] at h2')
  refine wp_skip ?_
  refine Znb ?_
  refine nm_then ?_
  refine wp_region_lit ?_
  refine Zg2 T (Zq (Zrm rfl (T.e 5 rfl))) rfl (fun _ T => Zq (rn_add rfl (T.e 0 rfl) evc (by omega))) rfl ?_; clear T ac; intro ac T
  refine l_q (v := (.int .i64 ((k : Int) + 1))) (T.pick [0, 1, 2, 3, 4, 5, 6] rfl) rfl rfl rfl rfl (Zra rfl (T.e 0 rfl)) ?_; clear T ac; intro ac T
  replace T := T.pick [0, 4, 5, 6, 7] rfl
  refine Zln ?_
  exact ⟨_, by omega, k + 1, rfl, (by omega), (by rw [agree_next (by omega), H, Bool.true_and]; unfold withinB at *; simp_all [Int.mul_comm]; omega), T.pick [1, 2, 3, 4, 0] rfl, M.mask [true] rfl⟩
 intro h1
 refine wp_exit ?_
 refine Zet ?_
 refine Zet ?_
 refine ex_hit ?_
 refine nm_then ?_
 refine Zsr ?_
 refine lq T (Zra rfl evc) ?_; clear T ac; intro ac T
 refine wpList_nil ?_
 replace T := T.pick [0] rfl
 replace M := M.mask [false] rfl
 refine Znr ?_
 refine rt_1 T rfl (T.e 0 rfl) ?_
 have e9 : agreeP l (l.first + l.step * note) a r = true := by unfold agreeP; rw [show (l.press + 1).toNat = k by omega]; exact H
 rw [e9]
 exact ⟨rfl, M.below⟩
theorem Mem.tail9 {w0 w : World} {ex : Nat → Prop} {K A B C : List (Nat × BA)} (M : Mem w0 ex w (K ++ (A ++ B ++ C))) : Mem w0 ex w (K ++ (A ++ C ++ B)) :=
 have hp : (K ++ (A ++ B ++ C)).Perm (K ++ (A ++ C ++ B)) := List.Perm.append_left K (by rw [List.append_assoc, List.append_assoc]; exact List.Perm.append_left A List.perm_append_comm)
 ⟨M.os, M.tape, M.output, M.size, M.block, fun p h => M.blk p (hp.mem_iff.2 h), (hp.map _).nodup_iff.1 M.nd⟩
theorem Els.own {LL : List LE} {I J : List (Nat × BA)} {l : List Int} {B : Option Addr} {c : Nat} (h : Els LL I) (hs : ∃ b o, ∀ (w : World) (ex : Nat → Prop), Sp w ex J B l.length 1 b o (ic l)) : Els (LL ++ [(l, B, c)]) (I ++ J) := fun x hx => by
 rcases List.mem_append.1 hx with hx | hx
 ·exact h.mono (Zsl _ _) x hx
 ·rw [List.mem_singleton.1 hx]
  obtain ⟨b, o, h1⟩ := hs
  exact ⟨b, o, fun w ex => (h1 w ex).mono (Zsq _ _)⟩
theorem keeps5_any (l : Lw) (note : Int) (lo hi : Snd) (w : World) (gl : l.good) (hnt : 0 ≤ note ∧ note ≤ 11) (hd : 0 ≤ l.first + l.step * note ∧ l.first + l.step * note ≤ 30) (glo : lo.good) (ghi : hi.good)  :
   Calls Tryz.prog 81 #[.agg #[.int .i64 l.first, .int .i64 l.step, .int .i64 l.span, .int .i64 l.press], .int .i64 note, .agg #[.int .i64 lo.t0, .int .i64 lo.t1, .int .i64 lo.s0, .int .i64 lo.s1], .agg #[.int .i64 hi.t0, .int .i64 hi.t1, .int .i64 hi.s0, .int .i64 hi.s1]] w fun e w' => e = .returned (.int .i64 (keepsP l (l.first + l.step * note) [lo, hi])) ∧ Below w.heap.size w w' := by
 obtain ⟨gl1, gl2, gl3, gl4⟩ := id gl
 obtain ⟨g1, g2⟩ := id glo
 obtain ⟨g3, g4⟩ := id ghi
 refine Zpx noEx Tryz.func81 rfl 64 rfl [.agg #[.int .i64 l.first, .int .i64 l.step, .int .i64 l.span, .int .i64 l.press], .int .i64 note, .agg #[.int .i64 lo.t0, .int .i64 lo.t1, .int .i64 lo.s0, .int .i64 lo.s1], .agg #[.int .i64 hi.t0, .int .i64 hi.t1, .int .i64 hi.s0, .int .i64 hi.s1]] rfl rfl (Mem.init w _) ?_
 intro ac wc T M
 refine Zsr ?_
 refine Zl2 ?_
 refine Zob M T rfl rfl rfl rfl (T.e 0 rfl) rfl ?_; clear M T; intro g1 wc ac M T
 refine Zl2 ?_
 refine Zob M T rfl rfl rfl rfl (T.e 3 rfl) rfl ?_; clear M T; intro g2 wc ac M T
 refine Zl2 ?_
 refine Zob M T rfl rfl rfl rfl (T.e 5 rfl) rfl ?_; clear M T; intro g3 wc ac M T
 refine lq T (Zra rfl evc) ?_; clear T ac; intro ac T
 replace T := T.pick [1, 2, 3, 5] rfl
 refine Zln ?_
 refine Zsr ?_
 refine Zg2 T (Zq (Zra rfl evc)) rfl (Zc rfl) rfl ?_; clear T ac; intro ac T
 refine Zln ?_
 refine wp_seq ?_
 refine Zsr ?_
 refine Zg8 (v1 := (.pointer (some ⟨g3, 0, none⟩))) (v2 := (.pointer (some ⟨g3, 0, none⟩))) (v4 := (.pointer (some ⟨g2, 0, none⟩))) (v5 := (.pointer (some ⟨g2, 1, none⟩))) T (Zq (Zrf (off := 0) rfl (T.e 2 rfl) (fun _ _ _ => by kernel_rfl))) rfl (Zf 0 0 rfl rfl) rfl (Zo M 0 0 rfl rfl rfl rfl) rfl (Zf 0 6 rfl rfl) rfl (Zf 1 0 rfl rfl) rfl (Zo M 1 0 rfl rfl rfl rfl) rfl (fun _ T => Zq (rn_sub rfl (T.e 3 rfl) (T.e 0 rfl) (by omega))) rfl (Za 0 rfl rfl) rfl ?_; clear T ac; intro ac T
 replace T := T.pick [0, 8, 9, 10, 11, 12, 13] rfl
 refine Zln ?_
 refine wp_block ?_
 refine wp_loop_n (fun mz ac wc => ∃ (k : Nat) (a : Int) (N C : Nat), mz = ((hi.t1 - lo.t0) + 1 - a).toNat ∧ (a = (hi.t0 - lo.t1) + (k : Int)) ∧ (a ≤ (hi.t1 - lo.t0) + 1) ∧ (N = (allP (hi.t0 - lo.t1) (hi.t1 - lo.t0) (hi.s0 - lo.s1) (hi.s1 - lo.s0) k 0).length) ∧ (C = cntA l (l.first + l.step * note) (allP (hi.t0 - lo.t1) (hi.t1 - lo.t0) (hi.s0 - lo.s1) (hi.s1 - lo.s0) k 0)) ∧ (N ≤ 13 * k ∧ C ≤ N) ∧ Tm ac 64 [(1, .int .i64 note), (4, .pointer (some ⟨g1, 0, none⟩)), (6, .pointer (some ⟨g2, 0, none⟩)), (7, .pointer (some ⟨g3, 0, none⟩)), (9, .int .i64 (C : Int)), (10, .int .i64 (N : Int)), (11, .int .i64 a)] ∧ Mem w noEx wc [(g3, .cells [.int .i64 hi.t0, .int .i64 hi.t1, .int .i64 hi.s0, .int .i64 hi.s1]), (g2, .cells [.int .i64 lo.t0, .int .i64 lo.t1, .int .i64 lo.s0, .int .i64 lo.s1]), (g1, .cells [.int .i64 l.first, .int .i64 l.step, .int .i64 l.span, .int .i64 l.press])]) ?_ ?_
 ·exact ⟨_, 0, _, 0, 0, rfl, (by omega), (by omega), rfl, rfl, (by omega), T.pick [6, 5, 4, 3, 2, 1, 0] rfl, M.mask [true, true, true] rfl⟩
 clear T M
 rintro mz ac wc ⟨k, a, N, C, hmm1, ha, hka, hN, hC, hb, T, M⟩
 refine wp_seq ?_
 refine Zsr ?_
 refine Zg8 (v2 := (.pointer (some ⟨g3, 0, none⟩))) (v3 := (.pointer (some ⟨g3, 1, none⟩))) (v5 := (.pointer (some ⟨g2, 0, none⟩))) (v6 := (.pointer (some ⟨g2, 0, none⟩))) T (Zq (Zrm rfl (T.e 6 rfl))) rfl (Zf 0 4 rfl rfl) rfl (Zf 1 0 rfl rfl) rfl (Zo M 0 0 rfl rfl rfl rfl) rfl (Zf 0 6 rfl rfl) rfl (Zf 0 0 rfl rfl) rfl (Zo M 1 0 rfl rfl rfl rfl) rfl (fun _ T => Zq (rn_sub rfl (T.e 3 rfl) (T.e 0 rfl) (by omega))) rfl ?_; clear T ac; intro ac T
 refine lq T (rn_leq rfl (T.e 7 rfl) (T.e 0 rfl)) ?_; clear T ac; intro ac T
 replace T := T.pick [0, 9, 10, 11, 12, 13, 14, 15] rfl
 refine Zln ?_
 refine wp_if (T.e 0 rfl) ?_ ?_
 ·intro h1
  refine Zsk ?_
  refine wp_seq ?_
  refine wp_block ?_
  refine Zsr ?_
  refine Zg8 (v1 := (.pointer (some ⟨g3, 2, none⟩))) (v2 := (.pointer (some ⟨g3, 2, none⟩))) (v4 := (.pointer (some ⟨g2, 2, none⟩))) (v5 := (.pointer (some ⟨g2, 3, none⟩))) T (Zq (Zrf (off := 2) rfl (T.e 4 rfl) (fun _ _ _ => by kernel_rfl))) rfl (Zf 0 0 rfl rfl) rfl (Zo M 0 0 rfl rfl rfl rfl) rfl (Zf 2 6 rfl rfl) rfl (Zf 1 0 rfl rfl) rfl (Zo M 1 0 rfl rfl rfl rfl) rfl (fun _ T => Zq (rn_sub rfl (T.e 3 rfl) (T.e 0 rfl) (by omega))) rfl (Za 0 rfl rfl) rfl ?_; clear T ac; intro ac T
  replace T := T.pick [0, 9, 10, 11, 12, 13, 14, 15] rfl
  refine Zln ?_
  refine wp_block ?_
  refine wp_loop_n (fun mz ac wc => ∃ (m : Nat) (r : Int) (N2 C2 : Nat), mz = ((hi.s1 - lo.s0) + 1 - r).toNat ∧ (r = (hi.s0 - lo.s1) + (m : Int)) ∧ (r ≤ (hi.s1 - lo.s0) + 1) ∧ (N2 = (allP (hi.t0 - lo.t1) (hi.t1 - lo.t0) (hi.s0 - lo.s1) (hi.s1 - lo.s0) k m).length) ∧ (C2 = cntA l (l.first + l.step * note) (allP (hi.t0 - lo.t1) (hi.t1 - lo.t0) (hi.s0 - lo.s1) (hi.s1 - lo.s0) k m)) ∧ (N2 ≤ 13 * k + m ∧ C2 ≤ N2) ∧ Tm ac 64 [(1, .int .i64 note), (4, .pointer (some ⟨g1, 0, none⟩)), (6, .pointer (some ⟨g2, 0, none⟩)), (7, .pointer (some ⟨g3, 0, none⟩)), (9, .int .i64 (C2 : Int)), (10, .int .i64 (N2 : Int)), (11, .int .i64 a), (12, .int .i64 r)] ∧ Mem w noEx wc [(g3, .cells [.int .i64 hi.t0, .int .i64 hi.t1, .int .i64 hi.s0, .int .i64 hi.s1]), (g2, .cells [.int .i64 lo.t0, .int .i64 lo.t1, .int .i64 lo.s0, .int .i64 lo.s1]), (g1, .cells [.int .i64 l.first, .int .i64 l.step, .int .i64 l.span, .int .i64 l.press])]) ?_ ?_
  ·exact ⟨_, 0, _, N, C, rfl, (by omega), (by omega), hN, hC, (by omega), T.pick [1, 2, 3, 4, 5, 6, 7, 0] rfl, M.mask [true, true, true] rfl⟩
  clear T M
  rintro mz ac wc ⟨m, r, N2, C2, hmm2, hr, hmr, hN2, hC2, hb2, T, M⟩
  refine wp_seq ?_
  refine Zsr ?_
  refine Zg8 (v2 := (.pointer (some ⟨g3, 2, none⟩))) (v3 := (.pointer (some ⟨g3, 3, none⟩))) (v5 := (.pointer (some ⟨g2, 2, none⟩))) (v6 := (.pointer (some ⟨g2, 2, none⟩))) T (Zq (Zrm rfl (T.e 7 rfl))) rfl (Zf 2 4 rfl rfl) rfl (Zf 1 0 rfl rfl) rfl (Zo M 0 0 rfl rfl rfl rfl) rfl (Zf 2 6 rfl rfl) rfl (Zf 0 0 rfl rfl) rfl (Zo M 1 0 rfl rfl rfl rfl) rfl (fun _ T => Zq (rn_sub rfl (T.e 3 rfl) (T.e 0 rfl) (by omega))) rfl ?_; clear T ac; intro ac T
  refine lq T (rn_leq rfl (T.e 7 rfl) (T.e 0 rfl)) ?_; clear T ac; intro ac T
  replace T := T.pick [0, 9, 10, 11, 12, 13, 14, 15, 16] rfl
  refine Zln ?_
  refine wp_if (T.e 0 rfl) ?_ ?_
  ·intro h2
   refine Zsk ?_
   refine wp_seq ?_
   refine wp_block ?_
   refine Zsr ?_
   refine Zg2 T (Zq (Zrm rfl (T.e 6 rfl))) rfl (fun _ T => Zq (rn_add rfl (T.e 0 rfl) evc (by omega))) rfl ?_; clear T ac; intro ac T
   refine l_q (v := (.int .i64 ((N2 : Int) + 1))) (T.pick [0, 1, 2, 3, 4, 5, 6, 7, 9, 10] rfl) rfl rfl rfl rfl (Zra rfl (T.e 0 rfl)) ?_; clear T ac; intro ac T
   replace T := T.pick [0, 4, 5, 6, 7, 8, 9, 10] rfl
   refine Zln ?_
   refine Zsr ?_
   refine Zg4 T (Zq (Zrr (Mem.nth M 2 rfl) rfl (T.e 2 rfl) rfl)) rfl (Zm 2 rfl rfl) rfl (Zm 8 rfl rfl) rfl (Zm 10 rfl rfl) rfl ?_; clear T ac; intro ac T
   refine Zl2 ?_
   refine Zoc (first := []) (cap := []) T rfl rfl rfl rfl evf (.cons (T.e 3 rfl) (.cons (T.e 2 rfl) (.cons (T.e 1 rfl) (.cons (T.e 0 rfl) .nil)))) Tryz.func116 rfl rfl ?_
   refine Calls.mono (kept5_any l note a r _ gl hnt hd (by omega) (by omega)) ?_
   clear T; rintro e wc ⟨rfl, hb⟩ ac T
   replace M := M.call hb; clear hb
   replace T := T.pick [0, 5, 6, 7, 8, 9, 10, 11, 12] rfl
   refine Zln ?_
   refine wp_cond_split (T.e 0 rfl) ?_ ?_
   ·intro h3
    refine wp_region_lit ?_
    refine Zg2 T (Zq (Zrm rfl (T.e 6 rfl))) rfl (fun _ T => Zq (rn_add rfl (T.e 0 rfl) evc (by omega))) rfl ?_; clear T ac; intro ac T
    refine l_q (v := (.int .i64 ((C2 : Int) + 1))) (T.pick [0, 1, 2, 3, 4, 5, 6, 7, 9, 10] rfl) rfl rfl rfl rfl (Zra rfl (T.e 0 rfl)) ?_; clear T ac; intro ac T
    refine wpList_nil ?_
    replace T := T.pick [0, 4, 5, 6, 7, 8, 9, 10] rfl
    refine Znb ?_
    refine nm_then ?_
    refine wp_region_lit ?_
    refine Zg2 T (Zq (Zrm rfl (T.e 7 rfl))) rfl (fun _ T => Zq (rn_add rfl (T.e 0 rfl) evc (by omega))) rfl ?_; clear T ac; intro ac T
    refine l_q (v := (.int .i64 (r + 1))) (T.pick [0, 1, 2, 3, 4, 5, 6, 7, 8] rfl) rfl rfl rfl rfl (Zra rfl (T.e 0 rfl)) ?_; clear T ac; intro ac T
    replace T := T.pick [0, 3, 4, 5, 6, 7, 8, 9] rfl
    refine Zln ?_
    exact ⟨_, by omega, m + 1, _, N2 + 1, C2 + 1, rfl, (by omega), (by omega), (by rw [allP_step (by omega), List.length_append, ← hN2]; rfl), (by rw [allP_step (by omega), cntA_snoc, ← hC2, ← ha, ← hr, if_pos h3]), (by omega), T.pick [3, 4, 5, 6, 1, 2, 7, 0] rfl, M.mask [true, true, true] rfl⟩
   intro h3
   refine wp_skip ?_
   refine Znb ?_
   refine nm_then ?_
   refine wp_region_lit ?_
   refine Zg2 T (Zq (Zrm rfl (T.e 8 rfl))) rfl (fun _ T => Zq (rn_add rfl (T.e 0 rfl) evc (by omega))) rfl ?_; clear T ac; intro ac T
   refine l_q (v := (.int .i64 (r + 1))) (T.pick [0, 1, 2, 3, 4, 5, 6, 7, 8, 9] rfl) rfl rfl rfl rfl (Zra rfl (T.e 0 rfl)) ?_; clear T ac; intro ac T
   replace T := T.pick [0, 4, 5, 6, 7, 8, 9, 10] rfl
   refine Zln ?_
   exact ⟨_, by omega, m + 1, _, N2 + 1, C2, rfl, (by omega), (by omega), (by rw [allP_step (by omega), List.length_append, ← hN2]; rfl), (by rw [allP_step (by omega), cntA_snoc, ← hC2, ← ha, ← hr, if_neg (by rw [h3]; decide), Nat.add_zero]), (by omega), T.pick [2, 3, 4, 5, 6, 1, 7, 0] rfl, M.mask [true, true, true] rfl⟩
  intro h2
  refine wp_exit ?_
  refine Zet ?_
  refine Zet ?_
  refine ex_hit ?_
  refine Znb ?_
  refine nm_then ?_
  refine wp_region_lit ?_
  refine Zg2 T (Zq (Zrm rfl (T.e 7 rfl))) rfl (fun _ T => Zq (rn_add rfl (T.e 0 rfl) evc (by omega))) rfl ?_; clear T ac; intro ac T
  refine l_q (v := (.int .i64 (a + 1))) (T.pick [0, 1, 2, 3, 4, 5, 6, 7, 8, 10] rfl) rfl rfl rfl rfl (Zra rfl (T.e 0 rfl)) ?_; clear T ac; intro ac T
  replace T := T.pick [0, 4, 5, 6, 7, 8, 9] rfl
  refine Zln ?_
  exact ⟨_, by omega, k + 1, _, N2, C2, rfl, (by omega), (by omega), (by rw [← allP_row (m := m) (by omega) (by omega)]; exact hN2), (by rw [← allP_row (m := m) (by omega) (by omega)]; exact hC2), (by omega), T.pick [1, 2, 3, 4, 5, 6, 0] rfl, M.mask [true, true, true] rfl⟩
 intro h1
 refine wp_exit ?_
 refine Zet ?_
 refine Zet ?_
 refine ex_hit ?_
 refine Zns ?_
 refine Zsr ?_
 refine lq T (Zrm rfl (T.e 5 rfl)) ?_; clear T ac; intro ac T
 refine wpList_nil ?_
 replace T := T.pick [0, 7] rfl
 replace M := M.mask [false, false, false] rfl
 refine nm_then ?_
 refine wp_block ?_
 refine Zsr ?_
 refine Zg3 T (Zq (Zrm rfl (T.e 1 rfl))) rfl (fun _ T => Zq (rn_eql rfl (T.e 1 rfl) (T.e 0 rfl))) rfl (Za 0 rfl rfl) rfl ?_; clear T ac; intro ac T
 replace T := T.pick [0, 3] rfl
 refine Zln ?_
 refine wp_if (T.e 0 rfl) ?_ ?_
 ·intro h4
  refine Zsr ?_
  refine lq T (Zra rfl evc) ?_; clear T ac; intro ac T
  replace T := T.pick [0] rfl
  refine Zln ?_
  refine wp_ret ?_
  refine Zrb ?_
  refine Zrt ?_
  refine rt_1 T rfl (T.e 0 rfl) ?_
  have e9 : keepsP l (l.first + l.step * note) [lo, hi] = 1 := by
    rw [← keeps8_eq gl3.1 ⟨by omega, by omega⟩ ⟨by omega, by omega⟩, keeps8_cnt, show difL lo hi = (allP (hi.t0 - lo.t1) (hi.t1 - lo.t0) (hi.s0 - lo.s1) (hi.s1 - lo.s0) k 0) from (allP_end (by omega)).symm, ← hC, ← hN]
    rw [if_pos (by omega)]
  rw [e9]
  exact ⟨rfl, M.below⟩
 intro h4
 refine Zsr ?_
 refine Zg2 T (Zq (rn_eql rfl (T.e 1 rfl) evc)) rfl (Za 0 rfl rfl) rfl ?_; clear T ac; intro ac T
 replace T := T.pick [0] rfl
 refine Zln ?_
 refine wp_if (T.e 0 rfl) ?_ ?_
 ·intro h5
  refine Zsr ?_
  refine lq T (Zra rfl evc) ?_; clear T ac; intro ac T
  replace T := T.pick [0] rfl
  refine Zln ?_
  refine wp_ret ?_
  refine Zrb ?_
  refine Zrt ?_
  refine rt_1 T rfl (T.e 0 rfl) ?_
  have e9 : keepsP l (l.first + l.step * note) [lo, hi] = 2 := by
    rw [← keeps8_eq gl3.1 ⟨by omega, by omega⟩ ⟨by omega, by omega⟩, keeps8_cnt, show difL lo hi = (allP (hi.t0 - lo.t1) (hi.t1 - lo.t0) (hi.s0 - lo.s1) (hi.s1 - lo.s0) k 0) from (allP_end (by omega)).symm, ← hC, ← hN]
    rw [if_neg (by omega), if_pos (by omega)]
  rw [e9]
  exact ⟨rfl, M.below⟩
 intro h5
 refine wp_skip ?_
 refine Znb ?_
 refine nm_then ?_
 refine Zsr ?_
 refine lq T (Zra rfl evc) ?_; clear T ac; intro ac T
 replace T := T.pick [0] rfl
 refine Zln ?_
 refine wp_ret ?_
 refine rt_1 T rfl (T.e 0 rfl) ?_
 have e9 : keepsP l (l.first + l.step * note) [lo, hi] = 3 := by
   rw [← keeps8_eq gl3.1 ⟨by omega, by omega⟩ ⟨by omega, by omega⟩, keeps8_cnt, show difL lo hi = (allP (hi.t0 - lo.t1) (hi.t1 - lo.t0) (hi.s0 - lo.s1) (hi.s1 - lo.s0) k 0) from (allP_end (by omega)).symm, ← hC, ← hN]
   rw [if_neg (by omega), if_neg (by omega)]
 rw [e9]
 exact ⟨rfl, M.below⟩
theorem Keeps5_any (b : Bx) (A : Option Addr) (c : Nat) (B : Option Addr) (d : Nat) (i k : Int) (w : World) (hA : Rd w w.heap.size 4 A b.lows.length (sc b.lows)) (hB : Rd w w.heap.size 4 B b.highs.length (sc b.highs)) (nA : b.lows.length ≤ 1000000) (nB : b.highs.length ≤ 1000000)  :
   Calls Tryz.prog 24 #[bxV b A c B d, .int .i64 i, .int .i64 k] w fun e w' => e = .returned (.tuple #[.int .i64 (keepsE b i k), .int .i64 (checkPB b i k)]) ∧ Below w.heap.size w w' := by
 have hlA := hA.len4
 have hlB := hB.len4
 obtain ⟨bA, oA, SA⟩ := Sp.old hA
 obtain ⟨bB, oB, SB⟩ := Sp.old hB
 refine Zpx noEx Tryz.func24 rfl 31 rfl [.agg #[.int .i64 b.first, .int .i64 b.step, .int .i64 b.span, .int .i64 b.press, .int .i64 b.note, .slice A b.lows.length c, .slice B b.highs.length d, .int .i64 b.t0, .int .i64 b.t1, .int .i64 b.r0, .int .i64 b.r1, .int .i64 b.u0, .int .i64 b.u1, .int .i64 b.d0, .int .i64 b.d1, .int .i64 b.a0, .int .i64 b.a1, .int .i64 b.b0, .int .i64 b.b1, .int .i64 b.le, .int .i64 b.me], .int .i64 i, .int .i64 k] rfl rfl (Mem.init w _) ?_
 intro ac wc T M
 refine Zsr ?_
 refine Zl2 ?_
 refine Zob M T rfl rfl rfl rfl (T.e 0 rfl) rfl ?_; clear M T; intro g1 wc ac M T
 refine Zg2 T (Zq (Zra rfl evc)) rfl (Zc rfl) rfl ?_; clear T ac; intro ac T
 replace T := T.pick [2, 4, 5] rfl
 refine Zln ?_
 refine wp_seq ?_
 refine Zsr ?_
 refine Zg3 T (Zq (Zrr (Mem.nth M 0 rfl) rfl (T.e 0 rfl) rfl)) rfl (Zm 2 rfl rfl) rfl (Zm 4 rfl rfl) rfl ?_; clear T ac; intro ac T
 refine Zl2 ?_
 refine Zoc (first := []) (cap := []) T rfl rfl rfl rfl evf (.cons (T.e 2 rfl) (.cons (T.e 1 rfl) (.cons (T.e 0 rfl) .nil))) Tryz.func78 rfl rfl ?_
 refine Calls.mono (checkPair5_any b _ _ _ _ i k _ (SA.rd M (Zz9 _)) (SB.rd M (Zz9 _)) (by omega) (by omega)) ?_
 clear T; rintro e wc ⟨rfl, hb⟩ ac T
 replace M := M.call hb; clear hb
 refine lq T (Zra rfl (T.e 0 rfl)) ?_; clear T ac; intro ac T
 replace T := T.pick [0, 5, 6, 7] rfl
 refine Zln ?_
 refine Zsr ?_
 refine Zg2 T (Zq (Zrm rfl (T.e 0 rfl))) rfl (fun _ T => Zq (rn_neq rfl (T.e 0 rfl) evc)) rfl ?_; clear T ac; intro ac T
 replace T := T.pick [0, 2, 3, 4, 5] rfl
 refine Zln ?_
 refine wp_ifn (T.e 0 rfl) ?_ ?_
 ·intro h1
  refine Zsr ?_
  refine Zg3 T (Zq (Zrm rfl (T.e 1 rfl))) rfl (Zc rfl) rfl (Za 1 rfl rfl) rfl ?_; clear T ac; intro ac T
  refine wpList_nil ?_
  replace T := T.pick [0, 1] rfl
  replace M := M.mask [false] rfl
  refine Znr ?_
  refine Zrt ?_
  refine rt_2 T rfl (T.e 1 rfl) (T.e 0 rfl) ?_
  have e9 : keepsE b i k = 0 := by unfold keepsE; rw [if_neg (by assumption)]
  rw [e9]
  exact ⟨rfl, M.below⟩
 intro h1
 obtain ⟨gb, ⟨i0, i1⟩, k0, k1⟩ := checkPB_good (b := b) (i := i) (k := k) (by simpa using h1)
 obtain ⟨il, hil⟩ : ∃ q : Nat, i = (q : Int) := ⟨i.toNat, by omega⟩
 obtain ⟨kl, hkl⟩ : ∃ q : Nat, k = (q : Int) := ⟨k.toNat, by omega⟩
 have gl3 := gb.law.span
 have gl4 := gb.law.press
 have gn := gb.note
 have gf := gb.law.first
 have gs := gb.law.step
 have gd := gb.due
 unfold Bx.due at gd
 dsimp only at gl3 gl4 gf gs
 obtain ⟨x, hx9⟩ : ∃ q, q = b.low i := ⟨_, rfl⟩
 obtain ⟨y, hy9⟩ : ∃ q, q = b.high k := ⟨_, rfl⟩
 have hkx : b.lows[il]? = some x := by rw [hx9, ← Bx.low_get ⟨i0, i1⟩, hil]; rfl
 have hky : b.highs[kl]? = some y := by rw [hy9, ← Bx.high_get ⟨k0, k1⟩, hkl]; rfl
 have gx := gb.lows.2 x (List.mem_of_getElem? hkx)
 have gy := gb.highs.2 y (List.mem_of_getElem? hky)
 refine Zsk ?_
 refine wp_seq ?_
 refine Zgs M (M.mask [true] rfl) 17 (by kernel_rfl) rfl (by kernel_rfl) ?_
 clear M; intro wc M
 refine gq (v := (.pointer (some ⟨g1, 0, none⟩))) T 0 1 rfl (fun _ _ _ _ _ => (Zrf (off := 0) rfl (T.e 2 rfl) (fun _ _ _ => by kernel_rfl))) ?_; clear T ac; intro ac T
 refine gq T 1 3 rfl (fun B w' hD hl hS => (Zrr (Mem.nth (show Mem w noEx w' _ from hS) 0 rfl) rfl (T.e 0 rfl) rfl)) ?_; clear T ac; intro ac T
 refine gq (v := (.pointer (some ⟨g1, 4, none⟩))) T 2 7 rfl (fun _ _ _ _ _ => (Zrf (off := 4) rfl (T.e 4 rfl) (fun _ _ _ => by kernel_rfl))) ?_; clear T ac; intro ac T
 refine gq T 3 15 rfl (fun B w' hD hl hS => (Zro (Mem.nth (show Mem w noEx w' _ from hS) 0 rfl) rfl (T.e 0 rfl) rfl)) ?_; clear T ac; intro ac T
 refine gq (v := (.pointer (some ⟨g1, 5, none⟩))) T 4 31 rfl (fun _ _ _ _ _ => (Zrf (off := 5) rfl (T.e 6 rfl) (fun _ _ _ => by kernel_rfl))) ?_; clear T ac; intro ac T
 refine gq T 5 63 rfl (fun B w' hD hl hS => (Zro (Mem.nth (show Mem w noEx w' _ from hS) 0 rfl) rfl (T.e 0 rfl) rfl)) ?_; clear T ac; intro ac T
 refine gq T 6 127 rfl (fun _ _ _ _ _ => (Zrm rfl (T.e 9 rfl))) ?_; clear T ac; intro ac T
 refine gq T 7 255 rfl (fun _ _ _ _ _ => (Zri (size := 4) il rfl (T.e 1 rfl) (T.e 0 rfl) ⟨_, Tryz.underlying24, by kernel_rfl⟩ hil (by omega) (SA.at0 (by omega)))) ?_; clear T ac; intro ac T
 refine gq (v := (.agg #[.int .i64 x.t0, .int .i64 x.t1, .int .i64 x.s0, .int .i64 x.s1])) T 8 511 rfl (fun B w' hD hl hS => (rn_rowat (Sp.scR4 SA (show Mem w noEx w' _ from hS) (Zz9 _) hkx) rfl (T.e 0 rfl) rfl)) ?_; clear T ac; intro ac T
 refine gq (v := (.pointer (some ⟨g1, 6, none⟩))) T 9 1023 rfl (fun _ _ _ _ _ => (Zrf (off := 6) rfl (T.e 11 rfl) (fun _ _ _ => by kernel_rfl))) ?_; clear T ac; intro ac T
 refine gq T 10 2047 rfl (fun B w' hD hl hS => (Zro (Mem.nth (show Mem w noEx w' _ from hS) 0 rfl) rfl (T.e 0 rfl) rfl)) ?_; clear T ac; intro ac T
 refine gq T 11 4095 rfl (fun _ _ _ _ _ => (Zrm rfl (T.e 15 rfl))) ?_; clear T ac; intro ac T
 refine gq T 12 8191 rfl (fun _ _ _ _ _ => (Zri (size := 4) kl rfl (T.e 1 rfl) (T.e 0 rfl) ⟨_, Tryz.underlying24, by kernel_rfl⟩ hkl (by omega) (SB.at0 (by omega)))) ?_; clear T ac; intro ac T
 refine gq (v := (.agg #[.int .i64 y.t0, .int .i64 y.t1, .int .i64 y.s0, .int .i64 y.s1])) T 13 16383 rfl (fun B w' hD hl hS => (rn_rowat (Sp.scR4 SB (show Mem w noEx w' _ from hS) (Zz9 _) hky) rfl (T.e 0 rfl) rfl)) ?_; clear T ac; intro ac T
 refine gw 14 32767 ?_; intro K hK
 refine Zoc (first := []) (cap := []) T rfl rfl rfl rfl evf (.cons (T.e 12 rfl) (.cons (T.e 10 rfl) (.cons (T.e 5 rfl) (.cons (T.e 0 rfl) .nil)))) Tryz.func81 rfl rfl ?_
 refine Calls.mono (keeps5_any b.law b.note x y _ gb.law gb.note gb.due gx gy) ?_
 clear T; rintro e wc ⟨rfl, hb⟩ ac T
 replace M := M.call hb; clear hb
 refine Zso hK _ _ (M.mask [true] rfl) ?_; clear hK K
 refine gq T 15 65535 rfl (fun _ _ _ _ _ => (Zra rfl (T.e 0 rfl))) ?_; clear T ac; intro ac T
 refine gq T 16 131071 rfl (fun _ _ _ _ _ => (Zra rfl evc)) ?_; clear T ac; intro ac T
 refine Zgd (by kernel_rfl) ?_
 replace T := T.pick [0, 1] rfl
 replace M := M.mask [false] rfl
 refine Znr ?_
 refine rt_2 T rfl (T.e 1 rfl) (T.e 0 rfl) ?_
 have e9 : keepsE b i k = keepsP b.law b.due [x, y] := by unfold keepsE; rw [if_pos (by simpa using h1), ← hx9, ← hy9]
 rw [e9, show checkPB b i k = 0 by simpa using h1]
 exact ⟨rfl, M.below⟩
theorem pairs5_any (b : Bx) (A : Option Addr) (c : Nat) (B : Option Addr) (d : Nat) (w : World) (hA : Rd w w.heap.size 4 A b.lows.length (sc b.lows)) (hB : Rd w w.heap.size 4 B b.highs.length (sc b.highs)) (gb : b.good) :
   Calls Tryz.prog 63 #[bxV b A c B d] w (ListsPost (tableP b) w) := by
 have hlA := hA.len4
 have hlB := hB.len4
 obtain ⟨bA, oA, SA⟩ := Sp.old hA
 obtain ⟨bB, oB, SB⟩ := Sp.old hB
 have gl3 := gb.law.span
 have gl4 := gb.law.press
 have gn := gb.note
 have gf := gb.law.first
 have gs := gb.law.step
 have gd := gb.due
 unfold Bx.due at gd
 dsimp only at gl3 gl4 gf gs
 have nA := gb.lows.1
 have nB := gb.highs.1
 refine Zpx noEx Tryz.func63 rfl 44 rfl [.agg #[.int .i64 b.first, .int .i64 b.step, .int .i64 b.span, .int .i64 b.press, .int .i64 b.note, .slice A b.lows.length c, .slice B b.highs.length d, .int .i64 b.t0, .int .i64 b.t1, .int .i64 b.r0, .int .i64 b.r1, .int .i64 b.u0, .int .i64 b.u1, .int .i64 b.d0, .int .i64 b.d1, .int .i64 b.a0, .int .i64 b.a1, .int .i64 b.b0, .int .i64 b.b1, .int .i64 b.le, .int .i64 b.me]] rfl rfl (Mem.init w _) ?_
 intro ac wc T M
 refine Zsr ?_
 refine Zl2 ?_
 refine Zob M T rfl rfl rfl rfl (T.e 0 rfl) rfl ?_; clear M T; intro g1 wc ac M T
 refine lq T (Zra rfl evc) ?_; clear T ac; intro ac T
 replace T := T.pick [1] rfl
 refine Zln ?_
 refine Zsr ?_
 refine lq T (Zra rfl evc) ?_; clear T ac; intro ac T
 refine Zln ?_
 refine wp_seq ?_
 refine Zsr ?_
 refine lq T (Zra rfl evc) ?_; clear T ac; intro ac T
 refine Zln ?_
 refine wp_block ?_
 refine wp_loop_n (fun mz ac wc => ∃ (k : Nat) (OL : List LE) (B3 : Option Addr) (c3 : Nat) (Ie Io : List (Nat × BA)), mz = b.lows.length - k ∧ (k ≤ b.lows.length) ∧ (OL.map (·.1) = (b.lows.take k).map (rowP b)) ∧ (OL.length = k) ∧ (Els OL Ie) ∧ (Sl 33 1 (.slice B3 OL.length c3) OL.length (lc OL) Io) ∧ Tm ac 44 [(1, .pointer (some ⟨g1, 0, none⟩)), (3, .slice B3 OL.length c3), (4, .int .i64 (k : Int))] ∧ Mem w noEx wc ((g1, .cells [.int .i64 b.first, .int .i64 b.step, .int .i64 b.span, .int .i64 b.press, .int .i64 b.note, .slice A b.lows.length c, .slice B b.highs.length d, .int .i64 b.t0, .int .i64 b.t1, .int .i64 b.r0, .int .i64 b.r1, .int .i64 b.u0, .int .i64 b.u1, .int .i64 b.d0, .int .i64 b.d1, .int .i64 b.a0, .int .i64 b.a1, .int .i64 b.b0, .int .i64 b.b1, .int .i64 b.le, .int .i64 b.me]) :: (Ie ++ Io))) ?_ ?_
 ·exact ⟨_, 0, [], none, 0, [], [], rfl, (Nat.zero_le _), rfl, rfl, (fun x hx => by cases hx), (Sl.nil _ _), T.pick [2, 1, 0] rfl, ((M.mask [true] rfl).as (by simp))⟩
 clear T M
 rintro mz ac wc ⟨k, OL, B3, c3, Ie, Io, hmm1, hk, hO, hOl, hE, hsl, T, M⟩
 refine wp_seq ?_
 refine Zsr ?_
 refine Zg5 (v2 := (.pointer (some ⟨g1, 5, none⟩))) T (Zq (Zrm rfl (T.e 2 rfl))) rfl (Zf 5 1 rfl rfl) rfl (Zo M 0 0 rfl rfl rfl rfl) rfl (Zl Tryz.underlying24 0 rfl rfl) rfl (fun _ T => Zq (rn_lss rfl (T.e 3 rfl) (T.e 0 rfl))) rfl ?_; clear T ac; intro ac T
 replace T := T.pick [0, 5, 6, 7] rfl
 refine Zln ?_
 refine wp_if (T.e 0 rfl) ?_ ?_
 ·intro h1
  obtain ⟨x, hkx, -⟩ := sc_next (l := b.lows) (k := k) (by omega)
  have gx := gb.lows.2 x (List.mem_of_getElem? hkx)
  refine Zsk ?_
  refine wp_seq ?_
  refine wp_block ?_
  refine Zsr ?_
  refine lq T (Zra rfl evc) ?_; clear T ac; intro ac T
  replace T := T.pick [0, 2, 3, 4] rfl
  refine Zln ?_
  refine wp_seq ?_
  refine Zsr ?_
  refine lq T (Zra rfl evc) ?_; clear T ac; intro ac T
  refine Zln ?_
  refine wp_block ?_
  refine wp_loop_n (fun mz ac wc => ∃ (m : Nat) (RL : List Int) (B6 : Option Addr) (c6 : Nat) (Ir : List (Nat × BA)), mz = b.highs.length - m ∧ (m ≤ b.highs.length) ∧ (RL = (rowP b x).take m) ∧ (RL.length = m) ∧ (Sl 3 1 (.slice B6 RL.length c6) RL.length (ic RL) Ir) ∧ Tm ac 44 [(1, .pointer (some ⟨g1, 0, none⟩)), (3, .slice B3 OL.length c3), (4, .int .i64 (k : Int)), (5, .slice B6 RL.length c6), (6, .int .i64 (m : Int))] ∧ Mem w noEx wc ((g1, .cells [.int .i64 b.first, .int .i64 b.step, .int .i64 b.span, .int .i64 b.press, .int .i64 b.note, .slice A b.lows.length c, .slice B b.highs.length d, .int .i64 b.t0, .int .i64 b.t1, .int .i64 b.r0, .int .i64 b.r1, .int .i64 b.u0, .int .i64 b.u1, .int .i64 b.d0, .int .i64 b.d1, .int .i64 b.a0, .int .i64 b.a1, .int .i64 b.b0, .int .i64 b.b1, .int .i64 b.le, .int .i64 b.me]) :: (Ie ++ Io ++ Ir))) ?_ ?_
  ·exact ⟨_, 0, [], none, 0, [], rfl, (Nat.zero_le _), rfl, rfl, (Sl.nil _ _), T.pick [2, 3, 4, 1, 0] rfl, (by rw [List.append_nil]; exact M)⟩
  clear T M
  rintro mz ac wc ⟨m, RL, B6, c6, Ir, hmm2, hm, hR, hRl, hsr, T, M⟩
  refine wp_seq ?_
  refine Zsr ?_
  refine Zg5 (v2 := (.pointer (some ⟨g1, 6, none⟩))) T (Zq (Zrm rfl (T.e 4 rfl))) rfl (Zf 6 1 rfl rfl) rfl (Zo M 0 0 rfl rfl rfl rfl) rfl (Zl Tryz.underlying24 0 rfl rfl) rfl (fun _ T => Zq (rn_lss rfl (T.e 3 rfl) (T.e 0 rfl))) rfl ?_; clear T ac; intro ac T
  replace T := T.pick [0, 5, 6, 7, 8, 9] rfl
  refine Zln ?_
  refine wp_if (T.e 0 rfl) ?_ ?_
  ·intro h2
   obtain ⟨y, hky, -⟩ := sc_next (l := b.highs) (k := m) (by omega)
   have gy := gb.highs.2 y (List.mem_of_getElem? hky)
   refine Zsk ?_
   refine wp_seq ?_
   refine wp_block ?_
   refine Zgs M (M.perm [0] rfl rfl) 19 (by kernel_rfl) rfl (by kernel_rfl) ?_
   clear M; intro wc M
   refine gq T 0 1 rfl (fun _ _ _ _ _ => (Zrm rfl (T.e 4 rfl))) ?_; clear T ac; intro ac T
   refine gq (v := (.pointer (some ⟨g1, 0, none⟩))) T 1 3 rfl (fun _ _ _ _ _ => (Zrf (off := 0) rfl (T.e 2 rfl) (fun _ _ _ => by kernel_rfl))) ?_; clear T ac; intro ac T
   refine gq T 2 7 rfl (fun B w' hD hl hS => (Zrr (Mem.nth (show Mem w noEx w' _ from hS) 0 rfl) rfl (T.e 0 rfl) rfl)) ?_; clear T ac; intro ac T
   refine gq (v := (.pointer (some ⟨g1, 4, none⟩))) T 3 15 rfl (fun _ _ _ _ _ => (Zrf (off := 4) rfl (T.e 4 rfl) (fun _ _ _ => by kernel_rfl))) ?_; clear T ac; intro ac T
   refine gq T 4 31 rfl (fun B w' hD hl hS => (Zro (Mem.nth (show Mem w noEx w' _ from hS) 0 rfl) rfl (T.e 0 rfl) rfl)) ?_; clear T ac; intro ac T
   refine gq (v := (.pointer (some ⟨g1, 5, none⟩))) T 5 63 rfl (fun _ _ _ _ _ => (Zrf (off := 5) rfl (T.e 6 rfl) (fun _ _ _ => by kernel_rfl))) ?_; clear T ac; intro ac T
   refine gq T 6 127 rfl (fun B w' hD hl hS => (Zro (Mem.nth (show Mem w noEx w' _ from hS) 0 rfl) rfl (T.e 0 rfl) rfl)) ?_; clear T ac; intro ac T
   refine gq T 7 255 rfl (fun _ _ _ _ _ => (Zrm rfl (T.e 10 rfl))) ?_; clear T ac; intro ac T
   refine gq T 8 511 rfl (fun _ _ _ _ _ => (Zri (size := 4) k rfl (T.e 1 rfl) (T.e 0 rfl) ⟨_, Tryz.underlying24, by kernel_rfl⟩ rfl (by omega) (SA.at0 (by omega)))) ?_; clear T ac; intro ac T
   refine gq (v := (.agg #[.int .i64 x.t0, .int .i64 x.t1, .int .i64 x.s0, .int .i64 x.s1])) T 9 1023 rfl (fun B w' hD hl hS => (rn_rowat (Sp.scR4 SA (show Mem w noEx w' _ from hS) (Zz9 _) hkx) rfl (T.e 0 rfl) rfl)) ?_; clear T ac; intro ac T
   refine gq (v := (.pointer (some ⟨g1, 6, none⟩))) T 10 2047 rfl (fun _ _ _ _ _ => (Zrf (off := 6) rfl (T.e 11 rfl) (fun _ _ _ => by kernel_rfl))) ?_; clear T ac; intro ac T
   refine gq T 11 4095 rfl (fun B w' hD hl hS => (Zro (Mem.nth (show Mem w noEx w' _ from hS) 0 rfl) rfl (T.e 0 rfl) rfl)) ?_; clear T ac; intro ac T
   refine gq T 12 8191 rfl (fun _ _ _ _ _ => (Zrm rfl (T.e 17 rfl))) ?_; clear T ac; intro ac T
   refine gq T 13 16383 rfl (fun _ _ _ _ _ => (Zri (size := 4) m rfl (T.e 1 rfl) (T.e 0 rfl) ⟨_, Tryz.underlying24, by kernel_rfl⟩ rfl (by omega) (SB.at0 (by omega)))) ?_; clear T ac; intro ac T
   refine gq (v := (.agg #[.int .i64 y.t0, .int .i64 y.t1, .int .i64 y.s0, .int .i64 y.s1])) T 14 32767 rfl (fun B w' hD hl hS => (rn_rowat (Sp.scR4 SB (show Mem w noEx w' _ from hS) (Zz9 _) hky) rfl (T.e 0 rfl) rfl)) ?_; clear T ac; intro ac T
   refine gw 15 65535 ?_; intro K hK
   refine Zoc (first := []) (cap := []) T rfl rfl rfl rfl evf (.cons (T.e 12 rfl) (.cons (T.e 10 rfl) (.cons (T.e 5 rfl) (.cons (T.e 0 rfl) .nil)))) Tryz.func81 rfl rfl ?_
   refine Calls.mono (keeps5_any b.law b.note x y _ gb.law gb.note gb.due gx gy) ?_
   clear T; rintro e wc ⟨rfl, hb⟩ ac T
   replace M := M.call hb; clear hb
   refine Zso hK _ _ (M.perm [0] rfl rfl) ?_; clear hK K
   refine gw 16 131071 ?_; intro K hK
   refine ow_bs (e := 3) [.int .i64 (keepsP b.law (b.law.first + b.law.step * b.note) [x, y])] M T rfl rfl rfl rfl (.cons (T.e 0 rfl) .nil) (fun _ => by kernel_rfl) ?_; clear M T; intro g2 wc ac M T
   refine Zso hK _ _ (M.perm [1] rfl rfl) ?_; clear hK K
   refine gw 17 262143 ?_; intro K hK
   refine ow_app (((g2, .cells [.int .i64 (keepsP b.law (b.law.first + b.law.step * b.note) [x, y])]) :: (g1, .cells [.int .i64 b.first, .int .i64 b.step, .int .i64 b.span, .int .i64 b.press, .int .i64 b.note, .slice A b.lows.length c, .slice B b.highs.length d, .int .i64 b.t0, .int .i64 b.t1, .int .i64 b.r0, .int .i64 b.r1, .int .i64 b.u0, .int .i64 b.u1, .int .i64 b.d0, .int .i64 b.d1, .int .i64 b.a0, .int .i64 b.a1, .int .i64 b.b0, .int .i64 b.b1, .int .i64 b.le, .int .i64 b.me]) :: (Ie ++ Io))) Tryz.info3 hsr M (by first | rfl | simp) T rfl rfl rfl rfl Tryz.underlying33 rfl rfl rfl (by omega) (T.e 16 rfl) (T.e 0 rfl) (Zne (i := 0) rfl) rfl rfl ?_; clear M T; intro ga1 cga1 wc ac M T
   refine Zso hK _ _ (M.perm [2] rfl rfl) ?_; clear hK K
   refine g_q (v := (.slice (some ⟨ga1, 0, none⟩) (RL.length + 1) cga1)) (T := T.pick [0, 1, 2, 3, 4, 5, 6, 7, 8, 9, 10, 11, 12, 13, 14, 15, 16, 17, 18, 19, 20, 21, 23] rfl) (i := 18) rfl (by kernel_rfl) (by kernel_rfl : (Zpb 19 262143).setIfInBounds 18 true = Zpb 19 524287) si_U (fun _ _ _ h => h) rfl rfl rfl rfl (fun _ _ _ _ _ => (Zra rfl (T.e 0 rfl))) ?_; clear T ac; intro ac T
   refine Zgd (by kernel_rfl) ?_
   replace T := T.pick [0, 20, 21, 22, 23] rfl
   replace M := M.mask [true, false, true] rfl
   refine Znb ?_
   refine nm_then ?_
   refine wp_region_lit ?_
   refine Zg2 T (Zq (Zrm rfl (T.e 4 rfl))) rfl (fun _ T => Zq (rn_add rfl (T.e 0 rfl) evc (by omega))) rfl ?_; clear T ac; intro ac T
   refine l_q (v := (.int .i64 ((m : Int) + 1))) (T.pick [0, 1, 2, 3, 4, 5] rfl) rfl rfl rfl rfl (Zra rfl (T.e 0 rfl)) ?_; clear T ac; intro ac T
   replace T := T.pick [0, 3, 4, 5, 6] rfl
   refine Zln ?_
   have e9 : RL.length + 1 = (RL ++ [keepsP b.law (b.law.first + b.law.step * b.note) [x, y]]).length := by simp
   have e8 : ((ic RL) ++ [.int .i64 (keepsP b.law (b.law.first + b.law.step * b.note) [x, y])]) = ic (RL ++ [keepsP b.law (b.law.first + b.law.step * b.note) [x, y]]) := ic_snoc _ _
   rw [e9, e8] at M
   rw [e9] at T
   clear e9 e8
   exact ⟨_, by omega, m + 1, (RL ++ [keepsP b.law (b.law.first + b.law.step * b.note) [x, y]]), _, _, [(ga1, .row 3 1 (RL ++ [keepsP b.law (b.law.first + b.law.step * b.note) [x, y]]).length (ic (RL ++ [keepsP b.law (b.law.first + b.law.step * b.note) [x, y]])) cga1)], rfl, (by omega), (by rw [List.take_add_one, ← hR, show (rowP b x)[m]? = some (keepsP b.law b.due [x, y]) by unfold rowP; rw [List.getElem?_map, hky]; rfl]; rfl), (by simp [hRl]), (Sl.row _ _ _ _ _ _), T.pick [2, 3, 4, 1, 0] rfl, ((Mem.swapI (I := [(ga1, .row 3 1 (RL ++ [keepsP b.law (b.law.first + b.law.step * b.note) [x, y]]).length (ic (RL ++ [keepsP b.law (b.law.first + b.law.step * b.note) [x, y]])) cga1)]) (L := [(g1, .cells [.int .i64 b.first, .int .i64 b.step, .int .i64 b.span, .int .i64 b.press, .int .i64 b.note, .slice A b.lows.length c, .slice B b.highs.length d, .int .i64 b.t0, .int .i64 b.t1, .int .i64 b.r0, .int .i64 b.r1, .int .i64 b.u0, .int .i64 b.u1, .int .i64 b.d0, .int .i64 b.d1, .int .i64 b.a0, .int .i64 b.a1, .int .i64 b.b0, .int .i64 b.b1, .int .i64 b.le, .int .i64 b.me])] ++ (Ie ++ Io)) (M.permT [0, 1] 2 rfl rfl rfl rfl)).as (by simp))⟩
  intro h2
  rw [List.take_of_length_le (by rw [rowP_length]; omega)] at hR
  have hRs := hsr.spV (by rw [ic_length]; omega)
  replace M : Mem w noEx wc ((g1, .cells [.int .i64 b.first, .int .i64 b.step, .int .i64 b.span, .int .i64 b.press, .int .i64 b.note, .slice A b.lows.length c, .slice B b.highs.length d, .int .i64 b.t0, .int .i64 b.t1, .int .i64 b.r0, .int .i64 b.r1, .int .i64 b.u0, .int .i64 b.u1, .int .i64 b.d0, .int .i64 b.d1, .int .i64 b.a0, .int .i64 b.a1, .int .i64 b.b0, .int .i64 b.b1, .int .i64 b.le, .int .i64 b.me]) :: (Ie ++ Ir ++ Io)) := Mem.tail9 (K := [(g1, .cells [.int .i64 b.first, .int .i64 b.step, .int .i64 b.span, .int .i64 b.press, .int .i64 b.note, .slice A b.lows.length c, .slice B b.highs.length d, .int .i64 b.t0, .int .i64 b.t1, .int .i64 b.r0, .int .i64 b.r1, .int .i64 b.u0, .int .i64 b.u1, .int .i64 b.d0, .int .i64 b.d1, .int .i64 b.a0, .int .i64 b.a1, .int .i64 b.b0, .int .i64 b.b1, .int .i64 b.le, .int .i64 b.me])]) (A := Ie) M
  refine wp_exit ?_
  refine Zet ?_
  refine Zet ?_
  refine ex_hit ?_
  refine nm_then ?_
  refine wp_region_lit ?_
  refine Zg2 T (Zq (Zrm rfl (T.e 2 rfl))) rfl (Zm 5 rfl rfl) rfl ?_; clear T ac; intro ac T
  refine Zl2 ?_
  refine ow_bs (e := 33) [.slice B6 RL.length c6] M T rfl rfl rfl rfl (.cons (T.e 0 rfl) .nil) (fun _ => by kernel_rfl) ?_; clear M T; intro g3 wc ac M T
  refine Zl2 ?_
  refine ow_app (((g3, .cells [.slice B6 RL.length c6]) :: (g1, .cells [.int .i64 b.first, .int .i64 b.step, .int .i64 b.span, .int .i64 b.press, .int .i64 b.note, .slice A b.lows.length c, .slice B b.highs.length d, .int .i64 b.t0, .int .i64 b.t1, .int .i64 b.r0, .int .i64 b.r1, .int .i64 b.u0, .int .i64 b.u1, .int .i64 b.d0, .int .i64 b.d1, .int .i64 b.a0, .int .i64 b.a1, .int .i64 b.b0, .int .i64 b.b1, .int .i64 b.le, .int .i64 b.me]) :: (Ie ++ Ir))) Tryz.info33 hsl M (by first | rfl | simp) T rfl rfl rfl rfl Tryz.underlying55 rfl rfl rfl (by omega) (T.e 2 rfl) (T.e 0 rfl) (Zne (i := 0) rfl) rfl rfl ?_; clear M T; intro ga2 cga2 wc ac M T
  refine l_q (v := (.slice (some ⟨ga2, 0, none⟩) (OL.length + 1) cga2)) (T.pick [0, 1, 2, 3, 4, 5, 7, 8, 9] rfl) rfl rfl rfl rfl (Zra rfl (T.e 0 rfl)) ?_; clear T ac; intro ac T
  refine wpList_nil ?_
  replace T := T.pick [0, 6, 7] rfl
  replace M := M.mask [true, false, true] rfl
  refine Znb ?_
  refine nm_then ?_
  refine wp_region_lit ?_
  refine Zg2 T (Zq (Zrm rfl (T.e 2 rfl))) rfl (fun _ T => Zq (rn_add rfl (T.e 0 rfl) evc (by omega))) rfl ?_; clear T ac; intro ac T
  refine l_q (v := (.int .i64 ((k : Int) + 1))) (T.pick [0, 1, 2, 3] rfl) rfl rfl rfl rfl (Zra rfl (T.e 0 rfl)) ?_; clear T ac; intro ac T
  replace T := T.pick [0, 3, 4] rfl
  refine Zln ?_
  have e9 : OL.length + 1 = (OL ++ [(RL, B6, c6)]).length := by simp
  have e8 : ((lc OL) ++ [.slice B6 RL.length c6]) = lc (OL ++ [(RL, B6, c6)]) := lc_snoc _ _ _ _
  rw [e9, e8] at M
  rw [e9] at T
  clear e9 e8
  exact ⟨_, by omega, k + 1, (OL ++ [(RL, B6, c6)]), _, _, (Ie ++ Ir), [(ga2, .row 33 1 (OL ++ [(RL, B6, c6)]).length (lc (OL ++ [(RL, B6, c6)])) cga2)], rfl, (by omega), (by rw [take_row hkx, List.map_append, hO, hR]; rfl), (by simp [hOl]), (hE.own hRs), (Sl.row _ _ _ _ _ _), T.pick [2, 1, 0] rfl, ((Mem.swapI (I := [(ga2, .row 33 1 (OL ++ [(RL, B6, c6)]).length (lc (OL ++ [(RL, B6, c6)])) cga2)]) (L := [(g1, .cells [.int .i64 b.first, .int .i64 b.step, .int .i64 b.span, .int .i64 b.press, .int .i64 b.note, .slice A b.lows.length c, .slice B b.highs.length d, .int .i64 b.t0, .int .i64 b.t1, .int .i64 b.r0, .int .i64 b.r1, .int .i64 b.u0, .int .i64 b.u1, .int .i64 b.d0, .int .i64 b.d1, .int .i64 b.a0, .int .i64 b.a1, .int .i64 b.b0, .int .i64 b.b1, .int .i64 b.le, .int .i64 b.me])] ++ (Ie ++ Ir)) (M.permT [0, 1] 2 rfl rfl rfl rfl)).as (by simp))⟩
 intro h1
 refine wp_exit ?_
 refine Zet ?_
 refine Zet ?_
 refine ex_hit ?_
 refine nm_then ?_
 refine Zsr ?_
 refine Zg2 T (Zq (Zrm rfl (T.e 2 rfl))) rfl (Za 0 rfl rfl) rfl ?_; clear T ac; intro ac T
 refine wpList_nil ?_
 replace T := T.pick [0] rfl
 replace M := M.mask [false] rfl
 refine Znr ?_
 refine rt_1 T rfl (T.e 0 rfl) ?_
 obtain ⟨b9, o9, h9⟩ := hsl.spV (by simp [lc_length])
 exact ⟨B3, c3, OL, Ie ++ Io, rfl, by rw [hO, List.take_of_length_le (by omega)]; rfl, ⟨b9, o9, fun w ex => (h9 w ex).mono (Zsq _ _)⟩, hE.mono (Zsl _ _), M.mask [] rfl⟩
open Go.RowKit
open Go.RowKit
open Go.RowKit
theorem within_mk {n lo hi : Int} (h : lo ≤ n ∧ n ≤ hi) : withinB n lo hi = true := by unfold withinB; simpa using h
theorem chkR_mk {x0 x1 lo hi : Int} (h : lo ≤ x0 ∧ x0 ≤ x1 ∧ x1 ≤ hi) : chkR x0 x1 lo hi = 0 := by
 unfold chkR
 rw [if_pos ⟨within_mk (by omega), within_mk (by omega)⟩, if_neg (by omega)]
theorem chkAll_mk {lo hi : Int} : ∀ {l : List (Int × Int)}, (∀ p ∈ l, lo ≤ p.1 ∧ p.1 ≤ p.2 ∧ p.2 ≤ hi) → chkAll lo hi l = 0 := by
 intro l
 induction l with
 | nil => intro _; rfl
 | cons q r ih =>
  intro h
  have h0 := chkR_mk (h q (by simp))
  unfold chkAll
  rw [if_neg (by rw [h0]; simp)]
  exact ih fun p hp => h p (Zz1 hp)
theorem check_of_good {j : Jb} (h : j.good) : checkJ j = 0 := by
 have e1 := chkR_mk h.p
 have e2 : chkAll 0 100 [(j.t0, j.t1), (j.r0, j.r1)] = 0 := chkAll_mk (by
  intro p hp
  simp only [List.mem_cons, List.not_mem_nil, or_false] at hp
  rcases hp with rfl | rfl
  ·exact h.t
  ·exact h.r)
 have e3 : chkAll 0 12 [(j.u0, j.u1), (j.d0, j.d1), (j.a0, j.a1), (j.b0, j.b1)] = 0 := chkAll_mk (by
  intro p hp
  simp only [List.mem_cons, List.not_mem_nil, or_false] at hp
  rcases hp with rfl | rfl | rfl | rfl
  ·exact h.u
  ·exact h.d
  ·exact h.a
  ·exact h.b)
 have e4 := within_mk h.le
 have e6 := chkAll_mk h.sh
 have e7 := within_mk h.wi
 have e8 := within_mk h.me
 have e5 := h.few
 unfold checkJ
 rw [if_neg (by rw [e1]; simp), if_neg (by rw [e2]; simp), if_neg (by rw [e3]; simp), if_neg (by rw [e4]; simp), if_neg (by omega), if_neg (by rw [e6]; simp), if_neg (by rw [e7, e8]; simp)]
open Go.RowKit
theorem eqT26 {x y : Operand} {a0 a1 b0 b1 : Int} {w : World} : (do eqGuard .eql 26 x y (.agg #[.int .i64 a0, .int .i64 a1]) (.agg #[.int .i64 b0, .int .i64 b1]); binOp .eql 26 (.agg #[.int .i64 a0, .int .i64 a1]) (.agg #[.int .i64 b0, .int .i64 b1]) : Sem Value).run Tryz.prog w = .ok (.bool ((decide (a0 = b0) && decide (a1 = b1)))) w := by
 go_simp
 (repeat' split) <;> simp_all
theorem eqT28 {x y : Operand} {a0 a1 a2 a3 a4 a5 a6 a7 a8 b0 b1 b2 b3 b4 b5 b6 b7 b8 : Int} {w : World} : (do eqGuard .eql 28 x y (.agg #[.int .i64 a0, .int .i64 a1, .int .i64 a2, .int .i64 a3, .int .i64 a4, .int .i64 a5, .int .i64 a6, .int .i64 a7, .int .i64 a8]) (.agg #[.int .i64 b0, .int .i64 b1, .int .i64 b2, .int .i64 b3, .int .i64 b4, .int .i64 b5, .int .i64 b6, .int .i64 b7, .int .i64 b8]); binOp .eql 28 (.agg #[.int .i64 a0, .int .i64 a1, .int .i64 a2, .int .i64 a3, .int .i64 a4, .int .i64 a5, .int .i64 a6, .int .i64 a7, .int .i64 a8]) (.agg #[.int .i64 b0, .int .i64 b1, .int .i64 b2, .int .i64 b3, .int .i64 b4, .int .i64 b5, .int .i64 b6, .int .i64 b7, .int .i64 b8]) : Sem Value).run Tryz.prog w = .ok (.bool ((decide (a0 = b0) && (decide (a1 = b1) && (decide (a2 = b2) && (decide (a3 = b3) && (decide (a4 = b4) && (decide (a5 = b5) && (decide (a6 = b6) && (decide (a7 = b7) && decide (a8 = b8))))))))))) w := by
 go_simp
 (repeat' split) <;> simp_all
theorem same_start {α : Type} [DecidableEq α] (l r : List α) : decide (l = r) = (decide ((l.length : Int) = (r.length : Int)) && decide (l.drop 0 = r.drop 0)) := by
 by_cases h : l = r
 · subst h; simp
 · simp [h]
theorem same_next {x y x' y' : Int} {l r : List (Int × Int)} : decide ((x, y) :: l = (x', y') :: r) = ((decide (x = x') && decide (y = y')) && decide (l = r)) := by
 by_cases h1 : x = x' <;> by_cases h2 : y = y' <;> simp [h1, h2]
theorem sameRanges_any (A D : Option Addr) (n m c d : Nat) (l r : List (Int × Int)) (w : World) (hr : Rd w w.heap.size 2 A n (rc l)) (hs : Rd w w.heap.size 2 D m (rc r)) (hn : n ≤ 9223372036854775807) (hm : m ≤ 9223372036854775807) :
   Calls Tryz.prog 29 #[.slice A n c, .slice D m d] w fun e w' => e = .returned (.bool (decide (l = r))) ∧ Below w.heap.size w w' := by
 have hl := hr.len2
 have hl2 := hs.len2
 obtain ⟨bJ, oJ, SJ⟩ := Sp.old hr
 obtain ⟨bI, oI, SI⟩ := Sp.old hs
 refine Zpx noEx Tryz.func29 rfl 31 rfl [.slice A n c, .slice D m d] rfl rfl (Mem.init w _) ?_
 intro ac wc T M
 refine Zsr ?_
 refine lq T (Zra rfl evc) ?_; clear T ac; intro ac T
 replace T := T.pick [1, 2] rfl
 refine Zln ?_
 refine Zsr ?_
 refine Zg6 T (Zq (Zrm rfl (T.e 0 rfl))) rfl (Zl Tryz.underlying51 0 rfl rfl) rfl (Zm 3 rfl rfl) rfl (Zl Tryz.underlying51 0 rfl rfl) rfl (fun _ T => Zq (rn_eql rfl (T.e 2 rfl) (T.e 0 rfl))) rfl (Za 0 rfl rfl) rfl ?_; clear T ac; intro ac T
 replace T := T.pick [0, 6, 7] rfl
 refine Zln ?_
 refine wp_seq ?_
 refine Zsr ?_
 refine lq T (Zra rfl evc) ?_; clear T ac; intro ac T
 refine Zln ?_
 refine wp_block ?_
 refine wp_loop_n (fun mz ac wc => ∃ (k : Nat) (b : Bool), mz = n - k ∧ (k ≤ n) ∧ (b = true → n = m) ∧ (decide (l = r) = (b && decide (l.drop k = r.drop k))) ∧ Tm ac 31 [(0, .slice A n c), (1, .slice D m d), (5, .bool b), (6, .int .i64 (k : Int))] ∧ Mem w noEx wc []) ?_ ?_
 ·exact ⟨_, 0, _, rfl, (by omega), (fun h => by have := of_decide_eq_true h; omega), (by rw [same_start l r, hl, hl2]), T.pick [2, 3, 1, 0] rfl, M.mask [] rfl⟩
 clear T M
 rintro mz ac wc ⟨k, b, hmm1, hk, hb, H, T, M⟩
 refine wp_seq ?_
 refine cut_seq (fun ac wc => Tm ac 31 [(0, .slice A n c), (1, .slice D m d), (5, .bool b), (6, .int .i64 (k : Int)), (18, .bool (b && (decide ((k : Int) < ((n : Nat) : Int)))))] ∧ Mem w noEx wc []) ?_ ?_
 ·refine wp_region_lit ?_
  refine Zg2 T (Zq (Zrm rfl (T.e 2 rfl))) rfl (Zm 0 rfl rfl) rfl ?_; clear T ac; intro ac T
  rcases Bool.eq_false_or_eq_true b with h1 | h1
  ·refine Zg5 T (Zw (Zwy rfl rfl (T.e 0 rfl) h1) (Zrm rfl (T.e 5 rfl))) rfl (fun _ T => Zw (Zwy rfl rfl (T.e 1 rfl) h1) (Zrm rfl (T.e 3 rfl))) rfl (fun _ T => Zw (Zwy rfl rfl (T.e 2 rfl) h1) (Zrl rfl Tryz.underlying51 (T.e 0 rfl))) rfl (fun _ T => Zw (Zwy rfl rfl (T.e 3 rfl) h1) (rn_lss rfl (T.e 2 rfl) (T.e 0 rfl))) rfl (fun _ T => Zq (Zr1 rfl (T.e 4 rfl) h1 (T.e 0 rfl))) rfl ?_; clear T ac; intro ac T
   refine wpList_nil ?_
   replace T := T.pick [0, 1, 2, 3, 4, 7, 8, 9, 10] rfl
   exact ⟨(T.pick (E' := [(0, .slice A n c), (1, .slice D m d), (5, .bool b), (6, .int .i64 (k : Int)), (18, .bool (decide ((k : Int) < ((n : Nat) : Int))))]) [5, 6, 7, 8, 0] rfl).as (by (try rw [show b = true from h1]); (try rfl)), M.mask [] rfl⟩
  refine Zg5 T (Zp (Zwn rfl rfl (T.e 0 rfl) h1)) rfl (fun _ T => Zp (Zwn rfl rfl (T.e 1 rfl) h1)) rfl (fun _ T => Zp (Zwn rfl rfl (T.e 2 rfl) h1)) rfl (fun _ T => Zp (Zwn rfl rfl (T.e 3 rfl) h1)) rfl (fun _ T => Zq (Zr0 rfl (T.e 4 rfl) h1 evc)) rfl ?_; clear T ac; intro ac T
  refine wpList_nil ?_
  replace T := T.pick [0, 1, 2, 3, 4, 7, 8, 9, 10] rfl
  exact ⟨(T.pick (E' := [(0, .slice A n c), (1, .slice D m d), (5, .bool b), (6, .int .i64 (k : Int)), (18, .bool false)]) [5, 6, 7, 8, 0] rfl).as (by (try rw [show b = false from h1]); (try rfl)), M.mask [] rfl⟩
 clear T M
 rintro ac wc ⟨T, M⟩
 refine wp_cond_split (T.e 4 rfl) ?_ ?_
 ·intro h2
  (have h2' := h2; try simp only [Zb1, Zb2, Zb3, Zb4, Zb5, Zb6, Zb7] at h2')
  have h1 : b = true ∧ (k : Int) < (n : Int) := by simpa using h2
  have hnm := hb h1.1
  obtain ⟨x0, x1, hk1, hd⟩ := rc_next (l := l) (k := k) (by omega)
  obtain ⟨y0, y1, hk2, hd2⟩ := rc_next (l := r) (k := k) (by omega)
  rw [hd, hd2, h1.1, Bool.true_and, same_next] at H
  refine Zsk ?_
  refine wp_seq ?_
  refine wp_block ?_
  refine Zgs M (M.mask [] rfl) 10 (by kernel_rfl) rfl (by kernel_rfl) ?_
  clear M; intro wc M
  refine gq T 0 1 rfl (fun _ _ _ _ _ => (Zrm rfl (T.e 0 rfl))) ?_; clear T ac; intro ac T
  refine gq T 1 3 rfl (fun _ _ _ _ _ => (Zrm rfl (T.e 4 rfl))) ?_; clear T ac; intro ac T
  refine gq T 2 7 rfl (fun _ _ _ _ _ => (Zri (size := 2) k rfl (T.e 1 rfl) (T.e 0 rfl) ⟨_, Tryz.underlying51, by kernel_rfl⟩ rfl (by omega) (SJ.at0 (by omega)))) ?_; clear T ac; intro ac T
  refine gq (v := (.agg #[.int .i64 x0, .int .i64 x1])) T 3 15 rfl (fun B w' hD hl hS => (rn_rowat (Sp.rcR SJ (show Mem w noEx w' _ from hS) (Zz9 _) hk1) rfl (T.e 0 rfl) rfl)) ?_; clear T ac; intro ac T
  refine gq T 4 31 rfl (fun _ _ _ _ _ => (Zrm rfl (T.e 5 rfl))) ?_; clear T ac; intro ac T
  refine gq T 5 63 rfl (fun _ _ _ _ _ => (Zrm rfl (T.e 8 rfl))) ?_; clear T ac; intro ac T
  refine gq T 6 127 rfl (fun _ _ _ _ _ => (Zri (size := 2) k rfl (T.e 1 rfl) (T.e 0 rfl) ⟨_, Tryz.underlying51, by kernel_rfl⟩ rfl (by omega) (SI.at0 (by omega)))) ?_; clear T ac; intro ac T
  refine gq (v := (.agg #[.int .i64 y0, .int .i64 y1])) T 7 255 rfl (fun B w' hD hl hS => (rn_rowat (Sp.rcR SI (show Mem w noEx w' _ from hS) (Zz9 _) hk2) rfl (T.e 0 rfl) rfl)) ?_; clear T ac; intro ac T
  refine gq (v := (.bool ((decide (x0 = y0)) && (decide (x1 = y1))))) T 8 511 rfl (fun _ _ _ _ _ => (rn_bin rfl (T.e 4 rfl) (T.e 0 rfl) eqT26)) ?_; clear T ac; intro ac T
  refine g_q (v := (.bool ((decide (x0 = y0)) && (decide (x1 = y1))))) (T := T.pick [0, 1, 2, 3, 4, 5, 6, 7, 8, 9, 10, 12, 13] rfl) (i := 9) rfl (by kernel_rfl) (by kernel_rfl : (Zpb 10 511).setIfInBounds 9 true = Zpb 10 1023) si_U (fun _ _ _ h => h) rfl rfl rfl rfl (fun _ _ _ _ _ => (Zra rfl (T.e 0 rfl))) ?_; clear T ac; intro ac T
  refine Zgd (by kernel_rfl) ?_
  replace T := T.pick [0, 10, 11, 12] rfl
  refine Znb ?_
  refine nm_then ?_
  refine wp_region_lit ?_
  refine Zg2 T (Zq (Zrm rfl (T.e 3 rfl))) rfl (fun _ T => Zq (rn_add rfl (T.e 0 rfl) evc (by omega))) rfl ?_; clear T ac; intro ac T
  refine l_q (v := (.int .i64 ((k : Int) + 1))) (T.pick [0, 1, 2, 3, 4] rfl) rfl rfl rfl rfl (Zra rfl (T.e 0 rfl)) ?_; clear T ac; intro ac T
  replace T := T.pick [0, 3, 4, 5] rfl
  refine Zln ?_
  exact ⟨_, by omega, k + 1, _, rfl, (by omega), (fun _ => hnm), H, T.pick [2, 3, 1, 0] rfl, M.mask [] rfl⟩
 intro h2
 (have h2' := h2; try simp only [Zb1, Zb2, Zb3, Zb4, Zb5, Zb6, Zb7] at h2')
 refine wp_exit ?_
 refine Zet ?_
 refine Zet ?_
 refine ex_hit ?_
 refine nm_then ?_
 refine Zsr ?_
 refine Zg2 T (Zq (Zrm rfl (T.e 2 rfl))) rfl (Za 0 rfl rfl) rfl ?_; clear T ac; intro ac T
 replace T := T.pick [0] rfl
 refine Zln ?_
 refine wp_ret ?_
 refine rt_1 T rfl (T.e 0 rfl) ?_
 refine ⟨ret_bool ?_, M.below⟩
 rw [H]
 rcases Bool.eq_false_or_eq_true b with hb1 | hb1
 · have hnm := hb hb1
   have : ¬ ((k : Int) < (n : Int)) := by intro hc; simp [hb1, hc] at h2
   rw [List.drop_of_length_le (by omega), List.drop_of_length_le (by omega)]
   simp [hb1]
 · simp [hb1]
theorem sameRanges_same (A D : Option Addr) (n m c d : Nat) (l : List (Int × Int)) (w : World) (hr : Rd w w.heap.size 2 A n (rc l)) (hs : Rd w w.heap.size 2 D m (rc l)) (hn : n ≤ 9223372036854775807) (hm : m ≤ 9223372036854775807) :
  Calls Tryz.prog 29 #[.slice A n c, .slice D m d] w fun e w' => e = .returned (.bool true) ∧ Below w.heap.size w w' := by
 have := sameRanges_any A D n m c d l l w hr hs hn hm
 simpa using this
def shlI (x n : Int) : Int := IntKind.i64.wrap (x * 2 ^ min n.toNat 64)
def shrI (x n : Int) : Int := x.fdiv (2 ^ min n.toNat 64)
def andI (x y : Int) : Int := IntKind.i64.wrap ((BitVec.ofInt 64 x &&& BitVec.ofInt 64 y).toNat)
def orI (x y : Int) : Int := IntKind.i64.wrap ((BitVec.ofInt 64 x ||| BitVec.ofInt 64 y).toNat)
section
variable {P : Program} {op : Oper} {a : Act} {w : World} {t t' : TypeId} {x y : Operand} {p q : Int}
theorem rn_shl (ho : op.op = .binOp .shl t x y t') (hx : a.eval x = .int .i64 p) (hy : a.eval y = .int .i64 q) (hb : 0 ≤ q) : Runs P op a (.int .i64 (shlI p q)) w :=
 rn_bin ho hx hy (by
  show (Op.shift .shl .i64 p .i64 q).run P w = _
  unfold Op.shift
  rw [if_neg (by omega)]
  rfl)
theorem rn_shr (ho : op.op = .binOp .shr t x y t') (hx : a.eval x = .int .i64 p) (hy : a.eval y = .int .i64 q) (hb : 0 ≤ q) : Runs P op a (.int .i64 (shrI p q)) w :=
 rn_bin ho hx hy (by
  show (Op.shift .shr .i64 p .i64 q).run P w = _
  unfold Op.shift
  rw [if_neg (by omega)]
  rfl)
theorem rn_and (ho : op.op = .binOp .and t x y t') (hx : a.eval x = .int .i64 p) (hy : a.eval y = .int .i64 q) : Runs P op a (.int .i64 (andI p q)) w := rn_bin ho hx hy rfl
theorem rn_or (ho : op.op = .binOp .or t x y t') (hx : a.eval x = .int .i64 p) (hy : a.eval y = .int .i64 q) : Runs P op a (.int .i64 (orI p q)) w := rn_bin ho hx hy rfl
end
def hasI (s n : Int) : Bool := decide (andI (shrI s n) 1 = 1)
def withI (s n : Int) : Int := orI s (shlI 1 n)
def sizeI (s : Int) : Nat := (List.range 5).countP fun k => hasI s (k : Nat)
theorem with_fin : ∀ (s : Fin 32) (n : Fin 5), (0 ≤ withI s.val n.val ∧ withI s.val n.val < 32) ∧ ∀ k : Fin 5, hasI (withI s.val n.val) k.val = (hasI s.val k.val || decide (k = n)) := by decide +kernel
theorem size_fin : ∀ s : Fin 32, 0 < s.val → (0 ≤ andI s.val ((s.val : Int) - 1) ∧ andI s.val ((s.val : Int) - 1) < s.val) ∧ sizeI (andI s.val ((s.val : Int) - 1)) + 1 = sizeI s.val := by decide +kernel
theorem with_bd {s n : Int} (hs : 0 ≤ s ∧ s < 32) (hn : 0 ≤ n ∧ n < 5) : 0 ≤ withI s n ∧ withI s n < 32 := by
 have h := (with_fin ⟨s.toNat, by omega⟩ ⟨n.toNat, by omega⟩).1
 simp only [Int.toNat_of_nonneg hs.1, Int.toNat_of_nonneg hn.1] at h
 exact h
theorem with_has {s n k : Int} (hs : 0 ≤ s ∧ s < 32) (hn : 0 ≤ n ∧ n < 5) (hk : 0 ≤ k ∧ k < 5) : hasI (withI s n) k = (hasI s k || decide (k = n)) := by
 have h := (with_fin ⟨s.toNat, by omega⟩ ⟨n.toNat, by omega⟩).2 ⟨k.toNat, by omega⟩
 simp only [Int.toNat_of_nonneg hs.1, Int.toNat_of_nonneg hn.1, Int.toNat_of_nonneg hk.1] at h
 rw [h]
 congr 1
 apply decide_eq_decide.2
 rw [Fin.mk.injEq]
 omega
theorem size_step {s : Int} (hs : 0 < s ∧ s < 32) : (0 ≤ andI s (s - 1) ∧ andI s (s - 1) < s) ∧ sizeI (andI s (s - 1)) + 1 = sizeI s := by
 have h := size_fin ⟨s.toNat, by omega⟩ (by show 0 < s.toNat; omega)
 simp only [Int.toNat_of_nonneg (show 0 ≤ s by omega)] at h
 exact h
theorem has0 {k : Int} (hk : 0 ≤ k ∧ k < 5) : hasI 0 k = false := by
 have h : ∀ k : Fin 5, hasI 0 k.val = false := by decide +kernel
 have := h ⟨k.toNat, by omega⟩
 simpa only [Int.toNat_of_nonneg hk.1] using this
theorem size0 : sizeI 0 = 0 := by decide +kernel
def pairsP : List Int → Int
 | [] => 0
 | h :: l => (if 0 ≤ h then 1 else 0) + pairsP l
theorem pairsP_snoc (l : List Int) (h : Int) : pairsP (l ++ [h]) = pairsP l + (if 0 ≤ h then 1 else 0) := by
 induction l with
 | nil => simp [pairsP]
 | cons x l ih =>
  show _ + pairsP (l ++ [h]) = _ + pairsP l + _
  rw [ih]
  omega
def offerP : Option (List Int) → List Int → Option (List Int)
 | none, l => some l
 | some b, l => if pairsP b < pairsP l then some l else some b
def goP (may : Nat → Nat → Bool) (l : List Int) (h : Nat) : Bool := !(l.contains (h : Int)) && may l.length h
def prsP (may : Nat → Nat → Bool) (highs : Nat) : Nat → List Int → List (List Int)
 | 0, l => [l]
 | r + 1, l => ((List.range highs).flatMap fun h => if goP may l h then prsP may highs r (l ++ [(h : Int)]) else []) ++ prsP may highs r (l ++ [-1])
def growP (may : Nat → Nat → Bool) (highs r : Nat) (l : List Int) (b : Option (List Int)) : Option (List Int) := (prsP may highs r l).foldl offerP b
def partP (may : Nat → Nat → Bool) (highs r : Nat) (l : List Int) (b : Option (List Int)) (h : Nat) : Option (List Int) := ((List.range h).flatMap fun h => if goP may l h then prsP may highs r (l ++ [(h : Int)]) else []).foldl offerP b
theorem partP_zero (may : Nat → Nat → Bool) (highs r : Nat) (l : List Int) (b : Option (List Int)) : partP may highs r l b 0 = b := rfl
theorem partP_skip {may : Nat → Nat → Bool} {highs r : Nat} {l : List Int} {b : Option (List Int)} {h : Nat} (hg : goP may l h = false) : partP may highs r l b (h + 1) = partP may highs r l b h := by
 unfold partP
 rw [List.range_succ, List.flatMap_append, List.foldl_append]
 simp [hg]
theorem partP_go {may : Nat → Nat → Bool} {highs r : Nat} {l : List Int} {b : Option (List Int)} {h : Nat} (hg : goP may l h = true) : partP may highs r l b (h + 1) = growP may highs r (l ++ [(h : Int)]) (partP may highs r l b h) := by
 unfold partP growP
 rw [List.range_succ, List.flatMap_append, List.foldl_append]
 simp [hg]
theorem growP_succ (may : Nat → Nat → Bool) (highs r : Nat) (l : List Int) (b : Option (List Int)) : growP may highs (r + 1) l b = growP may highs r (l ++ [-1]) (partP may highs r l b highs) := by
 unfold growP partP
 rw [prsP, List.foldl_append]
def tabP (T : List (List Int)) (ok : Int → Bool) (i k : Nat) : Bool := ok ((T.getD i []).getD k 0)
def mostO (T : List (List Int)) (ok : Int → Bool) (lows highs : Nat) : Option (List Int) := growP (tabP T ok) highs lows [] none
def mostP (T : List (List Int)) (ok : Int → Bool) (lows highs : Nat) : List Int := (mostO T ok lows highs).getD []
section
variable {P : Program} {op : Oper} {a : Act} {K : Act → World → Prop} {Q : Exit → Act → World → Prop} {w0 w : World} {ex : Nat → Prop} {L0 L : List (Nat × BA)} {E : List (Nat × Value)} {t n : Nat}
theorem ow_bs0 {ty e : TypeId} (M : Mem w0 ex w L) (T : Tm a n E) (ho : op.op = .buildSlice ty 0 #[]) (hd : op.dst = some t) (hf : freshE E t = true) (hn : Nat.blt t n = true)
  (hr : ∀ w : World, (Instr.buildSlice ty 0 #[]).run P w = .ok (.slice (some ⟨w.heap.size, 0, none⟩) 0 0) (w.alloc (.cells #[] e)))
  (h : ∀ g w' a', Mem w0 ex w' ((g, .any fun o => o = .cells #[] e) :: L) → Tm a' n ((t, .slice (some ⟨g, 0, none⟩) 0 0) :: E) → K a' w') : op.wp P a w K Q := by
 unfold Oper.wp execOp
 simp only [ho]
 have e2 : ((#[] : Array (Nat × Operand)).map fun (i, x) => (i, a.eval x)) = #[] := by simp
 rw [Sem.run_bind, e2, hr]
 exact h w.heap.size _ _ (M.newAny (.cells #[] e) (fun o => o = .cells #[] e) rfl) (by rw [hd]; exact T.put hn hf _)
theorem ow_appS {s x : Operand} {ty e size bytes b m d : Nat} {B : Option Addr} {z : Value} {cs : List Value}
  (hinfo : (P.info? e).map (fun i => (i.zero, i.size, i.bytes)) = some (some z, size, bytes)) (M : Mem w0 ex w ((b, .any fun o => o = .cells #[] e) :: L)) (T : Tm a n E)
  (ho : op.op = .call { callee := .builtin .append, args := #[s, x], argTypes := #[ty, ty] }) (hd : op.dst = some t) (hf : freshE E t = true) (hnn : Nat.blt t n = true)
  (h0 : ∀ g (w : World), (Builtin.append_ #[ty, ty] op.type #[.slice (some ⟨g, 0, none⟩) 0 0, .slice B 0 d]).run P w = .ok (.slice (some ⟨g, 0, none⟩) 0 0) w)
  (ht : P.underlying ty = some (.slice e)) (hzs : z.cells.size = size) (hsz : Nat.blt 0 size = true) (hby : Nat.ble bytes 1000 = true) (hm : m ≤ 1000000)
  (hs : a.eval s = .slice (some ⟨b, 0, none⟩) 0 0) (hx : a.eval x = .slice B m d) (hr : Rd w w.heap.size size B m cs) (h1 : ∀ u ∈ cs, u.oneCell' = true)
  (h : ∀ A' c' I' w' a', Sm e size A' m c' cs I' → Mem w0 ex w' (I' ++ L) → Tm a' n ((t, .slice A' m c') :: E) → K a' w') : op.wp P a w K Q := by
 rcases Nat.eq_zero_or_pos m with rfl | hm0
 ·obtain rfl : cs = [] := List.eq_nil_of_length_eq_zero (by have := hr.1; omega)
  unfold Oper.wp execOp
  simp only [ho, resolve, invoke, builtin, Sem.run_bind, Sem.run_pure, Result.andThen_ok, List.map_toArray, List.map_cons, List.map_nil, hs, hx, h0]
  exact h _ _ [(b, .any fun o => o = .cells #[] e)] w _ (.inl ⟨rfl, rfl, rfl, b, rfl, rfl⟩) M (by rw [hd]; exact T.put hnn hf _)
 ·obtain ⟨i, hi, hz0, hz1, hz2⟩ := info_parts hinfo
  obtain ⟨g2, o2, rfl, hlt, hc⟩ := hr.cells hm0
  have hby := Nat.le_of_ble_eq_true hby
  have hsz := Nat.le_of_ble_eq_true hsz
  have hbb : (0 + m) * bytes ≤ 140737488355328 := by
   have : (0 + m) * bytes ≤ 1000000 * 1000 := Nat.mul_le_mul (by omega) hby
   omega
  obtain ⟨h2, o, hge, rfl⟩ := M.blk (b, .any fun o => o = .cells #[] e) Zz2
  have hgl : b < w.heap.size := (Array.getElem?_eq_some_iff.1 hge).1
  refine wp_append_lies w s x ty ho b e i z size bytes ht hi hz0 hz1 hz2 hzs hsz _ 0 [] hs ⟨by simp, .inr ⟨b, 0, #[], rfl, Nat.le_refl _, hge, by omega, by unfold maxLen; omega, by simp, by simp⟩⟩ ⟨g2, o2, none⟩ m d cs hx hr.1 (fun j u hu => by rw [Addr.add_mid]; exact hc j u hu) h1 hm0 (by unfold maxLen; omega) hbb (Nat.le_of_lt hgl) w.heap.size rfl ?_
  intro g cap' w' hown hgr hat hlt2
  have hgr : w.grownBy w' (some b) := hgr
  simp only [Nat.zero_add, List.nil_append] at hown
  have key : Mem w0 ex w' ((g, .row e size m cs cap') :: L) := by
   rcases hat with h3 | h3
   ·have h3 : some b = some g := h3
    injection h3 with h3
    subst h3
    exact M.callW (L' := (b, .row e size m cs cap') :: L) .head hgr (own_rebase hown hm0)
   ·have M1 := M.callW (L' := (b, .any (fun _ => True)) :: L) .head hgr (by
     have hl0 : b < w'.heap.size := Nat.lt_of_lt_of_le hgl hgr.size
     exact ⟨w'.heap[b], Array.getElem?_eq_getElem hl0, trivial⟩)
    exact M1.forget.add (by rw [h3]; exact M.size) (own_rebase hown hm0) (fun q hq e => by have := BA.lt (M.blk q (Zz1 hq)).2; omega)
  have e0 : a.put op.dst (.slice (some ⟨g, 0, none⟩) (0 + m) cap') = a.put op.dst (.slice (some ⟨g, 0, none⟩) m cap') := by rw [Nat.zero_add]
  rw [e0]
  exact h _ _ [(g, .row e size m cs cap')] w' _ (.inr ⟨g, rfl, rfl⟩) key (by rw [hd]; exact T.put hnn hf _)
end
def Cl (e size : Nat) (A : Option Addr) (n c : Nat) (xs : List Value) (I : List (Nat × BA)) : Prop :=
 (A = none ∧ n = 0 ∧ xs = [] ∧ c = 0 ∧ I = []) ∨ Sm e size A n c xs I
theorem Cl.spV {e size n c : Nat} {A : Option Addr} {xs : List Value} {I : List (Nat × BA)} (h : Cl e size A n c xs I) (hl : xs.length = n * size) : ∃ b o, ∀ (w : World) (ex : Nat → Prop), Sp w ex I A n size b o xs := by
 rcases h with ⟨rfl, rfl, rfl, _, rfl⟩ | ⟨rfl, rfl, _, g, rfl, rfl⟩ | ⟨g, rfl, rfl⟩
 · exact ⟨0, 0, fun w ex => Sp.nil⟩
 · exact ⟨0, 0, fun w ex => ⟨fun h => absurd h (by omega), by simp, fun _ _ _ _ h => absurd h (by omega), fun _ _ _ _ j u hu => by simp at hu⟩⟩
 · exact ⟨g, 0, fun w ex => Sp.row hl⟩
theorem Mem.joinX {w0 w w' : World} {ex ex' : Nat → Prop} {X X' F : List (Nat × BA)} (M : Mem w0 ex w (X ++ F)) (N : Mem w ex' w' X') (hx : ∀ b, ex' b → inL X b) : Mem w0 ex w' (X' ++ F) := by
 have hX : ∀ b, ex' b → w0.heap.size ≤ b ∨ ex b := fun b hb => by
  obtain ⟨q, hq, rfl⟩ := List.mem_map.1 (hx b hb)
  exact (M.blk q (List.mem_append_left _ hq)).1
 have hnd := M.nd
 rw [List.map_append] at hnd
 obtain ⟨n1, n2, n3⟩ := List.nodup_append.1 hnd
 refine ⟨N.os.trans M.os, N.tape.trans M.tape, N.output.trans M.output, Nat.le_trans M.size N.size, fun b hb hxb => ?_, fun q hq => ?_, ?_⟩
 ·refine (N.block b (Nat.lt_of_lt_of_le hb M.size) fun e => ?_).trans (M.block b hb hxb)
  rcases hX b e with h | h
  ·omega
  ·exact hxb h
 ·rcases List.mem_append.1 hq with hq | hq
  ·have h := N.blk q hq
   refine ⟨?_, h.2⟩
   rcases h.1 with h | h
   ·exact .inl (Nat.le_trans M.size h)
   ·exact hX _ h
  ·have h := M.blk q (List.mem_append_right _ hq)
   exact ⟨h.1, BA.same h.2 N.size (N.block _ (BA.lt h.2) fun e => by
    obtain ⟨r, hr, e2⟩ := List.mem_map.1 (hx _ e)
    exact n3 r.1 (List.mem_map.2 ⟨r, hr, rfl⟩) q.1 (List.mem_map.2 ⟨q, hq, rfl⟩) e2)⟩
 ·rw [List.map_append]
  refine List.nodup_append.2 ⟨N.nd, n2, fun a ha b hb e => ?_⟩
  obtain ⟨q, hq, rfl⟩ := List.mem_map.1 ha
  obtain ⟨r, hr, rfl⟩ := List.mem_map.1 hb
  have h2 := BA.lt (M.blk r (List.mem_append_right _ hr)).2
  rcases (N.blk q hq).1 with h1 | h1
  ·omega
  ·obtain ⟨s, hs, e2⟩ := List.mem_map.1 (hx _ h1)
   exact n3 s.1 (List.mem_map.2 ⟨s, hs, rfl⟩) r.1 (List.mem_map.2 ⟨r, hr, rfl⟩) (e2.trans e)
theorem Mem.spin {w0 w : World} {ex : Nat → Prop} (X Y Z : List (Nat × BA)) (M : Mem w0 ex w (X ++ (Y ++ Z))) : Mem w0 ex w (X ++ (Z ++ Y)) :=
 have hp : (X ++ (Y ++ Z)).Perm (X ++ (Z ++ Y)) := List.Perm.append_left X List.perm_append_comm
 ⟨M.os, M.tape, M.output, M.size, M.block, fun p h => M.blk p (hp.mem_iff.2 h), (hp.map _).nodup_iff.1 M.nd⟩
theorem Mem.wide {w0 w w' : World} {ex ex' : Nat → Prop} {L L' : List (Nat × BA)} (M : Mem w0 ex w L) (N : Mem w ex' w' L') (hx : ∀ b, ex' b → inL L b) : Mem w0 ex w' [] :=
 (Mem.joinX (F := []) (by rw [List.append_nil]; exact M) N hx).sub (Zz9 _)
theorem Sp.move {w0 w : World} {ex ex' : Nat → Prop} {L : List (Nat × BA)} {A : Option Addr} {n size b o : Nat} {xs : List Value} (M : Mem w0 ex w L) (hx : ∀ b, ex' b → inL L b) (S : Sp w0 ex [] A n size b o xs) : Sp w ex' [] A n size b o xs :=
 ⟨S.at0, S.len, fun w' L' M' _ hn => S.lt w' [] (M.wide M' hx) (List.Sublist.refl _) hn, fun w' L' M' _ j v hv => S.cell w' [] (M.wide M' hx) (List.Sublist.refl _) j v hv⟩
def Old (w : World) (ex : Nat → Prop) (g : Nat) (cs : List Value) : Prop := Bk w g cs.toArray ∧ ¬ ex g
theorem Old.move {w0 w : World} {ex ex' : Nat → Prop} {L : List (Nat × BA)} {g : Nat} {cs : List Value} (M : Mem w0 ex w L) (hx : ∀ b, ex' b → inL L b) (h : Old w0 ex g cs) : Old w ex' g cs :=
 ⟨M.old h.1 h.2, fun e => by
  obtain ⟨q, hq, rfl⟩ := List.mem_map.1 (hx _ e)
  have := h.1.lt
  rcases (M.blk q hq).1 with h1 | h1
  ·omega
  ·exact h.2 h1⟩
theorem Old.of {w0 w : World} {ex ex' : Nat → Prop} {L X : List (Nat × BA)} {g : Nat} {cs : List Value} (M : Mem w0 ex w (X ++ L)) (hx : ∀ b, ex' b → inL X b) (h : (g, BA.cells cs) ∈ L) : Old w ex' g cs :=
 ⟨M.get (List.mem_append_right _ h), fun e => by
  have hnd := M.nd
  rw [List.map_append] at hnd
  obtain ⟨s, hs, e2⟩ := List.mem_map.1 (hx _ e)
  exact (List.nodup_append.1 hnd).2.2 s.1 (List.mem_map.2 ⟨s, hs, rfl⟩) g (List.mem_map.2 ⟨_, h, rfl⟩) e2⟩
theorem Sp.of {w0 w : World} {ex ex' : Nat → Prop} {L X I : List (Nat × BA)} {A : Option Addr} {n size b o : Nat} {xs : List Value} (M : Mem w0 ex w (X ++ L)) (hx : ∀ b, ex' b → inL X b) (S : Sp w0 ex I A n size b o xs) (hI : I.Sublist L) : Sp w ex' [] A n size b o xs :=
 ⟨S.at0, S.len, fun w' L' M' _ hn => S.lt w' _ (Mem.joinX M M' hx) (hI.trans (Zsq _ _)) hn, fun w' L' M' _ j v hv => S.cell w' _ (Mem.joinX M M' hx) (hI.trans (Zsq _ _)) j v hv⟩
theorem Sp.other {w : World} {n g : Nat} {A : Option Addr} {l : List Int} {cs : List Value} (h : Rd w w.heap.size 1 A n (ic l)) (hB : Bk w g cs.toArray) (hc : ∀ v ∈ cs, ∀ k i, v ≠ .int k i) : ∃ b o, Sp w (fun b => b = g) [] A n 1 b o (ic l) := by
 rcases Nat.eq_zero_or_pos n with rfl | hn
 ·refine ⟨0, 0, by omega, h.1, fun _ _ _ _ h => absurd h (by omega), fun _ _ _ _ j u hu => ?_⟩
  have : ic l = [] := List.eq_nil_of_length_eq_zero (by have := h.1; omega)
  simp [this] at hu
 ·obtain ⟨b, o, h1, h2, h3⟩ := h.2 hn
  refine ⟨b, o, fun _ => h1, h.1, fun w' L M _ _ => Nat.lt_of_lt_of_le h2 M.size, fun w' L M _ j u hu => (World.cell?_of_block (w := w) (a := ⟨b, o + j, none⟩) (M.block b h2 fun e => ?_)).trans (h3 j u hu)⟩
  have e : b = g := e
  subst e
  have hl := h.1
  rw [ic_length] at hl
  obtain ⟨x, hx⟩ : ∃ x, l[0]? = some x := ⟨_, List.getElem?_eq_getElem (by omega)⟩
  have h4 := h3 0 (.int .i64 x) (by unfold ic; rw [List.getElem?_map, hx]; rfl)
  rw [hB.cell] at h4
  have h5 : (cs.toArray)[o + 0]? = some (.int .i64 x) := h4
  have h6 : Value.int .i64 x ∈ cs := by
   rw [List.getElem?_toArray] at h5
   exact List.mem_of_getElem? h5
  exact hc _ h6 _ _ rfl
def KS (best : Option (List Int)) (A : Option Addr) (n : Nat) (is : Bool) (I : List (Nat × BA)) : Prop :=
 n = (best.getD []).length ∧ n ≤ 5 ∧ is = best.isSome ∧ ∃ b o, ∀ (w : World) (ex : Nat → Prop), Sp w ex I A n 1 b o (ic (best.getD []))
theorem KS.nil (A : Option Addr) : KS none A 0 false [] := ⟨rfl, by omega, rfl, 0, 0, fun _ _ => Sp.nil⟩
def offC (is : Bool) (lb l : List Int) (new old : Value) : List Value := if ((!is) || decide (pairsP lb < pairsP l)) = true then [new, .bool true] else [old, .bool is]
theorem offer_ks {best : Option (List Int)} {l : List Int} {A Ab : Option Addr} {n nb c cb : Nat} {is : Bool} {I Ib : List (Nat × BA)} (h : KS best Ab nb is Ib) (hl : ∃ b o, ∀ (w : World) (ex : Nat → Prop), Sp w ex I A n 1 b o (ic l)) (hn : n = l.length) (hn5 : n ≤ 5) :
  ∃ A' n' c' is' I', offC is (best.getD []) l (.slice A n c) (.slice Ab nb cb) = [.slice A' n' c', .bool is'] ∧ KS (offerP best l) A' n' is' I' ∧ (I' = I ∨ I' = Ib) := by
 obtain ⟨h1, h2, rfl, h3⟩ := h
 cases best with
 | none => exact ⟨A, n, c, true, I, by simp [offC], ⟨hn, hn5, rfl, hl⟩, .inl rfl⟩
 | some b =>
  by_cases hp : pairsP b < pairsP l
  ·exact ⟨A, n, c, true, I, by simp [offC, hp], by simp only [offerP, hp, if_true]; exact ⟨hn, hn5, rfl, hl⟩, .inl rfl⟩
  ·exact ⟨Ab, nb, cb, true, Ib, by simp [offC, hp], by simp only [offerP, hp, if_false]; exact ⟨h1, h2, rfl, h3⟩, .inr rfl⟩
def UsedOk (s : Int) (l : List Int) : Prop := (0 ≤ s ∧ s < 32) ∧ ∀ k : Nat, k < 5 → hasI s k = l.contains (k : Int)
theorem UsedOk.nil : UsedOk 0 [] := ⟨by omega, fun k hk => by rw [has0 (by omega)]; rfl⟩
theorem UsedOk.with {s : Int} {l : List Int} {h : Nat} (u : UsedOk s l) (hh : h < 5) : UsedOk (withI s h) (l ++ [(h : Int)]) := by
 refine ⟨with_bd u.1 (by omega), fun k hk => ?_⟩
 rw [with_has u.1 (by omega) (by omega), u.2 k hk]
 simp [List.contains_eq_any_beq, List.any_append, eq_comm]
 try rfl
theorem UsedOk.skip {s : Int} {l : List Int} (u : UsedOk s l) : UsedOk s (l ++ [-1]) := by
 refine ⟨u.1, fun k hk => ?_⟩
 rw [u.2 k hk]
 have : ((k : Int) == -1) = false := by rw [beq_eq_false_iff_ne]; omega
 simp [List.contains_eq_any_beq, List.any_append, this]
def stG (may : Nat → Nat → Bool) (highs r : Nat) (l : List Int) (b : Option (List Int)) (h : Nat) : Option (List Int) := if h ≤ highs then partP may highs r l b h else growP may highs (r + 1) l b
theorem stG_zero (may : Nat → Nat → Bool) (highs r : Nat) (l : List Int) (b : Option (List Int)) : stG may highs r l b 0 = b := by rw [stG, if_pos (Nat.zero_le _), partP_zero]
theorem stG_skip {may : Nat → Nat → Bool} {highs r : Nat} {l : List Int} {b : Option (List Int)} {h : Nat} (hh : h < highs) (hg : goP may l h = false) : stG may highs r l b (h + 1) = stG may highs r l b h := by
 rw [stG, if_pos (by omega), stG, if_pos (by omega), partP_skip hg]
theorem stG_go {may : Nat → Nat → Bool} {highs r : Nat} {l : List Int} {b : Option (List Int)} {h : Nat} (hh : h < highs) (hg : goP may l h = true) : stG may highs r l b (h + 1) = growP may highs r (l ++ [(h : Int)]) (stG may highs r l b h) := by
 rw [stG, if_pos (by omega), stG, if_pos (by omega), partP_go hg]
theorem stG_last {may : Nat → Nat → Bool} {highs r : Nat} {l : List Int} {b : Option (List Int)} : stG may highs r l b (highs + 1) = growP may highs r (l ++ [-1]) (stG may highs r l b highs) := by
 rw [stG, if_neg (by omega), stG, if_pos (Nat.le_refl _), growP_succ]
theorem stG_end {may : Nat → Nat → Bool} {highs r : Nat} {l : List Int} {b : Option (List Int)} {h : Nat} (hh : highs < h) : stG may highs r l b h = growP may highs (r + 1) l b := by rw [stG, if_neg (by omega)]
structure GE where
 lo : Nat
 me : Nat
 hi : Nat
 ma : Nat
 gr : Nat
 kb : Nat
 mb : Nat
 tb : Nat
 fo : Nat
 lows : Nat
 highs : Nat
 A : Option Addr
 c : Nat
 LL : List LE
abbrev pV (g : Nat) : Value := .pointer (some ⟨g, 0, none⟩)
structure GEnv (e : GE) (w : World) (ex : Nat → Prop) : Prop where
 lo : Old w ex e.lo [.int .i64 (e.lows : Int)]
 me : Old w ex e.me [.func (.func 106) #[] #[pV e.kb]]
 hi : Old w ex e.hi [.int .i64 (e.highs : Int)]
 ma : Old w ex e.ma [.func (.func 105) #[] #[pV e.mb, pV e.tb]]
 gr : Old w ex e.gr [.func (.func 132) #[] #[pV e.lo, pV e.me, pV e.hi, pV e.ma, pV e.gr]]
 mb : Old w ex e.mb [.func (.func e.fo) #[] #[]]
 tb : Old w ex e.tb [.slice e.A e.LL.length e.c]
 sp : ∃ b o, Sp w ex [] e.A e.LL.length 1 b o (lc e.LL)
 els : ∀ x ∈ e.LL, ∃ b o, Sp w ex [] x.2.1 x.1.length 1 b o (ic x.1)
theorem GEnv.move {e : GE} {w0 w : World} {ex ex' : Nat → Prop} {L : List (Nat × BA)} (M : Mem w0 ex w L) (hx : ∀ b, ex' b → inL L b) (h : GEnv e w0 ex) : GEnv e w ex' :=
 ⟨h.lo.move M hx, h.me.move M hx, h.hi.move M hx, h.ma.move M hx, h.gr.move M hx, h.mb.move M hx, h.tb.move M hx,
  (by obtain ⟨b, o, h1⟩ := h.sp; exact ⟨b, o, h1.move M hx⟩), fun x hx' => (by obtain ⟨b, o, h1⟩ := h.els x hx'; exact ⟨b, o, h1.move M hx⟩)⟩
def GrowPost (kb : Nat) (best : Option (List Int)) (w : World) (ex : Nat → Prop) (e : Ending) (w' : World) : Prop :=
 ∃ A n c is I, e = .returned (.bool true) ∧ KS best A n is I ∧ Mem w ex w' ((kb, .cells [.slice A n c, .bool is]) :: I)
def MayOk (e : GE) (may : Nat → Nat → Bool) : Prop := ∀ (w : World) (i h : Nat), GEnv e w noEx → i < e.lows → h < e.highs → Calls Tryz.prog 105 #[.int .i64 (i : Int), .int .i64 (h : Int), pV e.mb, pV e.tb] w (fun en w' => en = .returned (.bool (may i h)) ∧ Below w.heap.size w w')
theorem goP_of {may : Nat → Nat → Bool} {used : Int} {l : List Int} {h : Nat} {v : Bool} (hu : UsedOk used l) (hh : h < 5) (h5 : (hasI used (h : Int) || !may l.length h) = v) : goP may l h = !v := by
 unfold goP
 rw [← hu.2 h hh, ← h5]
 cases hasI used (h : Int) <;> cases may l.length h <;> rfl
theorem stG_last' {may : Nat → Nat → Bool} {highs r : Nat} {l : List Int} {b : Option (List Int)} {h : Nat} (hh : h = highs) : stG may highs r l b (h + 1) = growP may highs r (l ++ [-1]) (stG may highs r l b h) := by subst hh; exact stG_last
def GrowSpec (e : GE) (may : Nat → Nat → Bool) (r : Nat) : Prop :=
 ∀ (w : World) (exq : Nat → Prop) (l : List Int) (A : Option Addr) (m c : Nat) (used : Int) (bo : Option (List Int)) (Ab : Option Addr) (nb cb : Nat) (is : Bool) (Il Ib : List (Nat × BA)),
  m = l.length → l.length + r = e.lows → UsedOk used l → KS bo Ab nb is Ib → (∃ b o, ∀ (w : World) (ex : Nat → Prop), Sp w ex Il A m 1 b o (ic l)) → GEnv e w exq → Mem w exq w ((e.kb, .cells [.slice Ab nb cb, .bool is]) :: (Ib ++ Il)) →
  Calls Tryz.prog 132 #[.slice A m c, .int .i64 used, pV e.lo, pV e.me, pV e.hi, pV e.ma, pV e.gr] w (GrowPost e.kb (growP may e.highs r l bo) w exq)
theorem ic_one (l : List Int) : ∀ u ∈ ic l, u.oneCell' = true := by
 intro u hu
 obtain ⟨p, _, rfl⟩ := List.mem_map.1 hu
 rfl
theorem pairsP_take {l : List Int} {k : Nat} {x : Int} (h : l[k]? = some x) : pairsP (l.take (k + 1)) = pairsP (l.take k) + (if 0 ≤ x then 1 else 0) := by
 rw [List.take_add_one, h]
 exact pairsP_snoc _ _
theorem with_any (s n : Int) (w : World) (hn : 0 ≤ n) :
  Calls Tryz.prog 62 #[.int .i64 s, .int .i64 n] w fun e w' => e = .returned (.int .i64 (withI s n)) ∧ Below w.heap.size w w' := by
 refine Zpx noEx Tryz.func62 rfl 9 rfl [.int .i64 s, .int .i64 n] rfl rfl (Mem.init w _) ?_
 intro ac wc T M
 refine Zsr ?_
 refine lq T (Zra rfl evc) ?_; clear T ac; intro ac T
 replace T := T.pick [1, 2] rfl
 refine Zln ?_
 refine Zsr ?_
 refine Zg5 T (Zq (Zrm rfl (T.e 0 rfl))) rfl (Zm 2 rfl rfl) rfl (fun _ T => Zq (rn_shl rfl evc (T.e 0 rfl) (by omega))) rfl (fun _ T => Zq (rn_or rfl (T.e 2 rfl) (T.e 0 rfl))) rfl (Za 0 rfl rfl) rfl ?_; clear T ac; intro ac T
 replace T := T.pick [0] rfl
 refine Zln ?_
 refine wp_ret ?_
 refine rt_1 T rfl (T.e 0 rfl) ?_
 exact ⟨rfl, M.below⟩
theorem hasT_any (s n : Int) (w : World) (hn : 0 ≤ n) :
  Calls Tryz.prog 133 #[.int .i64 s, .int .i64 n] w fun e w' => e = .returned (.bool (hasI s n)) ∧ Below w.heap.size w w' := by
 refine Zpx noEx Tryz.func133 rfl 10 rfl [.int .i64 s, .int .i64 n] rfl rfl (Mem.init w _) ?_
 intro ac wc T M
 refine Zsr ?_
 refine lq T (Zra rfl evc) ?_; clear T ac; intro ac T
 replace T := T.pick [1, 2] rfl
 refine Zln ?_
 refine Zsr ?_
 refine Zg6 T (Zq (Zrm rfl (T.e 0 rfl))) rfl (Zm 2 rfl rfl) rfl (fun _ T => Zq (rn_shr rfl (T.e 1 rfl) (T.e 0 rfl) (by omega))) rfl (fun _ T => Zq (rn_and rfl (T.e 0 rfl) evc)) rfl (fun _ T => Zq (rn_eql rfl (T.e 0 rfl) evc)) rfl (Za 0 rfl rfl) rfl ?_; clear T ac; intro ac T
 replace T := T.pick [0] rfl
 refine Zln ?_
 refine wp_ret ?_
 refine rt_1 T rfl (T.e 0 rfl) ?_
 exact ⟨rfl, M.below⟩
theorem size_any (s : Int) (w : World) (hs : 0 ≤ s ∧ s < 32) :
   Calls Tryz.prog 61 #[.int .i64 s] w fun e w' => e = .returned (.int .i64 (sizeI s : Nat)) ∧ Below w.heap.size w w' := by
 refine Zpx noEx Tryz.func61 rfl 13 rfl [.int .i64 s] rfl rfl (Mem.init w _) ?_
 intro ac wc T M
 refine Zsr ?_
 refine lq T (Zra rfl evc) ?_; clear T ac; intro ac T
 replace T := T.pick [1] rfl
 refine Zln ?_
 refine Zsr ?_
 refine lq T (Zra rfl evc) ?_; clear T ac; intro ac T
 refine Zln ?_
 refine wp_seq ?_
 refine wp_block ?_
 refine wp_loop_n (fun mz ac wc => ∃ (r k : Int), mz = r.toNat ∧ (0 ≤ r ∧ r < 32) ∧ (0 ≤ k ∧ k ≤ 32 - r) ∧ ((sizeI s : Int) = k + (sizeI r : Nat)) ∧ Tm ac 13 [(0, .int .i64 r), (3, .int .i64 k)] ∧ Mem w noEx wc []) ?_ ?_
 ·exact ⟨_, s, 0, rfl, (by omega), (by omega), (by omega), T.pick [1, 0] rfl, M.mask [] rfl⟩
 clear T M
 rintro mz ac wc ⟨r, k, hmm1, hr, hk, H, T, M⟩
 refine wp_seq ?_
 refine Zsr ?_
 refine Zg2 T (Zq (Zrm rfl (T.e 0 rfl))) rfl (fun _ T => Zq (rn_gtr rfl (T.e 0 rfl) evc)) rfl ?_; clear T ac; intro ac T
 replace T := T.pick [0, 2, 3] rfl
 refine Zln ?_
 refine wp_if (T.e 0 rfl) ?_ ?_
 ·intro h1
  have hz := size_step (s := r) (by omega)
  refine Zsk ?_
  refine wp_seq ?_
  refine wp_block ?_
  refine wp_region_lit ?_
  refine Zg2 T (Zq (Zrm rfl (T.e 2 rfl))) rfl (fun _ T => Zq (rn_add rfl (T.e 0 rfl) evc (by omega))) rfl ?_; clear T ac; intro ac T
  refine l_q (v := (.int .i64 (k + 1))) (T.pick [0, 1, 2, 3] rfl) rfl rfl rfl rfl (Zra rfl (T.e 0 rfl)) ?_; clear T ac; intro ac T
  refine wpList_nil ?_
  replace T := T.pick [0, 4] rfl
  refine Znb ?_
  refine nm_then ?_
  refine wp_region_lit ?_
  refine Zg4 T (Zq (Zrm rfl (T.e 1 rfl))) rfl (Zm 2 rfl rfl) rfl (fun _ T => Zq (rn_sub rfl (T.e 0 rfl) evc (by omega))) rfl (fun _ T => Zq (rn_and rfl (T.e 2 rfl) (T.e 0 rfl))) rfl ?_; clear T ac; intro ac T
  refine l_q (v := (.int .i64 (andI r (r - 1)))) (T.pick [0, 1, 2, 3, 4] rfl) rfl rfl rfl rfl (Zra rfl (T.e 0 rfl)) ?_; clear T ac; intro ac T
  replace T := T.pick [0, 5] rfl
  refine Zln ?_
  exact ⟨_, by omega, _, _, rfl, (by omega), (by omega), (by omega), T.pick [0, 1] rfl, M.mask [] rfl⟩
 intro h1
 obtain rfl : r = 0 := by omega
 rw [size0] at H
 refine wp_exit ?_
 refine Zet ?_
 refine Zet ?_
 refine ex_hit ?_
 refine nm_then ?_
 refine Zsr ?_
 refine Zg2 T (Zq (Zrm rfl (T.e 2 rfl))) rfl (Za 0 rfl rfl) rfl ?_; clear T ac; intro ac T
 replace T := T.pick [0] rfl
 refine Zln ?_
 refine wp_ret ?_
 refine rt_1 T rfl (T.e 0 rfl) ?_
 exact ⟨ret_int (by omega), M.below⟩
theorem pairs_any (A : Option Addr) (m c : Nat) (l : List Int) (w : World) (hr : Rd w w.heap.size 1 A m (ic l)) (hm : m ≤ 1000000)  :
   Calls Tryz.prog 58 #[.slice A m c] w fun e w' => e = .returned (.int .i64 (pairsP l)) ∧ Below w.heap.size w w' := by
 have hml := hr.len1
 obtain ⟨bA, oA, SA⟩ := Sp.old hr
 refine Zpx noEx Tryz.func58 rfl 18 rfl [.slice A m c] rfl rfl (Mem.init w _) ?_
 intro ac wc T M
 refine Zsr ?_
 refine lq T (Zra rfl evc) ?_; clear T ac; intro ac T
 replace T := T.pick [1] rfl
 refine Zln ?_
 refine Zsr ?_
 refine lq T (Zra rfl evc) ?_; clear T ac; intro ac T
 refine Zln ?_
 refine wp_seq ?_
 refine Zsr ?_
 refine Zg3 T (Zq (Zrm rfl (T.e 1 rfl))) rfl (Zl Tryz.underlying33 0 rfl rfl) rfl (fun _ T => Zq (Zrm rfl evc)) rfl ?_; clear T ac; intro ac T
 replace T := T.pick [0, 1, 2, 3] rfl
 refine Zln ?_
 refine wp_block ?_
 refine wp_loop_n (fun mz ac wc => ∃ (k : Nat) (q : Int), mz = m - k ∧ (k ≤ m) ∧ (0 ≤ q ∧ q ≤ k) ∧ (q = pairsP (l.take k)) ∧ Tm ac 18 [(3, .int .i64 q), (6, .slice A m c), (7, .int .i64 ((m : Nat) : Int)), (8, .int .i64 (k : Int))] ∧ Mem w noEx wc []) ?_ ?_
 ·exact ⟨_, 0, 0, rfl, (Nat.zero_le _), (by omega), rfl, T.pick [3, 2, 1, 0] rfl, M.mask [] rfl⟩
 clear T M
 rintro mz ac wc ⟨k, q, hmm1, hk, hq, H, T, M⟩
 refine Zsr ?_
 refine lq T (rn_lss rfl (T.e 3 rfl) (T.e 2 rfl)) ?_; clear T ac; intro ac T
 refine Zln ?_
 refine wp_seq ?_
 refine wp_if (T.e 0 rfl) ?_ ?_
 ·intro h1
  obtain ⟨x, hkx, -⟩ := ic_next (l := l) (k := k) (by omega)
  have hpt := pairsP_take hkx
  refine Zsk ?_
  refine cut_seq (fun ac wc => Tm ac 18 [(3, .int .i64 (if 0 ≤ x then (q + 1) else q)), (6, .slice A m c), (7, .int .i64 ((m : Nat) : Int)), (8, .int .i64 (k : Int))] ∧ Mem w noEx wc []) ?_ ?_
  ·refine wp_block ?_
   refine Zsr ?_
   refine Zg3 T (Zq (Zri (size := 1) k rfl (T.e 2 rfl) (T.e 4 rfl) ⟨_, Tryz.underlying33, by kernel_rfl⟩ rfl (by omega) (SA.at0 (by omega)))) rfl (fun _ T => Zq (rn_cell (Sp.ic0 SA M (Zz9 _) hkx) rfl (T.e 0 rfl))) rfl (Za 0 rfl rfl) rfl ?_; clear T ac; intro ac T
   replace T := T.pick [0, 4, 5, 6, 7] rfl
   refine Zln ?_
   refine Zsr ?_
   refine Zg2 T (Zq (Zrm rfl (T.e 0 rfl))) rfl (fun _ T => Zq (rn_geq rfl (T.e 0 rfl) evc)) rfl ?_; clear T ac; intro ac T
   replace T := T.pick [0, 3, 4, 5, 6] rfl
   refine Zln ?_
   refine wp_if (T.e 0 rfl) ?_ ?_
   ·intro h2
    refine wp_region_lit ?_
    refine Zg2 T (Zq (Zrm rfl (T.e 1 rfl))) rfl (fun _ T => Zq (rn_add rfl (T.e 0 rfl) evc (by omega))) rfl ?_; clear T ac; intro ac T
    refine l_q (v := (.int .i64 (q + 1))) (T.pick [0, 1, 2, 4, 5, 6] rfl) rfl rfl rfl rfl (Zra rfl (T.e 0 rfl)) ?_; clear T ac; intro ac T
    refine wpList_nil ?_
    replace T := T.pick [0, 4, 5, 6] rfl
    refine Znb ?_
    exact ⟨(T.pick (E' := [(3, .int .i64 (q + 1)), (6, .slice A m c), (7, .int .i64 ((m : Nat) : Int)), (8, .int .i64 (k : Int))]) [0, 1, 2, 3] rfl).as (by (try rw [show (decide (0 ≤ x)) = true from (Zdt h2)]); (try simp only [if_pos h2]); (try rfl)), M.mask [] rfl⟩
   intro h2
   refine wp_skip ?_
   refine Znb ?_
   exact ⟨(T.pick (E' := [(3, .int .i64 q), (6, .slice A m c), (7, .int .i64 ((m : Nat) : Int)), (8, .int .i64 (k : Int))]) [1, 2, 3, 4] rfl).as (by (try rw [show (decide (0 ≤ x)) = false from (Zdf h2)]); (try simp only [if_neg h2]); (try rfl)), M.mask [] rfl⟩
  clear T M
  rintro ac wc ⟨T, M⟩
  refine wp_region_lit ?_
  refine lq T (rn_add rfl (T.e 3 rfl) evc (by omega)) ?_; clear T ac; intro ac T
  refine l_q (v := (.int .i64 ((k : Int) + 1))) (T.pick [0, 1, 2, 3] rfl) rfl rfl rfl rfl (Zrm rfl (T.e 0 rfl)) ?_; clear T ac; intro ac T
  replace T := T.pick [0, 2, 3, 4] rfl
  refine Zln ?_
  exact ⟨_, by omega, k + 1, _, rfl, (by omega), (by (try split) <;> omega), (by rw [hpt, ← H]; (try split) <;> omega), T.pick [1, 2, 3, 0] rfl, M.mask [] rfl⟩
 intro h1
 rw [List.take_of_length_le (by omega)] at H
 refine wp_exit ?_
 refine Zet ?_
 refine Zet ?_
 refine ex_hit ?_
 refine nm_then ?_
 refine Zsr ?_
 refine Zg2 T (Zq (Zrm rfl (T.e 1 rfl))) rfl (Za 0 rfl rfl) rfl ?_; clear T ac; intro ac T
 replace T := T.pick [0] rfl
 refine Zln ?_
 refine wp_ret ?_
 refine rt_1 T rfl (T.e 0 rfl) ?_
 exact ⟨ret_int H, M.below⟩
theorem always_any (x : Int) (w : World)  :
  Calls Tryz.prog 56 #[.int .i64 x] w fun e w' => e = .returned (.bool (decide (x = 1))) ∧ Below w.heap.size w w' := by
 refine Zpx noEx Tryz.func56 rfl 5 rfl [.int .i64 x] rfl rfl (Mem.init w _) ?_
 intro ac wc T M
 refine Zsr ?_
 refine lq T (Zra rfl evc) ?_; clear T ac; intro ac T
 replace T := T.pick [1] rfl
 refine Zln ?_
 refine Zsr ?_
 refine Zg3 T (Zq (Zrm rfl (T.e 0 rfl))) rfl (fun _ T => Zq (rn_eql rfl (T.e 0 rfl) evc)) rfl (Za 0 rfl rfl) rfl ?_; clear T ac; intro ac T
 replace T := T.pick [0] rfl
 refine Zln ?_
 refine wp_ret ?_
 refine rt_1 T rfl (T.e 0 rfl) ?_
 exact ⟨rfl, M.below⟩
theorem maybe_any (x : Int) (w : World)  :
  Calls Tryz.prog 66 #[.int .i64 x] w fun e w' => e = .returned (.bool (!decide (x = 2))) ∧ Below w.heap.size w w' := by
 refine Zpx noEx Tryz.func66 rfl 5 rfl [.int .i64 x] rfl rfl (Mem.init w _) ?_
 intro ac wc T M
 refine Zsr ?_
 refine lq T (Zra rfl evc) ?_; clear T ac; intro ac T
 replace T := T.pick [1] rfl
 refine Zln ?_
 refine Zsr ?_
 refine Zg3 T (Zq (Zrm rfl (T.e 0 rfl))) rfl (fun _ T => Zq (rn_neq rfl (T.e 0 rfl) evc)) rfl (Za 0 rfl rfl) rfl ?_; clear T ac; intro ac T
 replace T := T.pick [0] rfl
 refine Zln ?_
 refine wp_ret ?_
 refine rt_1 T rfl (T.e 0 rfl) ?_
 exact ⟨rfl, M.below⟩
theorem better_any (A : Option Addr) (m c : Nat) (l : List Int) (B : Option Addr) (d f : Nat) (lb : List Int) (w : World) (hl : Rd w w.heap.size 1 A m (ic l)) (hm : m ≤ 1000000) (hb : Rd w w.heap.size 1 B d (ic lb)) (hd : d ≤ 1000000)  :
  Calls Tryz.prog 108 #[.slice A m c, .slice B d f] w fun e w' => e = .returned (.bool (decide (pairsP lb < pairsP l))) ∧ Below w.heap.size w w' := by
 obtain ⟨bA, oA, SA⟩ := Sp.old hl
 obtain ⟨bB, oB, SB⟩ := Sp.old hb
 refine Zpx noEx Tryz.func108 rfl 10 rfl [.slice A m c, .slice B d f] rfl rfl (Mem.init w _) ?_
 intro ac wc T M
 refine Zsr ?_
 refine lq T (Zra rfl evc) ?_; clear T ac; intro ac T
 replace T := T.pick [1, 2] rfl
 refine Zln ?_
 refine Zsr ?_
 refine lq T (Zrm rfl (T.e 0 rfl)) ?_; clear T ac; intro ac T
 refine Zl2 ?_
 refine Zoc (first := []) (cap := []) T rfl rfl rfl rfl evf (.cons (T.e 0 rfl) .nil) Tryz.func58 rfl rfl ?_
 refine Calls.mono (pairs_any _ _ _ l _ (SA.rd M (Zz9 _)) (by omega)) ?_
 clear T; rintro e wc ⟨rfl, hb⟩ ac T
 replace M := M.call hb; clear hb
 refine lq T (Zrm rfl (T.e 3 rfl)) ?_; clear T ac; intro ac T
 refine Zl2 ?_
 refine Zoc (first := []) (cap := []) T rfl rfl rfl rfl evf (.cons (T.e 0 rfl) .nil) Tryz.func58 rfl rfl ?_
 refine Calls.mono (pairs_any _ _ _ lb _ (SB.rd M (Zz9 _)) (by omega)) ?_
 clear T; rintro e wc ⟨rfl, hb⟩ ac T
 replace M := M.call hb; clear hb
 refine Zg2 T (Zq (rn_gtr rfl (T.e 2 rfl) (T.e 0 rfl))) rfl (Za 0 rfl rfl) rfl ?_; clear T ac; intro ac T
 replace T := T.pick [0] rfl
 refine Zln ?_
 refine wp_ret ?_
 refine rt_1 T rfl (T.e 0 rfl) ?_
 exact ⟨rfl, M.below⟩
def OfferPost (kb : Nat) (is : Bool) (lb l : List Int) (new old : Value) (v : Value) (w : World) (e : Ending) (w' : World) : Prop := e = .returned v ∧ Mem w (fun b => b = kb) w' [(kb, .cells (offC is lb l new old))]
theorem offer_any (kb : Nat) (is : Bool) (A : Option Addr) (m c : Nat) (l : List Int) (B : Option Addr) (d f : Nat) (lb : List Int) (w : World) (hl : Rd w w.heap.size 1 A m (ic l)) (hm : m ≤ 1000000) (hb : Rd w w.heap.size 1 B d (ic lb)) (hd : d ≤ 1000000) (hk : Bk w kb #[.slice B d f, .bool is]) :
   Calls Tryz.prog 107 #[.pointer (some ⟨kb, 0, none⟩), .slice A m c, .func (.func 108) #[] #[]] w (OfferPost kb is lb l (.slice A m c) (.slice B d f) (.tuple #[]) w) := by
 obtain ⟨bA, oA, SA⟩ := Sp.other hl hk (by intro v hv k i; simp only [List.mem_cons, List.not_mem_nil, or_false] at hv; rcases hv with rfl | rfl <;> simp)
 obtain ⟨bB, oB, SB⟩ := Sp.other hb hk (by intro v hv k i; simp only [List.mem_cons, List.not_mem_nil, or_false] at hv; rcases hv with rfl | rfl <;> simp)
 refine Zpx (fun b => b = kb) Tryz.func107 rfl 27 rfl [.pointer (some ⟨kb, 0, none⟩), .slice A m c, .func (.func 108) #[] #[]] rfl rfl (Mem.initEx (p := .cells [.slice B d f, .bool is]) hk) ?_
 intro ac wc T M
 refine cut_seq (fun ac wc => Tm ac 27 [(0, .pointer (some ⟨kb, 0, none⟩)), (1, .slice A m c), (19, .bool ((!is) || (decide (pairsP lb < pairsP l))))] ∧ Mem w (fun b => b = kb) wc [(kb, .cells [.slice B d f, .bool is])]) ?_ ?_
 ·refine wp_region_lit ?_
  refine Zg6 (v3 := (.pointer (some ⟨kb, 1, none⟩))) T (Zq (Zrm rfl (T.e 0 rfl))) rfl (fun _ T => Zq (rn_nil rfl (T.e 0 rfl))) rfl (Zf 1 0 rfl rfl) rfl (Zo M 0 0 rfl rfl rfl rfl) rfl (fun _ T => Zq (rn_not rfl (T.e 0 rfl))) rfl (Zm 0 rfl rfl) rfl ?_; clear T ac; intro ac T
  rcases Bool.eq_false_or_eq_true (!is) with h1 | h1
  ·refine Zg8 T (Zp (Zwn rfl rfl (T.e 0 rfl) h1)) rfl (fun _ T => Zp (Zwn rfl rfl (T.e 1 rfl) h1)) rfl (fun _ T => Zp (Zwn rfl rfl (T.e 2 rfl) h1)) rfl (fun _ T => Zp (Zwn rfl rfl (T.e 3 rfl) h1)) rfl (fun _ T => Zp (Zwn rfl rfl (T.e 4 rfl) h1)) rfl (fun _ T => Zp (Zwn rfl rfl (T.e 5 rfl) h1)) rfl (fun _ T => Zp (Zwn rfl rfl (T.e 6 rfl) h1)) rfl (fun _ T => Zq (Zr1 rfl (T.e 7 rfl) h1 evc)) rfl ?_; clear T ac; intro ac T
   refine wpList_nil ?_
   replace T := T.pick [0, 14, 15] rfl
   exact ⟨(T.pick (E' := [(0, .pointer (some ⟨kb, 0, none⟩)), (1, .slice A m c), (19, .bool true)]) [1, 2, 0] rfl).as (by (try rw [show (!is) = true from h1]); (try rfl)), M.mask [true] rfl⟩
  refine Zg6 (v5 := (.pointer (some ⟨kb, 0, none⟩))) T (Zw (Zwy rfl rfl (T.e 0 rfl) h1) (Zrm rfl (T.e 8 rfl))) rfl (fun _ T => Zw (Zwy rfl rfl (T.e 1 rfl) h1) (Zrm rfl (T.e 8 rfl))) rfl (fun _ T => Zw (Zwy rfl rfl (T.e 2 rfl) h1) (Zrm rfl (T.e 8 rfl))) rfl (fun _ T => Zw (Zwy rfl rfl (T.e 3 rfl) h1) (rn_nil rfl (T.e 0 rfl))) rfl (fun _ T => Zw (Zwy rfl rfl (T.e 4 rfl) h1) (Zrf (off := 0) rfl (T.e 0 rfl) (fun _ _ _ => by kernel_rfl))) rfl (fun _ T => Zw (Zwy rfl rfl (T.e 5 rfl) h1) (Zro (Mem.nth M 0 rfl) rfl (T.e 0 rfl) rfl)) rfl ?_; clear T ac; intro ac T
  refine l_w (Zwy rfl rfl (T.e 6 rfl) h1) ?_; intro K hK
  refine Zoc (first := []) (cap := []) T rfl rfl rfl rfl (T.e 5 rfl) (.cons (T.e 4 rfl) (.cons (T.e 0 rfl) .nil)) Tryz.func108 rfl rfl ?_
  refine Calls.mono (better_any _ _ _ l _ _ _ lb _ (SA.rd M (Zz9 _)) hm (SB.rd M (Zz9 _)) hd) ?_
  clear T; rintro e wc ⟨rfl, hb⟩ ac T
  replace M := M.call hb; clear hb
  refine Zso hK _ _ ?_; clear hK K
  refine lq T (Zr0 rfl (T.e 7 rfl) h1 (T.e 0 rfl)) ?_; clear T ac; intro ac T
  refine wpList_nil ?_
  replace T := T.pick [0, 14, 15] rfl
  exact ⟨(T.pick (E' := [(0, .pointer (some ⟨kb, 0, none⟩)), (1, .slice A m c), (19, .bool (decide (pairsP lb < pairsP l)))]) [1, 2, 0] rfl).as (by (try rw [show (!is) = false from h1]); (try rfl)), M.mask [true] rfl⟩
 clear T M
 rintro ac wc ⟨T, M⟩
 refine wp_cond_split (T.e 2 rfl) ?_ ?_
 ·intro h2
  (have h2' := h2; try simp only [Zb1, Zb2, Zb3, Zb4, Zb5, Zb6, Zb7] at h2')
  refine wp_region_lit ?_
  refine Zg5 (v5 := (.pointer (some ⟨kb, 0, none⟩))) T (Zq (Zrm rfl (T.e 0 rfl))) rfl (Zm 1 rfl rfl) rfl (Zm 3 rfl rfl) rfl (fun _ T => Zq (rn_nil rfl (T.e 2 rfl))) rfl (Zf 0 0 rfl rfl) rfl ?_; clear T ac; intro ac T
  refine Zl2 ?_
  refine Zos M T rfl rfl (T.e 0 rfl) (T.e 2 rfl) rfl .head rfl (by simp) rfl (by kernel_rfl) ?_; clear M T; intro wc ac M T
  refine Zg2 (v2 := (.pointer (some ⟨kb, 1, none⟩))) T (Zq (rn_nil rfl (T.e 3 rfl))) rfl (Zf 1 0 rfl rfl) rfl ?_; clear T ac; intro ac T
  refine Zl2 ?_
  refine Zos M T rfl rfl (T.e 0 rfl) evc rfl .head rfl (by simp) rfl (by kernel_rfl) ?_; clear M T; intro wc ac M T
  refine wpList_nil ?_
  replace T := T.pick [] rfl
  refine nm_0 T rfl ?_
  exact ⟨rfl, by unfold offC; rw [if_pos (by simp_all)]; exact M⟩
 intro h2
 (have h2' := h2; try simp only [Zb1, Zb2, Zb3, Zb4, Zb5, Zb6, Zb7] at h2')
 refine wp_skip ?_
 refine nm_0 T rfl ?_
 exact ⟨rfl, by unfold offC; rw [if_neg (by simp_all)]; exact M⟩
theorem met_any (kb : Nat) (is : Bool) (A : Option Addr) (m c : Nat) (l : List Int) (B : Option Addr) (d f : Nat) (lb : List Int) (w : World) (hl : Rd w w.heap.size 1 A m (ic l)) (hm : m ≤ 1000000) (hb : Rd w w.heap.size 1 B d (ic lb)) (hd : d ≤ 1000000) (hk : Bk w kb #[.slice B d f, .bool is]) :
  Calls Tryz.prog 106 #[.slice A m c, .pointer (some ⟨kb, 0, none⟩)] w (OfferPost kb is lb l (.slice A m c) (.slice B d f) (.bool true) w) := by
 obtain ⟨bA, oA, SA⟩ := Sp.other hl hk (by intro v hv k i; simp only [List.mem_cons, List.not_mem_nil, or_false] at hv; rcases hv with rfl | rfl <;> simp)
 obtain ⟨bB, oB, SB⟩ := Sp.other hb hk (by intro v hv k i; simp only [List.mem_cons, List.not_mem_nil, or_false] at hv; rcases hv with rfl | rfl <;> simp)
 refine Zpx (fun b => b = kb) Tryz.func106 rfl 6 rfl [.slice A m c, .pointer (some ⟨kb, 0, none⟩)] rfl rfl (Mem.initEx (p := .cells [.slice B d f, .bool is]) hk) ?_
 intro ac wc T M
 refine Zsr ?_
 refine lq T (Zra rfl evc) ?_; clear T ac; intro ac T
 replace T := T.pick [1, 2] rfl
 refine Zln ?_
 refine Zsr ?_
 refine lq T (Zrm rfl (T.e 0 rfl)) ?_; clear T ac; intro ac T
 refine Zl2 ?_
 refine Zoc (first := []) (cap := []) T rfl rfl rfl rfl evf (.cons (T.e 2 rfl) (.cons (T.e 0 rfl) (.cons evf .nil))) Tryz.func107 rfl rfl ?_
 refine Calls.mono (offer_any kb is _ _ _ l _ _ _ lb _ (SA.rd M (Zz9 _)) hm (SB.rd M (Zz9 _)) hd (M.nth 0 rfl)) ?_
 clear T; rintro e wc ⟨rfl, N⟩ ac T
 replace M := Mem.joinX (X := [(kb, .cells [.slice B d f, .bool is])]) (F := []) M N (fun b h => by subst h; exact Zz2)
 clear N
 replace T := T.pick [] rfl
 refine Zln ?_
 refine Zsr ?_
 refine lq T (Zra rfl evc) ?_; clear T ac; intro ac T
 refine Zln ?_
 refine wp_ret ?_
 refine rt_1 T rfl (T.e 0 rfl) ?_
 exact ⟨rfl, M⟩
theorem may_always (mb tb : Nat) (A : Option Addr) (c : Nat) (LL : List LE) (i k : Nat) (x : List Int) (B : Option Addr) (d : Nat) (y : Int) (w : World) (hmb : Bk w mb #[.func (.func 56) #[] #[]]) (htb : Bk w tb #[.slice A LL.length c]) (hA : Rd w w.heap.size 1 A LL.length (lc LL)) (hx : LL[i]? = some (x, B, d)) (hB : Rd w w.heap.size 1 B x.length (ic x)) (hy : x[k]? = some y) :
  Calls Tryz.prog 105 #[.int .i64 (i : Int), .int .i64 (k : Int), .pointer (some ⟨mb, 0, none⟩), .pointer (some ⟨tb, 0, none⟩)] w fun e w' => e = .returned (.bool (decide (y = 1))) ∧ Below w.heap.size w w' := by
 obtain ⟨bA, oA, SA⟩ := Sp.old hA
 obtain ⟨bB, oB, SB⟩ := Sp.old hB
 have hi := (List.getElem?_eq_some_iff.1 hx).1
 have hk := (List.getElem?_eq_some_iff.1 hy).1
 refine Zpx noEx Tryz.func105 rfl 16 rfl [.int .i64 (i : Int), .int .i64 (k : Int), .pointer (some ⟨mb, 0, none⟩), .pointer (some ⟨tb, 0, none⟩)] rfl rfl (Mem.init w _) ?_
 intro ac wc T M
 refine Zsr ?_
 refine lq T (Zra rfl evc) ?_; clear T ac; intro ac T
 replace T := T.pick [1, 2, 3, 4] rfl
 refine Zln ?_
 refine wp_seq ?_
 refine Zgs M (M.mask [] rfl) 10 (by kernel_rfl) rfl (by kernel_rfl) ?_
 clear M; intro wc M
 refine gq T 0 1 rfl (fun B w' hD hl hS => (Zro (Mem.old (show Mem w noEx w' _ from hS) hmb (fun h => h)) rfl (T.e 2 rfl) rfl)) ?_; clear T ac; intro ac T
 refine gq T 1 3 rfl (fun B w' hD hl hS => (Zro (Mem.old (show Mem w noEx w' _ from hS) htb (fun h => h)) rfl (T.e 4 rfl) rfl)) ?_; clear T ac; intro ac T
 refine gq T 2 7 rfl (fun _ _ _ _ _ => (Zrm rfl (T.e 2 rfl))) ?_; clear T ac; intro ac T
 refine gq T 3 15 rfl (fun _ _ _ _ _ => (Zri (size := 1) i rfl (T.e 1 rfl) (T.e 0 rfl) ⟨_, Tryz.underlying55, by kernel_rfl⟩ rfl (by omega) (SA.at0 (by omega)))) ?_; clear T ac; intro ac T
 refine gq (v := (.slice B x.length d)) T 4 31 rfl (fun B w' hD hl hS => (rn_cell (Sp.lc0 SA (show Mem w noEx w' _ from hS) (Zz9 _) hx) rfl (T.e 0 rfl))) ?_; clear T ac; intro ac T
 refine gq T 5 63 rfl (fun _ _ _ _ _ => (Zrm rfl (T.e 6 rfl))) ?_; clear T ac; intro ac T
 refine gq T 6 127 rfl (fun _ _ _ _ _ => (Zri (size := 1) k rfl (T.e 1 rfl) (T.e 0 rfl) ⟨_, Tryz.underlying33, by kernel_rfl⟩ rfl (by omega) (SB.at0 (by omega)))) ?_; clear T ac; intro ac T
 refine gq T 7 255 rfl (fun B w' hD hl hS => (rn_cell (Sp.ic0 SB (show Mem w noEx w' _ from hS) (Zz9 _) hy) rfl (T.e 0 rfl))) ?_; clear T ac; intro ac T
 refine gw 8 511 ?_; intro K hK
 refine Zoc (first := []) (cap := []) T rfl rfl rfl rfl (T.e 7 rfl) (.cons (T.e 0 rfl) .nil) Tryz.func56 rfl rfl ?_
 refine Calls.mono (always_any y _) ?_
 clear T; rintro e wc ⟨rfl, hb⟩ ac T
 replace M := M.call hb; clear hb
 refine Zso hK _ _ (M.mask [] rfl) ?_; clear hK K
 refine gq T 9 1023 rfl (fun _ _ _ _ _ => (Zra rfl (T.e 0 rfl))) ?_; clear T ac; intro ac T
 refine Zgd (by kernel_rfl) ?_
 replace T := T.pick [0] rfl
 refine Znr ?_
 refine rt_1 T rfl (T.e 0 rfl) ?_
 exact ⟨rfl, M.below⟩
theorem may_maybe (mb tb : Nat) (A : Option Addr) (c : Nat) (LL : List LE) (i k : Nat) (x : List Int) (B : Option Addr) (d : Nat) (y : Int) (w : World) (hmb : Bk w mb #[.func (.func 66) #[] #[]]) (htb : Bk w tb #[.slice A LL.length c]) (hA : Rd w w.heap.size 1 A LL.length (lc LL)) (hx : LL[i]? = some (x, B, d)) (hB : Rd w w.heap.size 1 B x.length (ic x)) (hy : x[k]? = some y) :
  Calls Tryz.prog 105 #[.int .i64 (i : Int), .int .i64 (k : Int), .pointer (some ⟨mb, 0, none⟩), .pointer (some ⟨tb, 0, none⟩)] w fun e w' => e = .returned (.bool (!decide (y = 2))) ∧ Below w.heap.size w w' := by
 obtain ⟨bA, oA, SA⟩ := Sp.old hA
 obtain ⟨bB, oB, SB⟩ := Sp.old hB
 have hi := (List.getElem?_eq_some_iff.1 hx).1
 have hk := (List.getElem?_eq_some_iff.1 hy).1
 refine Zpx noEx Tryz.func105 rfl 16 rfl [.int .i64 (i : Int), .int .i64 (k : Int), .pointer (some ⟨mb, 0, none⟩), .pointer (some ⟨tb, 0, none⟩)] rfl rfl (Mem.init w _) ?_
 intro ac wc T M
 refine Zsr ?_
 refine lq T (Zra rfl evc) ?_; clear T ac; intro ac T
 replace T := T.pick [1, 2, 3, 4] rfl
 refine Zln ?_
 refine wp_seq ?_
 refine Zgs M (M.mask [] rfl) 10 (by kernel_rfl) rfl (by kernel_rfl) ?_
 clear M; intro wc M
 refine gq T 0 1 rfl (fun B w' hD hl hS => (Zro (Mem.old (show Mem w noEx w' _ from hS) hmb (fun h => h)) rfl (T.e 2 rfl) rfl)) ?_; clear T ac; intro ac T
 refine gq T 1 3 rfl (fun B w' hD hl hS => (Zro (Mem.old (show Mem w noEx w' _ from hS) htb (fun h => h)) rfl (T.e 4 rfl) rfl)) ?_; clear T ac; intro ac T
 refine gq T 2 7 rfl (fun _ _ _ _ _ => (Zrm rfl (T.e 2 rfl))) ?_; clear T ac; intro ac T
 refine gq T 3 15 rfl (fun _ _ _ _ _ => (Zri (size := 1) i rfl (T.e 1 rfl) (T.e 0 rfl) ⟨_, Tryz.underlying55, by kernel_rfl⟩ rfl (by omega) (SA.at0 (by omega)))) ?_; clear T ac; intro ac T
 refine gq (v := (.slice B x.length d)) T 4 31 rfl (fun B w' hD hl hS => (rn_cell (Sp.lc0 SA (show Mem w noEx w' _ from hS) (Zz9 _) hx) rfl (T.e 0 rfl))) ?_; clear T ac; intro ac T
 refine gq T 5 63 rfl (fun _ _ _ _ _ => (Zrm rfl (T.e 6 rfl))) ?_; clear T ac; intro ac T
 refine gq T 6 127 rfl (fun _ _ _ _ _ => (Zri (size := 1) k rfl (T.e 1 rfl) (T.e 0 rfl) ⟨_, Tryz.underlying33, by kernel_rfl⟩ rfl (by omega) (SB.at0 (by omega)))) ?_; clear T ac; intro ac T
 refine gq T 7 255 rfl (fun B w' hD hl hS => (rn_cell (Sp.ic0 SB (show Mem w noEx w' _ from hS) (Zz9 _) hy) rfl (T.e 0 rfl))) ?_; clear T ac; intro ac T
 refine gw 8 511 ?_; intro K hK
 refine Zoc (first := []) (cap := []) T rfl rfl rfl rfl (T.e 7 rfl) (.cons (T.e 0 rfl) .nil) Tryz.func66 rfl rfl ?_
 refine Calls.mono (maybe_any y _) ?_
 clear T; rintro e wc ⟨rfl, hb⟩ ac T
 replace M := M.call hb; clear hb
 refine Zso hK _ _ (M.mask [] rfl) ?_; clear hK K
 refine gq T 9 1023 rfl (fun _ _ _ _ _ => (Zra rfl (T.e 0 rfl))) ?_; clear T ac; intro ac T
 refine Zgd (by kernel_rfl) ?_
 replace T := T.pick [0] rfl
 refine Znr ?_
 refine rt_1 T rfl (T.e 0 rfl) ?_
 exact ⟨rfl, M.below⟩
theorem grow_step (ge : GE) (may : Nat → Nat → Bool) (r : Nat) (exq : Nat → Prop) (l : List Int) (A : Option Addr) (c : Nat) (used : Int) (bo : Option (List Int)) (Ab : Option Addr) (nb cb : Nat) (is : Bool) (Il Ib : List (Nat × BA)) (w : World) (hlo : ge.lows ≤ 4) (hhi : ge.highs ≤ 5) (hmay : MayOk ge may) (ih : ∀ r', r = r' + 1 → GrowSpec ge may r') (hlr : l.length + r = ge.lows) (hu : UsedOk used l) (hks : KS bo Ab nb is Ib) (hl : ∃ b o, ∀ (w : World) (ex : Nat → Prop), Sp w ex Il A l.length 1 b o (ic l)) (genv : GEnv ge w exq) (M0 : Mem w exq w ((ge.kb, .cells [.slice Ab nb cb, .bool is]) :: (Ib ++ Il))) :
   Calls Tryz.prog 132 #[.slice A l.length c, .int .i64 used, .pointer (some ⟨ge.lo, 0, none⟩), .pointer (some ⟨ge.me, 0, none⟩), .pointer (some ⟨ge.hi, 0, none⟩), .pointer (some ⟨ge.ma, 0, none⟩), .pointer (some ⟨ge.gr, 0, none⟩)] w (GrowPost ge.kb (growP may ge.highs r l bo) w exq) := by
 have hls := hl
 obtain ⟨bl, ol, hSl⟩ := hls
 have Sl0 := hSl w exq
 have hks0 := hks
 obtain ⟨hkn, hk5, hki, bb, ob, hSb⟩ := hks0
 have Sb0 := hSb w exq
 refine Zpx exq Tryz.func132 rfl 60 rfl [.slice A l.length c, .int .i64 used, .pointer (some ⟨ge.lo, 0, none⟩), .pointer (some ⟨ge.me, 0, none⟩), .pointer (some ⟨ge.hi, 0, none⟩), .pointer (some ⟨ge.ma, 0, none⟩), .pointer (some ⟨ge.gr, 0, none⟩)] rfl rfl M0 ?_
 intro ac wc T M
 refine Zsr ?_
 refine lq T (Zra rfl evc) ?_; clear T ac; intro ac T
 replace T := T.pick [1, 2, 3, 4, 5, 6, 7] rfl
 refine Zln ?_
 refine wp_scope_straight ?_
 refine wp_seq ?_
 refine Zsr ?_
 refine Zg4 T (Zq (Zrm rfl (T.e 0 rfl))) rfl (Zl Tryz.underlying33 0 rfl rfl) rfl (fun _ T => Zq (Zro (Mem.old M genv.lo.1 genv.lo.2) rfl (T.e 4 rfl) rfl)) rfl (fun _ T => Zq (rn_eql rfl (T.e 1 rfl) (T.e 0 rfl))) rfl ?_; clear T ac; intro ac T
 replace T := T.pick [0, 4, 5, 7, 8, 9, 10] rfl
 refine Zln ?_
 refine wp_if (T.e 0 rfl) ?_ ?_
 ·intro h1
  obtain rfl : r = 0 := by omega
  refine Zsr ?_
  refine Zg2 T (Zq (Zro (Mem.old M genv.me.1 genv.me.2) rfl (T.e 3 rfl) rfl)) rfl (Zm 2 rfl rfl) rfl ?_; clear T ac; intro ac T
  refine Zl2 ?_
  refine Zoc (first := []) (cap := [.pointer (some ⟨ge.kb, 0, none⟩)]) T rfl rfl rfl rfl (T.e 1 rfl) (.cons (T.e 0 rfl) .nil) Tryz.func106 rfl rfl ?_
  refine Calls.mono (met_any ge.kb is _ _ _ l _ _ _ (bo.getD []) _ (Sl0.rd M (.cons _ (Zsq _ _))) (by omega) (Sb0.rd M (.cons _ (subL (List.Sublist.refl _)))) (by omega) (M.nth 0 rfl)) ?_
  clear T; rintro e wc ⟨rfl, N⟩ ac T
  obtain ⟨Au1, nu1, cu1, iu1, Iu1, hocu1, hksu1, hIu1⟩ := offer_ks (c := c) (cb := cb) hks hl rfl (by omega)
  rw [hocu1] at N
  replace M := Mem.joinX (X := [(ge.kb, .cells [.slice Ab nb cb, .bool is])]) (F := Ib ++ Il) M N (fun b h => by subst h; exact Zz2)
  clear N
  replace M : Mem w exq wc ((ge.kb, .cells [.slice Au1 nu1 cu1, .bool iu1]) :: (Ib ++ Il)) := M
  refine lq T (Zra rfl (T.e 0 rfl)) ?_; clear T ac; intro ac T
  replace T := T.pick [0] rfl
  refine Zln ?_
  refine wp_ret ?_
  refine Zrt ?_
  refine rt_ng ?_
  refine rt_1 T rfl (T.e 0 rfl) ?_
  refine ⟨Au1, nu1, cu1, iu1, Iu1, rfl, hksu1, M.sub (.cons_cons _ ?_)⟩
  rcases hIu1 with rfl | rfl
  · exact Zsq _ _
  · exact Zsl _ _
 intro h1
 obtain ⟨r1, rfl⟩ : ∃ k, r = k + 1 := ⟨r - 1, by omega⟩
 have ih1 := ih r1 rfl
 refine Zsk ?_
 refine Zsr ?_
 refine Zg3 (v2 := (.func (.func 133) #[.int .i64 used] #[])) T (Zq (Zrm rfl (T.e 2 rfl))) rfl (fun _ T => Zq (rn_makeFunc rfl (.cons (T.e 0 rfl) .nil) .nil)) rfl (Za 0 rfl rfl) rfl ?_; clear T ac; intro ac T
 replace T := T.pick [0, 4, 5, 7, 8, 9] rfl
 refine Zln ?_
 refine wp_seq ?_
 refine wp_label ?_
 refine Zns ?_
 refine Zsr ?_
 refine Zg3 T (Zq (Zro (Mem.old M genv.hi.1 genv.hi.2) rfl (T.e 3 rfl) rfl)) rfl (fun _ T => Zq (rn_add rfl (T.e 0 rfl) evc (by omega))) rfl (fun _ T => Zq (Zrm rfl evc)) rfl ?_; clear T ac; intro ac T
 replace T := T.pick [0, 1, 3, 4, 5, 6, 7, 8] rfl
 refine Zln ?_
 refine wp_block ?_
 refine wp_loop_n (fun mz ac wc => ∃ (h : Nat) (A3 : Option Addr) (n3 c3 : Nat) (i3 : Bool) (I3 : List (Nat × BA)), mz = ge.highs + 1 - h ∧ (h ≤ ge.highs + 1) ∧ (KS (stG may ge.highs r1 l bo h) A3 n3 i3 I3) ∧ Tm ac 60 [(0, .slice A l.length c), (1, .int .i64 used), (4, .pointer (some ⟨ge.hi, 0, none⟩)), (5, .pointer (some ⟨ge.ma, 0, none⟩)), (6, .pointer (some ⟨ge.gr, 0, none⟩)), (10, .func (.func 133) #[.int .i64 used] #[]), (24, .int .i64 (((ge.highs : Nat) : Int) + 1)), (25, .int .i64 (h : Int))] ∧ Mem w exq wc ((ge.kb, .cells [.slice A3 n3 c3, .bool i3]) :: (I3 ++ Il))) ?_ ?_
 ·exact ⟨_, 0, Ab, nb, cb, is, Ib, rfl, (by omega), (by rw [stG_zero]; exact hks), T.pick [3, 4, 5, 6, 7, 2, 1, 0] rfl, M.mask [true] rfl⟩
 clear T M
 rintro mz ac wc ⟨h, A3, n3, c3, i3, I3, hmm1, hh, hKs, T, M⟩
 refine Zsr ?_
 refine lq T (rn_lss rfl (T.e 7 rfl) (T.e 6 rfl)) ?_; clear T ac; intro ac T
 refine Zln ?_
 refine wp_seq ?_
 refine wp_if (T.e 0 rfl) ?_ ?_
 ·intro h2
  refine Zsk ?_
  refine wp_seq ?_
  refine wp_block ?_
  refine Zsr ?_
  refine Zg2 T (Zq (Zrm rfl (T.e 8 rfl))) rfl (Za 0 rfl rfl) rfl ?_; clear T ac; intro ac T
  replace T := T.pick [0, 3, 4, 5, 6, 7, 8, 9, 10] rfl
  refine Zln ?_
  refine Zsr ?_
  refine Zg4 T (Zq (Zrm rfl (T.e 0 rfl))) rfl (Zm 3 rfl rfl) rfl (Za 1 rfl rfl) rfl (Za 1 rfl rfl) rfl ?_; clear T ac; intro ac T
  replace T := T.pick [0, 1, 4, 5, 6, 7, 8, 9, 10, 11, 12] rfl
  refine Zln ?_
  refine wp_seq ?_
  refine wp_block ?_
  refine Zsr ?_
  refine Zg4 T (Zq (Zrm rfl (T.e 2 rfl))) rfl (fun _ T => Zq (Zro (Mem.old M genv.hi.1 genv.hi.2) rfl (T.e 6 rfl) rfl)) rfl (fun _ T => Zq (rn_eql rfl (T.e 1 rfl) (T.e 0 rfl))) rfl (Za 0 rfl rfl) rfl ?_; clear T ac; intro ac T
  replace T := T.pick [0, 4, 5, 6, 7, 8, 9, 10, 11, 12, 13, 14] rfl
  refine Zln ?_
  refine wp_if (T.e 0 rfl) ?_ ?_
  ·intro h3
   refine wp_region_lit ?_
   refine l_q (v := (.int .i64 (-1))) (T.pick [0, 1, 3, 4, 5, 6, 7, 8, 9, 10, 11] rfl) rfl rfl rfl rfl (Zra rfl evc) ?_; clear T ac; intro ac T
   refine wpList_nil ?_
   replace T := T.pick [0, 2, 4, 5, 6, 7, 8, 9, 10, 11] rfl
   refine Znb ?_
   refine Zns ?_
   refine Zgs M (M.perm [] rfl rfl) 10 (by kernel_rfl) rfl (by kernel_rfl) ?_
   clear M; intro wc M
   refine gq T 0 1 rfl (fun B w' hD hl hS => (Zro (Mem.old (show Mem w exq w' _ from hS) genv.gr.1 genv.gr.2) rfl (T.e 6 rfl) rfl)) ?_; clear T ac; intro ac T
   refine gq T 2 5 rfl (fun _ _ _ _ _ => (Zrm rfl (T.e 3 rfl))) ?_; clear T ac; intro ac T
   refine gq T 4 21 rfl (fun _ _ _ _ _ => (Zrm rfl (T.e 2 rfl))) ?_; clear T ac; intro ac T
   refine gq T 7 149 rfl (fun _ _ _ _ _ => (Zrm rfl (T.e 4 rfl))) ?_; clear T ac; intro ac T
   refine g_m2 (i := 1) (j := 5) (by kernel_rfl) ?_ ?_
   ·refine gi 151 ?_; intro K hK
    refine ow_bs0 (e := 3) M T rfl rfl rfl rfl (fun _ => by kernel_rfl) ?_; clear M T; intro gr12_1 wc ac M T
    refine Zso hK _ _ (M.perm [] rfl rfl) ?_; clear hK K
    refine g_m2 (i := 3) (j := 5) (by kernel_rfl) ?_ ?_
    ·refine gi 159 ?_; intro K hK
     refine ow_appS Tryz.info3 M T rfl rfl rfl rfl (fun g w => Tryz.append0i _ _ g _ w) Tryz.underlying33 rfl rfl rfl (by omega) (T.e 0 rfl) (T.e 3 rfl) (Sl0.rd M (.cons _ (.cons _ (Zsq _ _)))) (ic_one _) ?_; clear M T; intro Au12_3 cu12_3 Iu12_3 wc ac hSm12_3 M T
     replace M : Mem w exq wc ((ge.kb, .cells [.slice A3 n3 c3, .bool i3]) :: (I3 ++ Il ++ Iu12_3)) := M.swapI
     refine Zso hK _ _ (M.perm [] rfl rfl) ?_; clear hK K
     refine gw 5 191 ?_; intro K hK
     refine ow_bs (e := 3) [.int .i64 (-1)] M T rfl rfl rfl rfl (.cons (T.e 3 rfl) .nil) (fun _ => by kernel_rfl) ?_; clear M T; intro gr12_5 wc ac M T
     refine Zso hK _ _ (M.perm [] rfl rfl) ?_; clear hK K
     refine gw 6 255 ?_; intro K hK
     refine ow_appM (((gr12_5, .cells [.int .i64 (-1)]) :: (ge.kb, .cells [.slice A3 n3 c3, .bool i3]) :: (I3 ++ Il))) Tryz.info3 hSm12_3 M (by first | rfl | simp) T rfl rfl rfl rfl Tryz.underlying33 rfl rfl rfl (by omega) (T.e 1 rfl) (T.e 0 rfl) (Zne (i := 0) rfl) rfl rfl ?_; clear M T; intro ga12_6 ca12_6 wc ac M T
     refine Zso hK _ _ (M.perm [] rfl rfl) ?_; clear hK K
     refine gw 8 511 ?_; intro K hK
     have Mq : Mem w exq wc ((ge.kb, .cells [.slice A3 n3 c3, .bool i3]) :: (ga12_6, .row 3 1 (l.length + 1) (ic l ++ [.int .i64 (-1)]) ca12_6) :: (I3 ++ Il)) := M.permT [2, 0] 3 rfl rfl rfl rfl
     have My : Mem w exq wc ((ge.kb, .cells [.slice A3 n3 c3, .bool i3]) :: (ga12_6, .row 3 1 (l.length + 1) (ic l ++ [.int .i64 (-1)]) ca12_6) :: I3) := Mq.sub ((Zsl I3 Il).cons_cons _ |>.cons_cons _)
     have Mx : Mem wc (inL ((ge.kb, .cells [.slice A3 n3 c3, .bool i3]) :: (ga12_6, .row 3 1 (l.length + 1) (ic l ++ [.int .i64 (-1)]) ca12_6) :: I3)) wc ((ge.kb, .cells [.slice A3 n3 c3, .bool i3]) :: (I3 ++ [(ga12_6, .row 3 1 (l.length + 1) (ic l ++ [.int .i64 (-1)]) ca12_6)])) := Mem.spin [(ge.kb, .cells [.slice A3 n3 c3, .bool i3])] [(ga12_6, .row 3 1 (l.length + 1) (ic l ++ [.int .i64 (-1)]) ca12_6)] I3 My.rebase
     have gx := genv.move (ex' := inL ((ge.kb, .cells [.slice A3 n3 c3, .bool i3]) :: (ga12_6, .row 3 1 (l.length + 1) (ic l ++ [.int .i64 (-1)]) ca12_6) :: I3)) Mq (fun b hb => by unfold inL at hb ⊢; exact (((Zsl I3 Il).cons_cons _).cons_cons _ |>.map _).subset hb)
     refine Zoc (first := []) (cap := [.pointer (some ⟨ge.lo, 0, none⟩), .pointer (some ⟨ge.me, 0, none⟩), .pointer (some ⟨ge.hi, 0, none⟩), .pointer (some ⟨ge.ma, 0, none⟩), .pointer (some ⟨ge.gr, 0, none⟩)]) T rfl rfl rfl rfl (T.e 7 rfl) (.cons (T.e 0 rfl) (.cons (T.e 4 rfl) .nil)) Tryz.func132 rfl rfl ?_
     refine Calls.mono (ih1 wc _ (l ++ [-1]) _ _ _ _ _ _ _ _ _ [(ga12_6, .row 3 1 (l.length + 1) (ic l ++ [.int .i64 (-1)]) ca12_6)] I3 (by simp) (by simp only [List.length_append, List.length_cons, List.length_nil]; omega) hu.skip hKs ⟨_, _, fun w ex => by rw [← ic_snoc]; exact Sp.row (by simp [ic_length])⟩ gx Mx) ?_
     clear T; rintro e wc ⟨Aur12_8, nur12_8, cur12_8, iur12_8, Iur12_8, rfl, hksur12_8, N⟩ ac T
     replace M := Mem.joinX (X := (ge.kb, .cells [.slice A3 n3 c3, .bool i3]) :: (ga12_6, .row 3 1 (l.length + 1) (ic l ++ [.int .i64 (-1)]) ca12_6) :: I3) (F := Il) Mq N (fun b h => h)
     clear N Mq My Mx gx
     replace M : Mem w exq wc ((ge.kb, .cells [.slice Aur12_8 nur12_8 cur12_8, .bool iur12_8]) :: (Iur12_8 ++ Il)) := M
     refine Zso hK _ _ (M.perm [] rfl rfl) ?_; clear hK K
     refine gq (v := (.bool false)) T 9 1023 rfl (fun _ _ _ _ _ => (Zrq (rn_not rfl (T.e 0 rfl)) (by simp))) ?_; clear T ac; intro ac T
     refine Zgd (by kernel_rfl) ?_
     replace T := T.pick [0, 12, 13, 14, 15, 16, 17, 18, 19] rfl
     refine nm_then ?_
     refine wp_cond_false (T.e 0 rfl) ?_
     refine wp_skip ?_
     refine Znb ?_
     refine nm_then ?_
     refine wp_region_lit ?_
     refine lq T (rn_add rfl (T.e 8 rfl) evc (by omega)) ?_; clear T ac; intro ac T
     refine l_q (v := (.int .i64 ((h : Int) + 1))) (T.pick [0, 1, 2, 3, 4, 5, 6, 7, 8] rfl) rfl rfl rfl rfl (Zrm rfl (T.e 0 rfl)) ?_; clear T ac; intro ac T
     replace T := T.pick [0, 3, 4, 5, 6, 7, 8, 9] rfl
     refine Zln ?_
     exact ⟨_, by omega, h + 1, Aur12_8, nur12_8, cur12_8, iur12_8, Iur12_8, rfl, (by omega), (by rw [stG_last' (by omega)]; exact hksur12_8), T.pick [1, 2, 3, 4, 5, 6, 7, 0] rfl, M⟩
    refine gi 183 ?_; intro K hK
    refine ow_bs (e := 3) [.int .i64 (-1)] M T rfl rfl rfl rfl (.cons (T.e 2 rfl) .nil) (fun _ => by kernel_rfl) ?_; clear M T; intro gr12_5 wc ac M T
    refine Zso hK _ _ (M.perm [] rfl rfl) ?_; clear hK K
    refine gw 3 191 ?_; intro K hK
    replace M := M.permT [1, 0, 2] 3 rfl rfl rfl rfl
    refine ow_appS Tryz.info3 M T rfl rfl rfl rfl (fun g w => Tryz.append0i _ _ g _ w) Tryz.underlying33 rfl rfl rfl (by omega) (T.e 1 rfl) (T.e 4 rfl) (Sl0.rd M (.cons _ (.cons _ (.cons _ (Zsq _ _))))) (ic_one _) ?_; clear M T; intro Au12_3 cu12_3 Iu12_3 wc ac hSm12_3 M T
    replace M : Mem w exq wc ((gr12_5, .cells [.int .i64 (-1)]) :: (ge.kb, .cells [.slice A3 n3 c3, .bool i3]) :: (I3 ++ Il ++ Iu12_3)) := M.swapI
    refine Zso hK _ _ (M.perm [] rfl rfl) ?_; clear hK K
    refine gw 6 255 ?_; intro K hK
    refine ow_appM (((gr12_5, .cells [.int .i64 (-1)]) :: (ge.kb, .cells [.slice A3 n3 c3, .bool i3]) :: (I3 ++ Il))) Tryz.info3 hSm12_3 M (by first | rfl | simp) T rfl rfl rfl rfl Tryz.underlying33 rfl rfl rfl (by omega) (T.e 0 rfl) (T.e 1 rfl) (Zne (i := 0) rfl) rfl rfl ?_; clear M T; intro ga12_6 ca12_6 wc ac M T
    refine Zso hK _ _ (M.perm [] rfl rfl) ?_; clear hK K
    refine gw 8 511 ?_; intro K hK
    have Mq : Mem w exq wc ((ge.kb, .cells [.slice A3 n3 c3, .bool i3]) :: (ga12_6, .row 3 1 (l.length + 1) (ic l ++ [.int .i64 (-1)]) ca12_6) :: (I3 ++ Il)) := M.permT [2, 0] 3 rfl rfl rfl rfl
    have My : Mem w exq wc ((ge.kb, .cells [.slice A3 n3 c3, .bool i3]) :: (ga12_6, .row 3 1 (l.length + 1) (ic l ++ [.int .i64 (-1)]) ca12_6) :: I3) := Mq.sub ((Zsl I3 Il).cons_cons _ |>.cons_cons _)
    have Mx : Mem wc (inL ((ge.kb, .cells [.slice A3 n3 c3, .bool i3]) :: (ga12_6, .row 3 1 (l.length + 1) (ic l ++ [.int .i64 (-1)]) ca12_6) :: I3)) wc ((ge.kb, .cells [.slice A3 n3 c3, .bool i3]) :: (I3 ++ [(ga12_6, .row 3 1 (l.length + 1) (ic l ++ [.int .i64 (-1)]) ca12_6)])) := Mem.spin [(ge.kb, .cells [.slice A3 n3 c3, .bool i3])] [(ga12_6, .row 3 1 (l.length + 1) (ic l ++ [.int .i64 (-1)]) ca12_6)] I3 My.rebase
    have gx := genv.move (ex' := inL ((ge.kb, .cells [.slice A3 n3 c3, .bool i3]) :: (ga12_6, .row 3 1 (l.length + 1) (ic l ++ [.int .i64 (-1)]) ca12_6) :: I3)) Mq (fun b hb => by unfold inL at hb ⊢; exact (((Zsl I3 Il).cons_cons _).cons_cons _ |>.map _).subset hb)
    refine Zoc (first := []) (cap := [.pointer (some ⟨ge.lo, 0, none⟩), .pointer (some ⟨ge.me, 0, none⟩), .pointer (some ⟨ge.hi, 0, none⟩), .pointer (some ⟨ge.ma, 0, none⟩), .pointer (some ⟨ge.gr, 0, none⟩)]) T rfl rfl rfl rfl (T.e 7 rfl) (.cons (T.e 0 rfl) (.cons (T.e 4 rfl) .nil)) Tryz.func132 rfl rfl ?_
    refine Calls.mono (ih1 wc _ (l ++ [-1]) _ _ _ _ _ _ _ _ _ [(ga12_6, .row 3 1 (l.length + 1) (ic l ++ [.int .i64 (-1)]) ca12_6)] I3 (by simp) (by simp only [List.length_append, List.length_cons, List.length_nil]; omega) hu.skip hKs ⟨_, _, fun w ex => by rw [← ic_snoc]; exact Sp.row (by simp [ic_length])⟩ gx Mx) ?_
    clear T; rintro e wc ⟨Aur12_8, nur12_8, cur12_8, iur12_8, Iur12_8, rfl, hksur12_8, N⟩ ac T
    replace M := Mem.joinX (X := (ge.kb, .cells [.slice A3 n3 c3, .bool i3]) :: (ga12_6, .row 3 1 (l.length + 1) (ic l ++ [.int .i64 (-1)]) ca12_6) :: I3) (F := Il) Mq N (fun b h => h)
    clear N Mq My Mx gx
    replace M : Mem w exq wc ((ge.kb, .cells [.slice Aur12_8 nur12_8 cur12_8, .bool iur12_8]) :: (Iur12_8 ++ Il)) := M
    refine Zso hK _ _ (M.perm [] rfl rfl) ?_; clear hK K
    refine gq (v := (.bool false)) T 9 1023 rfl (fun _ _ _ _ _ => (Zrq (rn_not rfl (T.e 0 rfl)) (by simp))) ?_; clear T ac; intro ac T
    refine Zgd (by kernel_rfl) ?_
    replace T := T.pick [0, 12, 13, 14, 15, 16, 17, 18, 19] rfl
    refine nm_then ?_
    refine wp_cond_false (T.e 0 rfl) ?_
    refine wp_skip ?_
    refine Znb ?_
    refine nm_then ?_
    refine wp_region_lit ?_
    refine lq T (rn_add rfl (T.e 8 rfl) evc (by omega)) ?_; clear T ac; intro ac T
    refine l_q (v := (.int .i64 ((h : Int) + 1))) (T.pick [0, 1, 2, 3, 4, 5, 6, 7, 8] rfl) rfl rfl rfl rfl (Zrm rfl (T.e 0 rfl)) ?_; clear T ac; intro ac T
    replace T := T.pick [0, 3, 4, 5, 6, 7, 8, 9] rfl
    refine Zln ?_
    exact ⟨_, by omega, h + 1, Aur12_8, nur12_8, cur12_8, iur12_8, Iur12_8, rfl, (by omega), (by rw [stG_last' (by omega)]; exact hksur12_8), T.pick [1, 2, 3, 4, 5, 6, 7, 0] rfl, M⟩
   refine gi 181 ?_; intro K hK
   refine ow_bs (e := 3) [.int .i64 (-1)] M T rfl rfl rfl rfl (.cons (T.e 1 rfl) .nil) (fun _ => by kernel_rfl) ?_; clear M T; intro gr12_5 wc ac M T
   refine Zso hK _ _ (M.perm [] rfl rfl) ?_; clear hK K
   refine gw 1 183 ?_; intro K hK
   refine ow_bs0 (e := 3) M T rfl rfl rfl rfl (fun _ => by kernel_rfl) ?_; clear M T; intro gr12_1 wc ac M T
   refine Zso hK _ _ (M.perm [] rfl rfl) ?_; clear hK K
   refine gw 3 191 ?_; intro K hK
   refine ow_appS Tryz.info3 M T rfl rfl rfl rfl (fun g w => Tryz.append0i _ _ g _ w) Tryz.underlying33 rfl rfl rfl (by omega) (T.e 0 rfl) (T.e 4 rfl) (Sl0.rd M (.cons _ (.cons _ (.cons _ (Zsq _ _))))) (ic_one _) ?_; clear M T; intro Au12_3 cu12_3 Iu12_3 wc ac hSm12_3 M T
   replace M : Mem w exq wc ((gr12_5, .cells [.int .i64 (-1)]) :: (ge.kb, .cells [.slice A3 n3 c3, .bool i3]) :: (I3 ++ Il ++ Iu12_3)) := M.swapI
   refine Zso hK _ _ (M.perm [] rfl rfl) ?_; clear hK K
   refine gw 6 255 ?_; intro K hK
   refine ow_appM (((gr12_5, .cells [.int .i64 (-1)]) :: (ge.kb, .cells [.slice A3 n3 c3, .bool i3]) :: (I3 ++ Il))) Tryz.info3 hSm12_3 M (by first | rfl | simp) T rfl rfl rfl rfl Tryz.underlying33 rfl rfl rfl (by omega) (T.e 0 rfl) (T.e 2 rfl) (Zne (i := 0) rfl) rfl rfl ?_; clear M T; intro ga12_6 ca12_6 wc ac M T
   refine Zso hK _ _ (M.perm [] rfl rfl) ?_; clear hK K
   refine gw 8 511 ?_; intro K hK
   have Mq : Mem w exq wc ((ge.kb, .cells [.slice A3 n3 c3, .bool i3]) :: (ga12_6, .row 3 1 (l.length + 1) (ic l ++ [.int .i64 (-1)]) ca12_6) :: (I3 ++ Il)) := M.permT [2, 0] 3 rfl rfl rfl rfl
   have My : Mem w exq wc ((ge.kb, .cells [.slice A3 n3 c3, .bool i3]) :: (ga12_6, .row 3 1 (l.length + 1) (ic l ++ [.int .i64 (-1)]) ca12_6) :: I3) := Mq.sub ((Zsl I3 Il).cons_cons _ |>.cons_cons _)
   have Mx : Mem wc (inL ((ge.kb, .cells [.slice A3 n3 c3, .bool i3]) :: (ga12_6, .row 3 1 (l.length + 1) (ic l ++ [.int .i64 (-1)]) ca12_6) :: I3)) wc ((ge.kb, .cells [.slice A3 n3 c3, .bool i3]) :: (I3 ++ [(ga12_6, .row 3 1 (l.length + 1) (ic l ++ [.int .i64 (-1)]) ca12_6)])) := Mem.spin [(ge.kb, .cells [.slice A3 n3 c3, .bool i3])] [(ga12_6, .row 3 1 (l.length + 1) (ic l ++ [.int .i64 (-1)]) ca12_6)] I3 My.rebase
   have gx := genv.move (ex' := inL ((ge.kb, .cells [.slice A3 n3 c3, .bool i3]) :: (ga12_6, .row 3 1 (l.length + 1) (ic l ++ [.int .i64 (-1)]) ca12_6) :: I3)) Mq (fun b hb => by unfold inL at hb ⊢; exact (((Zsl I3 Il).cons_cons _).cons_cons _ |>.map _).subset hb)
   refine Zoc (first := []) (cap := [.pointer (some ⟨ge.lo, 0, none⟩), .pointer (some ⟨ge.me, 0, none⟩), .pointer (some ⟨ge.hi, 0, none⟩), .pointer (some ⟨ge.ma, 0, none⟩), .pointer (some ⟨ge.gr, 0, none⟩)]) T rfl rfl rfl rfl (T.e 7 rfl) (.cons (T.e 0 rfl) (.cons (T.e 4 rfl) .nil)) Tryz.func132 rfl rfl ?_
   refine Calls.mono (ih1 wc _ (l ++ [-1]) _ _ _ _ _ _ _ _ _ [(ga12_6, .row 3 1 (l.length + 1) (ic l ++ [.int .i64 (-1)]) ca12_6)] I3 (by simp) (by simp only [List.length_append, List.length_cons, List.length_nil]; omega) hu.skip hKs ⟨_, _, fun w ex => by rw [← ic_snoc]; exact Sp.row (by simp [ic_length])⟩ gx Mx) ?_
   clear T; rintro e wc ⟨Aur12_8, nur12_8, cur12_8, iur12_8, Iur12_8, rfl, hksur12_8, N⟩ ac T
   replace M := Mem.joinX (X := (ge.kb, .cells [.slice A3 n3 c3, .bool i3]) :: (ga12_6, .row 3 1 (l.length + 1) (ic l ++ [.int .i64 (-1)]) ca12_6) :: I3) (F := Il) Mq N (fun b h => h)
   clear N Mq My Mx gx
   replace M : Mem w exq wc ((ge.kb, .cells [.slice Aur12_8 nur12_8 cur12_8, .bool iur12_8]) :: (Iur12_8 ++ Il)) := M
   refine Zso hK _ _ (M.perm [] rfl rfl) ?_; clear hK K
   refine gq (v := (.bool false)) T 9 1023 rfl (fun _ _ _ _ _ => (Zrq (rn_not rfl (T.e 0 rfl)) (by simp))) ?_; clear T ac; intro ac T
   refine Zgd (by kernel_rfl) ?_
   replace T := T.pick [0, 12, 13, 14, 15, 16, 17, 18, 19] rfl
   refine nm_then ?_
   refine wp_cond_false (T.e 0 rfl) ?_
   refine wp_skip ?_
   refine Znb ?_
   refine nm_then ?_
   refine wp_region_lit ?_
   refine lq T (rn_add rfl (T.e 8 rfl) evc (by omega)) ?_; clear T ac; intro ac T
   refine l_q (v := (.int .i64 ((h : Int) + 1))) (T.pick [0, 1, 2, 3, 4, 5, 6, 7, 8] rfl) rfl rfl rfl rfl (Zrm rfl (T.e 0 rfl)) ?_; clear T ac; intro ac T
   replace T := T.pick [0, 3, 4, 5, 6, 7, 8, 9] rfl
   refine Zln ?_
   exact ⟨_, by omega, h + 1, Aur12_8, nur12_8, cur12_8, iur12_8, Iur12_8, rfl, (by omega), (by rw [stG_last' (by omega)]; exact hksur12_8), T.pick [1, 2, 3, 4, 5, 6, 7, 0] rfl, M⟩
  intro h3
  refine cut_seq (fun ac wc => Tm ac 60 [(0, .slice A l.length c), (1, .int .i64 used), (4, .pointer (some ⟨ge.hi, 0, none⟩)), (5, .pointer (some ⟨ge.ma, 0, none⟩)), (6, .pointer (some ⟨ge.gr, 0, none⟩)), (10, .func (.func 133) #[.int .i64 used] #[]), (11, .int .i64 (h : Int)), (12, .int .i64 (h : Int)), (24, .int .i64 (((ge.highs : Nat) : Int) + 1)), (25, .int .i64 (h : Int)), (37, .bool ((hasI used (h : Int)) || (!(may l.length h))))] ∧ Mem w exq wc ((ge.kb, .cells [.slice A3 n3 c3, .bool i3]) :: (I3 ++ Il))) ?_ ?_
  ·refine wp_region_lit ?_
   refine Zg2 T (Zq (Zrm rfl (T.e 9 rfl))) rfl (Zm 4 rfl rfl) rfl ?_; clear T ac; intro ac T
   refine Zl2 ?_
   refine Zoc (first := [.int .i64 used]) (cap := []) T rfl rfl rfl rfl (T.e 1 rfl) (.cons (T.e 0 rfl) .nil) Tryz.func133 rfl rfl ?_
   refine Calls.mono (hasT_any used (h : Int) _ (by omega)) ?_
   clear T; rintro e wc ⟨rfl, hb⟩ ac T
   replace M := M.call hb; clear hb
   refine lq T (Zrm rfl (T.e 0 rfl)) ?_; clear T ac; intro ac T
   rcases Bool.eq_false_or_eq_true (hasI used (h : Int)) with h4 | h4
   ·refine Zg8 T (Zp (Zwn rfl rfl (T.e 0 rfl) h4)) rfl (fun _ T => Zp (Zwn rfl rfl (T.e 1 rfl) h4)) rfl (fun _ T => Zp (Zwn rfl rfl (T.e 2 rfl) h4)) rfl (fun _ T => Zp (Zwn rfl rfl (T.e 3 rfl) h4)) rfl (fun _ T => Zp (Zwn rfl rfl (T.e 4 rfl) h4)) rfl (fun _ T => Zp (Zwn rfl rfl (T.e 5 rfl) h4)) rfl (fun _ T => Zq (Zr1 rfl (T.e 6 rfl) h4 evc)) rfl (Za 0 rfl rfl) rfl ?_; clear T ac; intro ac T
    refine wpList_nil ?_
    replace T := T.pick [0, 2, 3, 4, 5, 6, 7, 14, 15, 16, 17, 18, 19, 20, 21, 22, 23] rfl
    exact ⟨(T.pick (E' := [(0, .slice A l.length c), (1, .int .i64 used), (4, .pointer (some ⟨ge.hi, 0, none⟩)), (5, .pointer (some ⟨ge.ma, 0, none⟩)), (6, .pointer (some ⟨ge.gr, 0, none⟩)), (10, .func (.func 133) #[.int .i64 used] #[]), (11, .int .i64 (h : Int)), (12, .int .i64 (h : Int)), (24, .int .i64 (((ge.highs : Nat) : Int) + 1)), (25, .int .i64 (h : Int)), (37, .bool true)]) [9, 10, 11, 12, 13, 14, 8, 7, 15, 16, 0] rfl).as (by (try rw [show (hasI used (h : Int)) = true from h4]); (try rfl)), M.mask [true] rfl⟩
   refine Zg4 T (Zw (Zwy rfl rfl (T.e 0 rfl) h4) (Zro (Mem.old M genv.ma.1 genv.ma.2) rfl (T.e 11 rfl) rfl)) rfl (fun _ T => Zw (Zwy rfl rfl (T.e 1 rfl) h4) (Zrm rfl (T.e 9 rfl))) rfl (fun _ T => Zw (Zwy rfl rfl (T.e 2 rfl) h4) (Zrl rfl Tryz.underlying33 (T.e 0 rfl))) rfl (fun _ T => Zw (Zwy rfl rfl (T.e 3 rfl) h4) (Zrm rfl (T.e 10 rfl))) rfl ?_; clear T ac; intro ac T
   refine l_w (Zwy rfl rfl (T.e 4 rfl) h4) ?_; intro K hK
   refine Zoc (first := []) (cap := [.pointer (some ⟨ge.mb, 0, none⟩), .pointer (some ⟨ge.tb, 0, none⟩)]) T rfl rfl rfl rfl (T.e 3 rfl) (.cons (T.e 1 rfl) (.cons (T.e 0 rfl) .nil)) Tryz.func105 rfl rfl ?_
   refine Calls.mono (hmay _ l.length h (genv.move M (fun _ h => h.elim)) (by omega) (by omega)) ?_
   clear T; rintro e wc ⟨rfl, hb⟩ ac T
   replace M := M.call hb; clear hb
   refine Zso hK _ _ ?_; clear hK K
   refine Zg3 T (Zw (Zwy rfl rfl (T.e 5 rfl) h4) (rn_not rfl (T.e 0 rfl))) rfl (fun _ T => Zq (Zr0 rfl (T.e 6 rfl) h4 (T.e 0 rfl))) rfl (Za 0 rfl rfl) rfl ?_; clear T ac; intro ac T
   refine wpList_nil ?_
   replace T := T.pick [0, 2, 3, 4, 5, 6, 7, 14, 15, 16, 17, 18, 19, 20, 21, 22, 23] rfl
   exact ⟨(T.pick (E' := [(0, .slice A l.length c), (1, .int .i64 used), (4, .pointer (some ⟨ge.hi, 0, none⟩)), (5, .pointer (some ⟨ge.ma, 0, none⟩)), (6, .pointer (some ⟨ge.gr, 0, none⟩)), (10, .func (.func 133) #[.int .i64 used] #[]), (11, .int .i64 (h : Int)), (12, .int .i64 (h : Int)), (24, .int .i64 (((ge.highs : Nat) : Int) + 1)), (25, .int .i64 (h : Int)), (37, .bool (!(may l.length h)))]) [9, 10, 11, 12, 13, 14, 8, 7, 15, 16, 0] rfl).as (by (try rw [show (hasI used (h : Int)) = false from h4]); (try rfl)), M.mask [true] rfl⟩
  clear T M
  rintro ac wc ⟨T, M⟩
  refine wp_cond_split (T.e 10 rfl) ?_ ?_
  ·intro h5
   (have h5' := h5; try simp only [Zb1, Zb2, Zb3, Zb4, Zb5, Zb6, Zb7] at h5')
   refine wp_exit ?_
   refine ex_miss rfl ?_
   refine Zet ?_
   refine ex_hit ?_
   refine nm_then ?_
   refine wp_region_lit ?_
   refine lq T (rn_add rfl (T.e 9 rfl) evc (by omega)) ?_; clear T ac; intro ac T
   refine l_q (v := (.int .i64 ((h : Int) + 1))) (T.pick [0, 1, 2, 3, 4, 5, 6, 7, 8, 9, 11] rfl) rfl rfl rfl rfl (Zrm rfl (T.e 0 rfl)) ?_; clear T ac; intro ac T
   replace T := T.pick [0, 2, 3, 4, 5, 6, 7, 10] rfl
   refine Zln ?_
   exact ⟨_, by omega, h + 1, A3, n3, c3, i3, I3, rfl, (by omega), (by rw [stG_skip (by omega) (goP_of hu (by omega) h5)]; exact hKs), T.pick [1, 2, 3, 4, 5, 6, 7, 0] rfl, M⟩
  intro h5
  (have h5' := h5; try simp only [Zb1, Zb2, Zb3, Zb4, Zb5, Zb6, Zb7] at h5')
  refine wp_region_lit ?_
  refine Zg2 T (Zq (Zrm rfl (T.e 1 rfl))) rfl (Zm 7 rfl rfl) rfl ?_; clear T ac; intro ac T
  refine Zl2 ?_
  refine Zoc (first := []) (cap := []) T rfl rfl rfl rfl evf (.cons (T.e 1 rfl) (.cons (T.e 0 rfl) .nil)) Tryz.func62 rfl rfl ?_
  refine Calls.mono (with_any used (h : Int) _ (by omega)) ?_
  clear T; rintro e wc ⟨rfl, hb⟩ ac T
  replace M := M.call hb; clear hb
  refine lq T (Zra rfl (T.e 0 rfl)) ?_; clear T ac; intro ac T
  refine wpList_nil ?_
  replace T := T.pick [0, 4, 5, 6, 7, 8, 9, 11, 12, 13] rfl
  refine Znb ?_
  refine Zns ?_
  refine Zgs M (M.perm [] rfl rfl) 10 (by kernel_rfl) rfl (by kernel_rfl) ?_
  clear M; intro wc M
  refine gq T 0 1 rfl (fun B w' hD hl hS => (Zro (Mem.old (show Mem w exq w' _ from hS) genv.gr.1 genv.gr.2) rfl (T.e 5 rfl) rfl)) ?_; clear T ac; intro ac T
  refine gq T 2 5 rfl (fun _ _ _ _ _ => (Zrm rfl (T.e 2 rfl))) ?_; clear T ac; intro ac T
  refine gq T 4 21 rfl (fun _ _ _ _ _ => (Zrm rfl (T.e 9 rfl))) ?_; clear T ac; intro ac T
  refine gq T 7 149 rfl (fun _ _ _ _ _ => (Zrm rfl (T.e 3 rfl))) ?_; clear T ac; intro ac T
  refine g_m2 (i := 1) (j := 5) (by kernel_rfl) ?_ ?_
  ·refine gi 151 ?_; intro K hK
   refine ow_bs0 (e := 3) M T rfl rfl rfl rfl (fun _ => by kernel_rfl) ?_; clear M T; intro gr12_1 wc ac M T
   refine Zso hK _ _ (M.perm [] rfl rfl) ?_; clear hK K
   refine g_m2 (i := 3) (j := 5) (by kernel_rfl) ?_ ?_
   ·refine gi 159 ?_; intro K hK
    refine ow_appS Tryz.info3 M T rfl rfl rfl rfl (fun g w => Tryz.append0i _ _ g _ w) Tryz.underlying33 rfl rfl rfl (by omega) (T.e 0 rfl) (T.e 3 rfl) (Sl0.rd M (.cons _ (.cons _ (Zsq _ _)))) (ic_one _) ?_; clear M T; intro Au12_3 cu12_3 Iu12_3 wc ac hSm12_3 M T
    replace M : Mem w exq wc ((ge.kb, .cells [.slice A3 n3 c3, .bool i3]) :: (I3 ++ Il ++ Iu12_3)) := M.swapI
    refine Zso hK _ _ (M.perm [] rfl rfl) ?_; clear hK K
    refine gw 5 191 ?_; intro K hK
    refine ow_bs (e := 3) [.int .i64 (h : Int)] M T rfl rfl rfl rfl (.cons (T.e 3 rfl) .nil) (fun _ => by kernel_rfl) ?_; clear M T; intro gr12_5 wc ac M T
    refine Zso hK _ _ (M.perm [] rfl rfl) ?_; clear hK K
    refine gw 6 255 ?_; intro K hK
    refine ow_appM (((gr12_5, .cells [.int .i64 (h : Int)]) :: (ge.kb, .cells [.slice A3 n3 c3, .bool i3]) :: (I3 ++ Il))) Tryz.info3 hSm12_3 M (by first | rfl | simp) T rfl rfl rfl rfl Tryz.underlying33 rfl rfl rfl (by omega) (T.e 1 rfl) (T.e 0 rfl) (Zne (i := 0) rfl) rfl rfl ?_; clear M T; intro ga12_6 ca12_6 wc ac M T
    refine Zso hK _ _ (M.perm [] rfl rfl) ?_; clear hK K
    refine gw 8 511 ?_; intro K hK
    have Mq : Mem w exq wc ((ge.kb, .cells [.slice A3 n3 c3, .bool i3]) :: (ga12_6, .row 3 1 (l.length + 1) (ic l ++ [.int .i64 (h : Int)]) ca12_6) :: (I3 ++ Il)) := M.permT [2, 0] 3 rfl rfl rfl rfl
    have My : Mem w exq wc ((ge.kb, .cells [.slice A3 n3 c3, .bool i3]) :: (ga12_6, .row 3 1 (l.length + 1) (ic l ++ [.int .i64 (h : Int)]) ca12_6) :: I3) := Mq.sub ((Zsl I3 Il).cons_cons _ |>.cons_cons _)
    have Mx : Mem wc (inL ((ge.kb, .cells [.slice A3 n3 c3, .bool i3]) :: (ga12_6, .row 3 1 (l.length + 1) (ic l ++ [.int .i64 (h : Int)]) ca12_6) :: I3)) wc ((ge.kb, .cells [.slice A3 n3 c3, .bool i3]) :: (I3 ++ [(ga12_6, .row 3 1 (l.length + 1) (ic l ++ [.int .i64 (h : Int)]) ca12_6)])) := Mem.spin [(ge.kb, .cells [.slice A3 n3 c3, .bool i3])] [(ga12_6, .row 3 1 (l.length + 1) (ic l ++ [.int .i64 (h : Int)]) ca12_6)] I3 My.rebase
    have gx := genv.move (ex' := inL ((ge.kb, .cells [.slice A3 n3 c3, .bool i3]) :: (ga12_6, .row 3 1 (l.length + 1) (ic l ++ [.int .i64 (h : Int)]) ca12_6) :: I3)) Mq (fun b hb => by unfold inL at hb ⊢; exact (((Zsl I3 Il).cons_cons _).cons_cons _ |>.map _).subset hb)
    refine Zoc (first := []) (cap := [.pointer (some ⟨ge.lo, 0, none⟩), .pointer (some ⟨ge.me, 0, none⟩), .pointer (some ⟨ge.hi, 0, none⟩), .pointer (some ⟨ge.ma, 0, none⟩), .pointer (some ⟨ge.gr, 0, none⟩)]) T rfl rfl rfl rfl (T.e 7 rfl) (.cons (T.e 0 rfl) (.cons (T.e 4 rfl) .nil)) Tryz.func132 rfl rfl ?_
    refine Calls.mono (ih1 wc _ (l ++ [(h : Int)]) _ _ _ _ _ _ _ _ _ [(ga12_6, .row 3 1 (l.length + 1) (ic l ++ [.int .i64 (h : Int)]) ca12_6)] I3 (by simp) (by simp only [List.length_append, List.length_cons, List.length_nil]; omega) (hu.with (by omega)) hKs ⟨_, _, fun w ex => by rw [← ic_snoc]; exact Sp.row (by simp [ic_length])⟩ gx Mx) ?_
    clear T; rintro e wc ⟨Aur12_8, nur12_8, cur12_8, iur12_8, Iur12_8, rfl, hksur12_8, N⟩ ac T
    replace M := Mem.joinX (X := (ge.kb, .cells [.slice A3 n3 c3, .bool i3]) :: (ga12_6, .row 3 1 (l.length + 1) (ic l ++ [.int .i64 (h : Int)]) ca12_6) :: I3) (F := Il) Mq N (fun b h => h)
    clear N Mq My Mx gx
    replace M : Mem w exq wc ((ge.kb, .cells [.slice Aur12_8 nur12_8 cur12_8, .bool iur12_8]) :: (Iur12_8 ++ Il)) := M
    refine Zso hK _ _ (M.perm [] rfl rfl) ?_; clear hK K
    refine gq (v := (.bool false)) T 9 1023 rfl (fun _ _ _ _ _ => (Zrq (rn_not rfl (T.e 0 rfl)) (by simp))) ?_; clear T ac; intro ac T
    refine Zgd (by kernel_rfl) ?_
    replace T := T.pick [0, 11, 12, 13, 14, 15, 16, 18, 19] rfl
    refine nm_then ?_
    refine wp_cond_false (T.e 0 rfl) ?_
    refine wp_skip ?_
    refine Znb ?_
    refine nm_then ?_
    refine wp_region_lit ?_
    refine lq T (rn_add rfl (T.e 8 rfl) evc (by omega)) ?_; clear T ac; intro ac T
    refine l_q (v := (.int .i64 ((h : Int) + 1))) (T.pick [0, 1, 2, 3, 4, 5, 6, 7, 8] rfl) rfl rfl rfl rfl (Zrm rfl (T.e 0 rfl)) ?_; clear T ac; intro ac T
    replace T := T.pick [0, 3, 4, 5, 6, 7, 8, 9] rfl
    refine Zln ?_
    exact ⟨_, by omega, h + 1, Aur12_8, nur12_8, cur12_8, iur12_8, Iur12_8, rfl, (by omega), (by rw [stG_go (by omega) (goP_of hu (by omega) h5)]; exact hksur12_8), T.pick [1, 2, 3, 4, 5, 6, 7, 0] rfl, M⟩
   refine gi 183 ?_; intro K hK
   refine ow_bs (e := 3) [.int .i64 (h : Int)] M T rfl rfl rfl rfl (.cons (T.e 2 rfl) .nil) (fun _ => by kernel_rfl) ?_; clear M T; intro gr12_5 wc ac M T
   refine Zso hK _ _ (M.perm [] rfl rfl) ?_; clear hK K
   refine gw 3 191 ?_; intro K hK
   replace M := M.permT [1, 0, 2] 3 rfl rfl rfl rfl
   refine ow_appS Tryz.info3 M T rfl rfl rfl rfl (fun g w => Tryz.append0i _ _ g _ w) Tryz.underlying33 rfl rfl rfl (by omega) (T.e 1 rfl) (T.e 4 rfl) (Sl0.rd M (.cons _ (.cons _ (.cons _ (Zsq _ _))))) (ic_one _) ?_; clear M T; intro Au12_3 cu12_3 Iu12_3 wc ac hSm12_3 M T
   replace M : Mem w exq wc ((gr12_5, .cells [.int .i64 (h : Int)]) :: (ge.kb, .cells [.slice A3 n3 c3, .bool i3]) :: (I3 ++ Il ++ Iu12_3)) := M.swapI
   refine Zso hK _ _ (M.perm [] rfl rfl) ?_; clear hK K
   refine gw 6 255 ?_; intro K hK
   refine ow_appM (((gr12_5, .cells [.int .i64 (h : Int)]) :: (ge.kb, .cells [.slice A3 n3 c3, .bool i3]) :: (I3 ++ Il))) Tryz.info3 hSm12_3 M (by first | rfl | simp) T rfl rfl rfl rfl Tryz.underlying33 rfl rfl rfl (by omega) (T.e 0 rfl) (T.e 1 rfl) (Zne (i := 0) rfl) rfl rfl ?_; clear M T; intro ga12_6 ca12_6 wc ac M T
   refine Zso hK _ _ (M.perm [] rfl rfl) ?_; clear hK K
   refine gw 8 511 ?_; intro K hK
   have Mq : Mem w exq wc ((ge.kb, .cells [.slice A3 n3 c3, .bool i3]) :: (ga12_6, .row 3 1 (l.length + 1) (ic l ++ [.int .i64 (h : Int)]) ca12_6) :: (I3 ++ Il)) := M.permT [2, 0] 3 rfl rfl rfl rfl
   have My : Mem w exq wc ((ge.kb, .cells [.slice A3 n3 c3, .bool i3]) :: (ga12_6, .row 3 1 (l.length + 1) (ic l ++ [.int .i64 (h : Int)]) ca12_6) :: I3) := Mq.sub ((Zsl I3 Il).cons_cons _ |>.cons_cons _)
   have Mx : Mem wc (inL ((ge.kb, .cells [.slice A3 n3 c3, .bool i3]) :: (ga12_6, .row 3 1 (l.length + 1) (ic l ++ [.int .i64 (h : Int)]) ca12_6) :: I3)) wc ((ge.kb, .cells [.slice A3 n3 c3, .bool i3]) :: (I3 ++ [(ga12_6, .row 3 1 (l.length + 1) (ic l ++ [.int .i64 (h : Int)]) ca12_6)])) := Mem.spin [(ge.kb, .cells [.slice A3 n3 c3, .bool i3])] [(ga12_6, .row 3 1 (l.length + 1) (ic l ++ [.int .i64 (h : Int)]) ca12_6)] I3 My.rebase
   have gx := genv.move (ex' := inL ((ge.kb, .cells [.slice A3 n3 c3, .bool i3]) :: (ga12_6, .row 3 1 (l.length + 1) (ic l ++ [.int .i64 (h : Int)]) ca12_6) :: I3)) Mq (fun b hb => by unfold inL at hb ⊢; exact (((Zsl I3 Il).cons_cons _).cons_cons _ |>.map _).subset hb)
   refine Zoc (first := []) (cap := [.pointer (some ⟨ge.lo, 0, none⟩), .pointer (some ⟨ge.me, 0, none⟩), .pointer (some ⟨ge.hi, 0, none⟩), .pointer (some ⟨ge.ma, 0, none⟩), .pointer (some ⟨ge.gr, 0, none⟩)]) T rfl rfl rfl rfl (T.e 7 rfl) (.cons (T.e 0 rfl) (.cons (T.e 4 rfl) .nil)) Tryz.func132 rfl rfl ?_
   refine Calls.mono (ih1 wc _ (l ++ [(h : Int)]) _ _ _ _ _ _ _ _ _ [(ga12_6, .row 3 1 (l.length + 1) (ic l ++ [.int .i64 (h : Int)]) ca12_6)] I3 (by simp) (by simp only [List.length_append, List.length_cons, List.length_nil]; omega) (hu.with (by omega)) hKs ⟨_, _, fun w ex => by rw [← ic_snoc]; exact Sp.row (by simp [ic_length])⟩ gx Mx) ?_
   clear T; rintro e wc ⟨Aur12_8, nur12_8, cur12_8, iur12_8, Iur12_8, rfl, hksur12_8, N⟩ ac T
   replace M := Mem.joinX (X := (ge.kb, .cells [.slice A3 n3 c3, .bool i3]) :: (ga12_6, .row 3 1 (l.length + 1) (ic l ++ [.int .i64 (h : Int)]) ca12_6) :: I3) (F := Il) Mq N (fun b h => h)
   clear N Mq My Mx gx
   replace M : Mem w exq wc ((ge.kb, .cells [.slice Aur12_8 nur12_8 cur12_8, .bool iur12_8]) :: (Iur12_8 ++ Il)) := M
   refine Zso hK _ _ (M.perm [] rfl rfl) ?_; clear hK K
   refine gq (v := (.bool false)) T 9 1023 rfl (fun _ _ _ _ _ => (Zrq (rn_not rfl (T.e 0 rfl)) (by simp))) ?_; clear T ac; intro ac T
   refine Zgd (by kernel_rfl) ?_
   replace T := T.pick [0, 11, 12, 13, 14, 15, 16, 18, 19] rfl
   refine nm_then ?_
   refine wp_cond_false (T.e 0 rfl) ?_
   refine wp_skip ?_
   refine Znb ?_
   refine nm_then ?_
   refine wp_region_lit ?_
   refine lq T (rn_add rfl (T.e 8 rfl) evc (by omega)) ?_; clear T ac; intro ac T
   refine l_q (v := (.int .i64 ((h : Int) + 1))) (T.pick [0, 1, 2, 3, 4, 5, 6, 7, 8] rfl) rfl rfl rfl rfl (Zrm rfl (T.e 0 rfl)) ?_; clear T ac; intro ac T
   replace T := T.pick [0, 3, 4, 5, 6, 7, 8, 9] rfl
   refine Zln ?_
   exact ⟨_, by omega, h + 1, Aur12_8, nur12_8, cur12_8, iur12_8, Iur12_8, rfl, (by omega), (by rw [stG_go (by omega) (goP_of hu (by omega) h5)]; exact hksur12_8), T.pick [1, 2, 3, 4, 5, 6, 7, 0] rfl, M⟩
  refine gi 181 ?_; intro K hK
  refine ow_bs (e := 3) [.int .i64 (h : Int)] M T rfl rfl rfl rfl (.cons (T.e 1 rfl) .nil) (fun _ => by kernel_rfl) ?_; clear M T; intro gr12_5 wc ac M T
  refine Zso hK _ _ (M.perm [] rfl rfl) ?_; clear hK K
  refine gw 1 183 ?_; intro K hK
  refine ow_bs0 (e := 3) M T rfl rfl rfl rfl (fun _ => by kernel_rfl) ?_; clear M T; intro gr12_1 wc ac M T
  refine Zso hK _ _ (M.perm [] rfl rfl) ?_; clear hK K
  refine gw 3 191 ?_; intro K hK
  refine ow_appS Tryz.info3 M T rfl rfl rfl rfl (fun g w => Tryz.append0i _ _ g _ w) Tryz.underlying33 rfl rfl rfl (by omega) (T.e 0 rfl) (T.e 4 rfl) (Sl0.rd M (.cons _ (.cons _ (.cons _ (Zsq _ _))))) (ic_one _) ?_; clear M T; intro Au12_3 cu12_3 Iu12_3 wc ac hSm12_3 M T
  replace M : Mem w exq wc ((gr12_5, .cells [.int .i64 (h : Int)]) :: (ge.kb, .cells [.slice A3 n3 c3, .bool i3]) :: (I3 ++ Il ++ Iu12_3)) := M.swapI
  refine Zso hK _ _ (M.perm [] rfl rfl) ?_; clear hK K
  refine gw 6 255 ?_; intro K hK
  refine ow_appM (((gr12_5, .cells [.int .i64 (h : Int)]) :: (ge.kb, .cells [.slice A3 n3 c3, .bool i3]) :: (I3 ++ Il))) Tryz.info3 hSm12_3 M (by first | rfl | simp) T rfl rfl rfl rfl Tryz.underlying33 rfl rfl rfl (by omega) (T.e 0 rfl) (T.e 2 rfl) (Zne (i := 0) rfl) rfl rfl ?_; clear M T; intro ga12_6 ca12_6 wc ac M T
  refine Zso hK _ _ (M.perm [] rfl rfl) ?_; clear hK K
  refine gw 8 511 ?_; intro K hK
  have Mq : Mem w exq wc ((ge.kb, .cells [.slice A3 n3 c3, .bool i3]) :: (ga12_6, .row 3 1 (l.length + 1) (ic l ++ [.int .i64 (h : Int)]) ca12_6) :: (I3 ++ Il)) := M.permT [2, 0] 3 rfl rfl rfl rfl
  have My : Mem w exq wc ((ge.kb, .cells [.slice A3 n3 c3, .bool i3]) :: (ga12_6, .row 3 1 (l.length + 1) (ic l ++ [.int .i64 (h : Int)]) ca12_6) :: I3) := Mq.sub ((Zsl I3 Il).cons_cons _ |>.cons_cons _)
  have Mx : Mem wc (inL ((ge.kb, .cells [.slice A3 n3 c3, .bool i3]) :: (ga12_6, .row 3 1 (l.length + 1) (ic l ++ [.int .i64 (h : Int)]) ca12_6) :: I3)) wc ((ge.kb, .cells [.slice A3 n3 c3, .bool i3]) :: (I3 ++ [(ga12_6, .row 3 1 (l.length + 1) (ic l ++ [.int .i64 (h : Int)]) ca12_6)])) := Mem.spin [(ge.kb, .cells [.slice A3 n3 c3, .bool i3])] [(ga12_6, .row 3 1 (l.length + 1) (ic l ++ [.int .i64 (h : Int)]) ca12_6)] I3 My.rebase
  have gx := genv.move (ex' := inL ((ge.kb, .cells [.slice A3 n3 c3, .bool i3]) :: (ga12_6, .row 3 1 (l.length + 1) (ic l ++ [.int .i64 (h : Int)]) ca12_6) :: I3)) Mq (fun b hb => by unfold inL at hb ⊢; exact (((Zsl I3 Il).cons_cons _).cons_cons _ |>.map _).subset hb)
  refine Zoc (first := []) (cap := [.pointer (some ⟨ge.lo, 0, none⟩), .pointer (some ⟨ge.me, 0, none⟩), .pointer (some ⟨ge.hi, 0, none⟩), .pointer (some ⟨ge.ma, 0, none⟩), .pointer (some ⟨ge.gr, 0, none⟩)]) T rfl rfl rfl rfl (T.e 7 rfl) (.cons (T.e 0 rfl) (.cons (T.e 4 rfl) .nil)) Tryz.func132 rfl rfl ?_
  refine Calls.mono (ih1 wc _ (l ++ [(h : Int)]) _ _ _ _ _ _ _ _ _ [(ga12_6, .row 3 1 (l.length + 1) (ic l ++ [.int .i64 (h : Int)]) ca12_6)] I3 (by simp) (by simp only [List.length_append, List.length_cons, List.length_nil]; omega) (hu.with (by omega)) hKs ⟨_, _, fun w ex => by rw [← ic_snoc]; exact Sp.row (by simp [ic_length])⟩ gx Mx) ?_
  clear T; rintro e wc ⟨Aur12_8, nur12_8, cur12_8, iur12_8, Iur12_8, rfl, hksur12_8, N⟩ ac T
  replace M := Mem.joinX (X := (ge.kb, .cells [.slice A3 n3 c3, .bool i3]) :: (ga12_6, .row 3 1 (l.length + 1) (ic l ++ [.int .i64 (h : Int)]) ca12_6) :: I3) (F := Il) Mq N (fun b h => h)
  clear N Mq My Mx gx
  replace M : Mem w exq wc ((ge.kb, .cells [.slice Aur12_8 nur12_8 cur12_8, .bool iur12_8]) :: (Iur12_8 ++ Il)) := M
  refine Zso hK _ _ (M.perm [] rfl rfl) ?_; clear hK K
  refine gq (v := (.bool false)) T 9 1023 rfl (fun _ _ _ _ _ => (Zrq (rn_not rfl (T.e 0 rfl)) (by simp))) ?_; clear T ac; intro ac T
  refine Zgd (by kernel_rfl) ?_
  replace T := T.pick [0, 11, 12, 13, 14, 15, 16, 18, 19] rfl
  refine nm_then ?_
  refine wp_cond_false (T.e 0 rfl) ?_
  refine wp_skip ?_
  refine Znb ?_
  refine nm_then ?_
  refine wp_region_lit ?_
  refine lq T (rn_add rfl (T.e 8 rfl) evc (by omega)) ?_; clear T ac; intro ac T
  refine l_q (v := (.int .i64 ((h : Int) + 1))) (T.pick [0, 1, 2, 3, 4, 5, 6, 7, 8] rfl) rfl rfl rfl rfl (Zrm rfl (T.e 0 rfl)) ?_; clear T ac; intro ac T
  replace T := T.pick [0, 3, 4, 5, 6, 7, 8, 9] rfl
  refine Zln ?_
  exact ⟨_, by omega, h + 1, Aur12_8, nur12_8, cur12_8, iur12_8, Iur12_8, rfl, (by omega), (by rw [stG_go (by omega) (goP_of hu (by omega) h5)]; exact hksur12_8), T.pick [1, 2, 3, 4, 5, 6, 7, 0] rfl, M⟩
 intro h2
 rw [stG_end (by omega)] at hKs
 refine wp_exit ?_
 refine Zet ?_
 refine Zet ?_
 refine ex_hit ?_
 refine nm_then ?_
 refine Zsr ?_
 refine lq T (Zra rfl evc) ?_; clear T ac; intro ac T
 replace T := T.pick [0] rfl
 refine Zln ?_
 refine wp_ret ?_
 refine rt_ng ?_
 refine rt_1 T rfl (T.e 0 rfl) ?_
 exact ⟨A3, n3, c3, i3, I3, rfl, hKs, M.sub (.cons_cons _ (Zsl _ _))⟩
theorem grow_any (ge : GE) (may : Nat → Nat → Bool) (hlo : ge.lows ≤ 4) (hhi : ge.highs ≤ 5) (hmay : MayOk ge may) : ∀ r : Nat, GrowSpec ge may r
 | 0 => fun w exq l A m c used bo Ab nb cb is Il Ib hm hlr hu hks hl genv M0 => by
  subst hm
  exact grow_step ge may 0 exq l A c used bo Ab nb cb is Il Ib w hlo hhi hmay (fun _ h => by cases h) hlr hu hks hl genv M0
 | r + 1 => fun w exq l A m c used bo Ab nb cb is Il Ib hm hlr hu hks hl genv M0 => by
  subst hm
  exact grow_step ge may (r + 1) exq l A c used bo Ab nb cb is Il Ib w hlo hhi hmay (fun r' h => by injection h with h; subst h; exact grow_any ge may hlo hhi hmay _) hlr hu hks hl genv M0
end Go.Proofs.YtdnbljihhimijaaGreat


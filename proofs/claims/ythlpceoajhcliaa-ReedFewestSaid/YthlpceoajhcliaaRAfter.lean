/-
  reed: a tongue after some strokes.
-/
import Derived.Test.YthlpceoajhcliaaRAfterP
import Derived.Test.YthlpceoajhcliaaBase2
namespace Go.Proofs.Ythlpceoajhcliaa
set_option linter.unusedSimpArgs false
set_option linter.unusedVariables false
open Go.RowKit

abbrev stA (s : St) : Array Value := #[.int .i64 s.p0, .int .i64 s.p1, .int .i64 s.t0, .int .i64 s.t1, .int .i64 s.r0, .int .i64 s.r1, .int .i64 s.u0, .int .i64 s.u1, .int .i64 s.d0, .int .i64 s.d1, .int .i64 s.a0, .int .i64 s.a1, .int .i64 s.b0, .int .i64 s.b1, .int .i64 s.le]

set_option maxRecDepth 100000 in
set_option maxHeartbeats 1000000 in
theorem after_any (j : Jb) (A : Option Addr) (c : Nat) (B : Option Addr) (d n : Nat) (l : List Int) (w : World) (hl : Rd w w.heap.size 1 B n (ic l)) (hm : n ≤ 1000) (hs : j.st.upTo 1000) (hk : ∀ k ∈ l, okS k = true) :
    Calls Try.prog 69 #[jobV j A c, .slice B n d] w fun e w' => e = .returned (stV (j.st.after l)) ∧ Below w.heap.size w w' := by
  have HL := Lib.hid hl
  have HN := Lib.hid hl.len1
  have HS := Lib.hid hs
  have HK := Lib.hid hk
  clear hl hs hk
  go_enter Try.func69, Try.ntmps69
  go_wp2
  go_loopw [16] (fun i wr => ∃ (k : Nat) (s : St), k ≤ n ∧ i = .int .i64 k ∧ Hid (j.st.after (l.take k) = s) ∧ Bk wr (w.heap.size + 1) #[.int .i64 0, .int .i64 0, .int .i64 0, .int .i64 0, .int .i64 0, .int .i64 0, .int .i64 0, .int .i64 0, .int .i64 0, .int .i64 0, .int .i64 0, .int .i64 0, .int .i64 0, .int .i64 0, .int .i64 0] ∧ Bk wr (w.heap.size + 2) (stA s) ∧ Below w.heap.size w wr) (fun i _ => n - (intOf i).toNat)
  case atStart => exact ⟨0, j.st, Nat.zero_le _, rfl, rfl, by (repeat' (first | (with_reducible refine Bk.drew ?_) | ((with_reducible refine Bk.newAt _ _ _ _ ?_); (simp; done)) | (with_reducible refine Bk.alloc ?_ _))), Bk.newAt _ _ _ _ (by simp), by (repeat' (first | (with_reducible exact Below.refl _ _) | (with_reducible refine Below.alloc ?_ ?_ _) | (with_reducible refine Below.setCell ?_ ?_ _) | (with_reducible refine Below.drew ?_) | ((with_reducible refine Below.trans ?_ (Below.mono (by assumption) ?_))) | go_size))⟩
  case round =>
    obtain ⟨k, s, hk, rfl, he, b1, b2, hb⟩ := hrel
    have hz := b2.lt
    by_cases hlt : k < n
    · obtain ⟨b, o, x, rfl, hbb, hd, d0⟩ := (HL.out.below hb).at1 hlt
      have HD := Lib.hid hd
      have HO : Hid (okS x = true) := HK.out x (mem_of_drop hd)
      clear hd
      have hb1 : b < wr.heap.size := by omega
      have hu := after_upTo HS.out (l.take k)
      rw [he.out] at hu
      have HU : Hid s.ok := hu.ok (by have : (l.take k).length ≤ k := List.length_take_le _ _; omega)
      clear hu
      go_wp2_with (first
        | (refine wpList_load_blk (by rfl) 92 (.tmp 5) (by rfl) _ (by rfl) _ b2 _ Try.underlying92 (by rfl) (by kernel_rfl) ?_)
        | (go_at_call 104; ((with_reducible refine (filed_any s x _ HU.out HO.out).mono ?_); rintro e w1 ⟨rfl, hb1⟩; have hz1 := hb1.size; (try simp only [World.size_alloc] at hz1); have b1' := b1.below hb1; have b2' := b2.below hb1))
        | (refine wpList_store_blk (by rfl) 92 (.tmp 5) (.tmp 24) (by rfl) _ _ _ (by rfl) (by rfl) b2' (by rfl) (by kernel_rfl) (by simp [Value.oneCell']) ?_; intro w3 b3 ho3))
      go_roundw
      case rel => exact ⟨k + 1, s.filed x, by omega, by go_num, by (show _ = _; rw [after_snoc _ _ _ _ HD.out, he.out]), b1'.oth ho3 (by omega), b3, bl_oth (bl_trans hb hb1 (by omega)) ho3 (by omega)⟩
      case measure => simp [intOf]; omega
    · go_wp2_with (first
        | (refine wpList_load_blk (by rfl) 92 (.tmp 5) (by rfl) _ (by rfl) _ b2 _ Try.underlying92 (by rfl) (by kernel_rfl) ?_)
        | (refine wpList_store_blk (by rfl) 92 (.tmp 4) (.tmp 26) (by rfl) _ _ _ (by rfl) (by rfl) b1 (by rfl) (by kernel_rfl) (by simp [Value.oneCell']) ?_; intro w3 b3 ho3))
      refine ret_blk 4 92 (by rfl) (by rfl) _ (by rfl) _ b3 _ Try.underlying92 (by rfl) (by kernel_rfl) ?_
      have e : l.take k = l := List.take_of_length_le (by have := HN.out; omega)
      have he := he.out
      rw [e] at he
      rw [he]
      exact ⟨rfl, bl_oth hb ho3 (by omega)⟩

end Go.Proofs.Ythlpceoajhcliaa
